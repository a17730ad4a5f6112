/-
  What a journal's List computes (package journal). Conditions: there are fewer than 2^24 commands, each of which may be written.
-/
import Derived.Test.YtahkglanddhncaaYa
namespace Go.Proofs.Ytahkglanddhncaa.V
attribute [local irreducible] GX GO

theorem OwnS.row {w : World} {el sz b len cap : Nat} {a : Option Addr} {cs : List Value} (h : OwnS w el sz (some b) a len cap cs) : ∃ ext, Blk w b (cs ++ ext) := by
  obtain ⟨_, ⟨h, _⟩ | ⟨b', hb, rfl, hl, h | ⟨g, c, cur, hv, _, hg, _, _, hcs, ht⟩⟩⟩ := h
  · cases h
  · cases h.1
  · cases hb
    simp only [Value.slice.injEq, Option.some.injEq, Addr.mk.injEq] at hv
    obtain ⟨⟨rfl, _⟩, _, rfl⟩ := hv
    refine ⟨cur.toList.drop (len * sz), el, ?_⟩
    rw [hg]
    congr 2
    apply Array.toList_inj.1
    rw [← ht]
    simp

/-- A list of commands in new blocks. -/
def ListV (w : World) (xs : List (Nat × Cmd)) (v : Value) (w' : World) : Prop :=
  ∃ a c cells, v = .slice a xs.length c ∧ SlA w' a cells ∧ EntsF w' (fun k => w.heap.size ≤ k) cells xs ∧ (∀ y, a = some y → w.heap.size ≤ y.block ∧ y.block < w'.heap.size) ∧ Ext w w'

theorem CmdF.length {F : Nat → Prop} {w : World} {l : List Value} {c : Cmd} (h : CmdF w F l c) : l.length = 10 := h.v.length

set_option maxHeartbeats 2000000 in
theorem listJ_ret (F : Nat → Prop) (bj : Nat) (j : JS) (w : World) (h : JAt w F bj j) (hl : j.xs.length < 2 ^ 24) (hok : ∀ x ∈ j.xs, OkC x.2) :
    Ret Try.prog 21 [.pointer (some ⟨bj, 0, none⟩)].toArray w (ListV w j.xs) := by
  obtain ⟨od, da, dc, oe, ea, ec, ol, la, lc, cells, hb, h1, h2, h3, hE, hF, k1, k2, k3⟩ := h
  have hcl := EntsF.length hE
  
  refine Ret.enter Try.func21 rfl Try.ntmps21 rfl ?_
  (repeat (first | refine GX.doneD ?_ | refine GX.done ?_ | refine GQ.goNormal ?_ | refine GC.seq ?_ | refine GC.skip ?_ | refine GC.block ?_ | refine GC.exit ?_ | refine GC.ret ?_ | refine GQ.goExit ?_ | refine GQ.goRet ?_ | refine GQ.inNormal ?_ | refine GQ.inExit ?_ | refine GQ.inExitNe rfl ?_ | refine GQ.inRet ?_ | refine GQ.loopExit ?_ | refine GQ.loopRet ?_ | refine GQ.cutExit ?_ | refine GQ.cutRet ?_))
  refine GC.region (.pure 0 .done) rfl ?_
  (repeat (refine GX.pure rfl ?_; refine GO.assign rfl rfl rfl rfl ?_))
  (repeat (first | refine GX.doneD ?_ | refine GX.done ?_ | refine GQ.goNormal ?_ | refine GC.seq ?_ | refine GC.skip ?_ | refine GC.block ?_ | refine GC.exit ?_ | refine GC.ret ?_ | refine GQ.goExit ?_ | refine GQ.goRet ?_ | refine GQ.inNormal ?_ | refine GQ.inExit ?_ | refine GQ.inExitNe rfl ?_ | refine GQ.inRet ?_ | refine GQ.loopExit ?_ | refine GQ.loopRet ?_ | refine GQ.cutExit ?_ | refine GQ.cutRet ?_))
  refine GC.region (.pure 0 (.pure 1 .done)) rfl ?_
  (repeat (refine GX.pure rfl ?_; first | refine GO.move rfl rfl rfl rfl ?_ | refine GO.ptrEqlNil rfl rfl rfl rfl rfl ?_))
  (repeat (first | refine GX.doneD ?_ | refine GX.done ?_ | refine GQ.goNormal ?_ | refine GC.seq ?_ | refine GC.skip ?_ | refine GC.block ?_ | refine GC.exit ?_ | refine GC.ret ?_ | refine GQ.goExit ?_ | refine GQ.goRet ?_ | refine GQ.inNormal ?_ | refine GQ.inExit ?_ | refine GQ.inExitNe rfl ?_ | refine GQ.inRet ?_ | refine GQ.loopExit ?_ | refine GQ.loopRet ?_ | refine GQ.cutExit ?_ | refine GQ.cutRet ?_))
  refine GC.cond rfl (fun hc => ?_) (fun hc => ?_)
  · cases hc
  (repeat (first | refine GX.doneD ?_ | refine GX.done ?_ | refine GQ.goNormal ?_ | refine GC.seq ?_ | refine GC.skip ?_ | refine GC.block ?_ | refine GC.exit ?_ | refine GC.ret ?_ | refine GQ.goExit ?_ | refine GQ.goRet ?_ | refine GQ.inNormal ?_ | refine GQ.inExit ?_ | refine GQ.inExitNe rfl ?_ | refine GQ.inRet ?_ | refine GQ.loopExit ?_ | refine GQ.loopRet ?_ | refine GQ.cutExit ?_ | refine GQ.cutRet ?_))
  refine GC.region (.pure 0 (.pure 1 (.pure 2 (.eff 3 (.eff 4 (.pure 5 .done)))))) rfl ?_
  (repeat (refine GX.pure rfl ?_; first | refine GO.move rfl rfl rfl rfl ?_ | refine GO.assign rfl rfl rfl rfl ?_ | refine GO.nilCheck rfl rfl rfl rfl ?_ | refine GO.fieldAddr rfl rfl rfl rfl rfl ?_ | refine GO.nilCheckF rfl rfl rfl rfl ?_))
  (first | (refine GX.eff rfl ?_; first | refine GO.load1 (hb.get (o := 0 + 2) rfl) rfl rfl rfl ?_ | refine GO.loadN (hb.get (o := 0 + 2) rfl) rfl rfl rfl rfl ?_) | (refine GX.read rfl ?_; first | refine GO.load1R (by assumption) (fun _ hS_ => At.mod (hb.get (o := 0 + 2) rfl) hS_ (by simp)) rfl rfl rfl ?_ | refine GO.loadNR (by assumption) (fun _ hS_ => At.mod (hb.get (o := 0 + 2) rfl) hS_ (by simp)) rfl rfl rfl rfl ?_))
  (refine GX.eff rfl ?_; refine GO.callL rfl rfl rfl rfl rfl (cloneEnts_ret (el := 47) (sz := 11) rfl j.xs.length cells hcl (EntsF.one hE) (by omega) (by omega) la lc w h3.own.sla (fun h => h3.own.nil_cap h)) ?_)
  rintro v w1 ⟨ob, a1, c1, rfl, hO, hE1, hF1, hG1⟩
  refine ⟨fun _ h => by first | trivial | exact Mod.trans h (Ext.mod (by assumption)), ?_⟩
  (repeat (refine GX.pure rfl ?_; first | refine GO.move rfl rfl rfl rfl ?_ | refine GO.assign rfl rfl rfl rfl ?_ | refine GO.nilCheck rfl rfl rfl rfl ?_ | refine GO.fieldAddr rfl rfl rfl rfl rfl ?_ | refine GO.nilCheckF rfl rfl rfl rfl ?_))
  (repeat (first | refine GX.doneD ?_ | refine GX.done ?_ | refine GQ.goNormal ?_ | refine GC.seq ?_ | refine GC.skip ?_ | refine GC.block ?_ | refine GC.exit ?_ | refine GC.ret ?_ | refine GQ.goExit ?_ | refine GQ.goRet ?_ | refine GQ.inNormal ?_ | refine GQ.inExit ?_ | refine GQ.inExitNe rfl ?_ | refine GQ.inRet ?_ | refine GQ.loopExit ?_ | refine GQ.loopRet ?_ | refine GQ.cutExit ?_ | refine GQ.cutRet ?_))
  refine GC.region (.pure 0 (.pure 1 (.pure 2 .done))) rfl ?_
  (repeat (refine GX.pure rfl ?_; first | refine GO.move rfl rfl rfl rfl ?_ | refine GO.lenSlice rfl rfl rfl rfl ?_))
  (repeat (first | refine GX.doneD ?_ | refine GX.done ?_ | refine GQ.goNormal ?_ | refine GC.seq ?_ | refine GC.skip ?_ | refine GC.block ?_ | refine GC.exit ?_ | refine GC.ret ?_ | refine GQ.goExit ?_ | refine GQ.goRet ?_ | refine GQ.inNormal ?_ | refine GQ.inExit ?_ | refine GQ.inExitNe rfl ?_ | refine GQ.inRet ?_ | refine GQ.loopExit ?_ | refine GQ.loopRet ?_ | refine GQ.cutExit ?_ | refine GQ.cutRet ?_))
  have hE' : EntsF w1 (fun k => k < w.heap.size) cells j.xs := EntsF.mod hE1 (fun _ _ _ h => h) (EntsF.mono (fun k hk _ => hk) hE)
  by_cases h0 : j.xs.length = 0
  · have hx0 : j.xs = [] := List.eq_nil_of_length_eq_zero h0
    refine GC.loop (X := Unit) (fun _ => [(3, .slice a1 j.xs.length c1), (13, .int .i64 j.xs.length), (14, .int .i64 (0 : Nat))]) (fun _ w' => w' = w1) (fun _ => 0) () (sub_pick (l := [3, 13, 14]) rfl) rfl ?_
    rintro _ w' rfl
    (repeat (first | refine GX.doneD ?_ | refine GX.done ?_ | refine GQ.goNormal ?_ | refine GC.seq ?_ | refine GC.skip ?_ | refine GC.block ?_ | refine GC.exit ?_ | refine GC.ret ?_ | refine GQ.goExit ?_ | refine GQ.goRet ?_ | refine GQ.inNormal ?_ | refine GQ.inExit ?_ | refine GQ.inExitNe rfl ?_ | refine GQ.inRet ?_ | refine GQ.loopExit ?_ | refine GQ.loopRet ?_ | refine GQ.cutExit ?_ | refine GQ.cutRet ?_))
    refine GC.region (.pure 0 .done) rfl ?_
    (repeat (refine GX.pure rfl ?_; refine GO.lss rfl rfl rfl rfl rfl ?_))
    (repeat (first | refine GX.doneD ?_ | refine GX.done ?_ | refine GQ.goNormal ?_ | refine GC.seq ?_ | refine GC.skip ?_ | refine GC.block ?_ | refine GC.exit ?_ | refine GC.ret ?_ | refine GQ.goExit ?_ | refine GQ.goRet ?_ | refine GQ.inNormal ?_ | refine GQ.inExit ?_ | refine GQ.inExitNe rfl ?_ | refine GQ.inRet ?_ | refine GQ.loopExit ?_ | refine GQ.loopRet ?_ | refine GQ.cutExit ?_ | refine GQ.cutRet ?_))
    refine GC.cond rfl (fun hc2 => ?_) (fun hc2 => ?_)
    · have := of_decide_eq_true hc2; omega
    (repeat (first | refine GX.doneD ?_ | refine GX.done ?_ | refine GQ.goNormal ?_ | refine GC.seq ?_ | refine GC.skip ?_ | refine GC.block ?_ | refine GC.exit ?_ | refine GC.ret ?_ | refine GQ.goExit ?_ | refine GQ.goRet ?_ | refine GQ.inNormal ?_ | refine GQ.inExit ?_ | refine GQ.inExitNe rfl ?_ | refine GQ.inRet ?_ | refine GQ.loopExit ?_ | refine GQ.loopRet ?_ | refine GQ.cutExit ?_ | refine GQ.cutRet ?_))
    refine GC.region (.pure 0 (.pure 1 .done)) rfl ?_
    (repeat (refine GX.pure rfl ?_; first | refine GO.move rfl rfl rfl rfl ?_ | refine GO.assign rfl rfl rfl rfl ?_))
    (repeat (first | refine GX.doneD ?_ | refine GX.done ?_ | refine GQ.goNormal ?_ | refine GC.seq ?_ | refine GC.skip ?_ | refine GC.block ?_ | refine GC.exit ?_ | refine GC.ret ?_ | refine GQ.goExit ?_ | refine GQ.goRet ?_ | refine GQ.inNormal ?_ | refine GQ.inExit ?_ | refine GQ.inExitNe rfl ?_ | refine GQ.inRet ?_ | refine GQ.loopExit ?_ | refine GQ.loopRet ?_ | refine GQ.cutExit ?_ | refine GQ.cutRet ?_))
    refine GQ.ret1 (by first | exact .inl rfl | exact .inr rfl) rfl rfl ?_
    have hcells : cells = [] := List.eq_nil_of_length_eq_zero (by omega)
    refine ⟨a1, c1, [], rfl, by have := hO.sla; rwa [hcells] at this, by rw [hx0]; rfl, fun y hy => ?_, hE1⟩
    have := hG1 y hy
    subst this
    exact ⟨hF1 _ rfl, hO.block.2⟩
  obtain ⟨b, o, ha1, _⟩ := hO.sla.of_pos (by omega)
  have hob := hG1 _ ha1
  dsimp only at hob
  subst hob
  obtain ⟨ha1', hbl⟩ := hO.block
  rw [ha1'] at ha1
  simp at ha1
  subst ha1 ha1'
  obtain ⟨ext, hrow⟩ := hO.row
  have hbge : w.heap.size ≤ b := hF1 b rfl
  refine GC.loop (X := Nat) (fun k => [(3, .slice (some ⟨b, 0, none⟩) j.xs.length c1), (13, .int .i64 j.xs.length), (14, .int .i64 k)])
    (fun k w' => k ≤ j.xs.length ∧ Ext w w' ∧ ∃ D T, Blk w' b (D ++ T ++ ext) ∧ EntsF w' (fun k => w.heap.size ≤ k ∧ k ≠ b) D (j.xs.take k) ∧ EntsF w' (fun k => k < w.heap.size) T (j.xs.drop k))
    (fun k => j.xs.length - k) 0 (sub_pick (l := [3, 13, 14]) rfl) ⟨Nat.zero_le _, hE1, [], cells, by simpa using hrow, rfl, by simpa using hE'⟩ ?_
  rintro k w2 ⟨hk, hE2, D, T, hB2, hD, hT⟩
  (repeat (first | refine GX.doneD ?_ | refine GX.done ?_ | refine GQ.goNormal ?_ | refine GC.seq ?_ | refine GC.skip ?_ | refine GC.block ?_ | refine GC.exit ?_ | refine GC.ret ?_ | refine GQ.goExit ?_ | refine GQ.goRet ?_ | refine GQ.inNormal ?_ | refine GQ.inExit ?_ | refine GQ.inExitNe rfl ?_ | refine GQ.inRet ?_ | refine GQ.loopExit ?_ | refine GQ.loopRet ?_ | refine GQ.cutExit ?_ | refine GQ.cutRet ?_))
  refine GC.region (.pure 0 .done) rfl ?_
  (repeat (refine GX.pure rfl ?_; refine GO.lss rfl rfl rfl rfl rfl ?_))
  (repeat (first | refine GX.doneD ?_ | refine GX.done ?_ | refine GQ.goNormal ?_ | refine GC.seq ?_ | refine GC.skip ?_ | refine GC.block ?_ | refine GC.exit ?_ | refine GC.ret ?_ | refine GQ.goExit ?_ | refine GQ.goRet ?_ | refine GQ.inNormal ?_ | refine GQ.inExit ?_ | refine GQ.inExitNe rfl ?_ | refine GQ.inRet ?_ | refine GQ.loopExit ?_ | refine GQ.loopRet ?_ | refine GQ.cutExit ?_ | refine GQ.cutRet ?_))
  refine GC.cond rfl (fun hc2 => ?_) (fun hc2 => ?_)
  · have hlt : k < j.xs.length := by have := of_decide_eq_true hc2; omega
    rw [List.drop_eq_getElem_cons hlt] at hT
    obtain ⟨A, T', rfl, ⟨l, rfl, hcm⟩, hT'⟩ := hT
    have hDl := EntsF.length hD
    rw [List.length_take, Nat.min_eq_left hk] at hDl
    have hll := hcm.length
    (repeat (first | refine GX.doneD ?_ | refine GX.done ?_ | refine GQ.goNormal ?_ | refine GC.seq ?_ | refine GC.skip ?_ | refine GC.block ?_ | refine GC.exit ?_ | refine GC.ret ?_ | refine GQ.goExit ?_ | refine GQ.goRet ?_ | refine GQ.inNormal ?_ | refine GQ.inExit ?_ | refine GQ.inExitNe rfl ?_ | refine GQ.inRet ?_ | refine GQ.loopExit ?_ | refine GQ.loopRet ?_ | refine GQ.cutExit ?_ | refine GQ.cutRet ?_))
    refine GC.region (.pure 0 (.pure 1 .done)) rfl ?_
    (repeat (refine GX.pure rfl ?_; first | refine GO.move rfl rfl rfl rfl ?_ | refine GO.assign rfl rfl rfl rfl ?_))
    (repeat (first | refine GX.doneD ?_ | refine GX.done ?_ | refine GQ.goNormal ?_ | refine GC.seq ?_ | refine GC.skip ?_ | refine GC.block ?_ | refine GC.exit ?_ | refine GC.ret ?_ | refine GQ.goExit ?_ | refine GQ.goRet ?_ | refine GQ.inNormal ?_ | refine GQ.inExit ?_ | refine GQ.inExitNe rfl ?_ | refine GQ.inRet ?_ | refine GQ.loopExit ?_ | refine GQ.loopRet ?_ | refine GQ.cutExit ?_ | refine GQ.cutRet ?_))
    refine GC.region (.pure 0 (.pure 1 (.pure 2 (.pure 3 (.pure 4 (.pure 5 (.eff 6 (.eff 7 (.pure 8 (.pure 9 (.eff 10 .done))))))))))) rfl ?_
    (repeat (refine GX.pure rfl ?_; first | refine GO.move rfl rfl rfl rfl ?_ | refine GO.fieldAddr rfl rfl rfl rfl rfl ?_))
    refine GX.pure rfl (GO.indexAddr rfl rfl rfl rfl (by omega) (by omega) rfl ?_)
    (repeat (refine GX.pure rfl ?_; first | refine GO.move rfl rfl rfl rfl ?_ | refine GO.fieldAddr rfl rfl rfl rfl rfl ?_))
    have e1 : ((k : Int)).toNat = k := by omega
    rw [e1]
    have hAt : At w2 b (0 + k * 11 + 1) l := by
      have := hB2.at
      have := (this.sub (k * 11 + 1) l (fun i v hv => by
        rw [List.append_assoc, List.getElem?_append_right (by omega)]
        have : k * 11 + 1 + i - D.length = i + 1 := by omega
        rw [this]
        simp only [List.cons_append, List.getElem?_cons_succ]
        rw [List.append_assoc, List.getElem?_append_left (List.getElem?_eq_some_iff.1 hv).1]
        exact hv))
      rwa [← Nat.add_assoc] at this
    refine GX.eff rfl ?_
    refine GO.loadN hAt hll rfl rfl rfl ?_
    (refine GX.eff rfl ?_; refine GO.callL rfl rfl rfl rfl rfl (copied_ret j.xs[k].2 (hok _ (List.getElem_mem hlt)) l 0 w2 hcm.v) ?_)
    rintro v w3 ⟨l', rfl, hV3, hE3⟩
    refine ⟨fun _ h => by first | trivial | exact Mod.trans h (Ext.mod (by assumption)), ?_⟩
    refine GX.pure rfl (GO.indexAddr rfl rfl rfl rfl (by omega) (by omega) rfl ?_)
    (repeat (refine GX.pure rfl ?_; first | refine GO.move rfl rfl rfl rfl ?_ | refine GO.fieldAddr rfl rfl rfl rfl rfl ?_))
    rw [e1]
    have hB3 := hB2.ext hE3
    refine GX.eff rfl ?_
    refine GO.store (vs := l') (hB3.wr (by simp [hll]; omega)) rfl hV3.length hV3.one rfl rfl rfl fun w4 hp => ⟨(by first | exact fun _ _ => trivial | exact late_abs (by kernel_rfl)), ?_⟩
    (repeat (first | refine GX.doneD ?_ | refine GX.done ?_ | refine GQ.goNormal ?_ | refine GC.seq ?_ | refine GC.skip ?_ | refine GC.block ?_ | refine GC.exit ?_ | refine GC.ret ?_ | refine GQ.goExit ?_ | refine GQ.goRet ?_ | refine GQ.inNormal ?_ | refine GQ.inExit ?_ | refine GQ.inExitNe rfl ?_ | refine GQ.inRet ?_ | refine GQ.loopExit ?_ | refine GQ.loopRet ?_ | refine GQ.cutExit ?_ | refine GQ.cutRet ?_))
    refine GC.region (.pure 0 (.pure 1 .done)) rfl ?_
    (repeat (refine GX.pure rfl ?_; first | refine GO.move rfl rfl rfl rfl ?_ | refine GO.add rfl rfl rfl rfl rfl (wrapIn (by dsimp only [InK]; omega)) ?_))
    (repeat (first | refine GX.doneD ?_ | refine GX.done ?_ | refine GQ.goNormal ?_ | refine GC.seq ?_ | refine GC.skip ?_ | refine GC.block ?_ | refine GC.exit ?_ | refine GC.ret ?_ | refine GQ.goExit ?_ | refine GQ.goRet ?_ | refine GQ.inNormal ?_ | refine GQ.inExit ?_ | refine GQ.inExitNe rfl ?_ | refine GQ.inRet ?_ | refine GQ.loopExit ?_ | refine GQ.loopRet ?_ | refine GQ.cutExit ?_ | refine GQ.cutRet ?_))
    have hb4 : Blk w4 b ((D ++ (.int .u64 j.xs[k].1 :: l')) ++ T' ++ ext) := by
      have := hp.blk hB3
      have e : List.take (0 + k * 11 + 1) (D ++ (Value.int IntKind.u64 ↑j.xs[k].1 :: l ++ T') ++ ext) ++ l' ++ List.drop (0 + k * 11 + 1 + l'.length) (D ++ (Value.int IntKind.u64 ↑j.xs[k].1 :: l ++ T') ++ ext) = (D ++ (.int .u64 j.xs[k].1 :: l')) ++ T' ++ ext := by
        have hl' := hV3.length
        rw [show 0 + k * 11 + 1 = D.length + 1 by omega, hl']
        rw [show D.length + 1 + 10 = D.length + (1 + 10) by omega]
        simp [List.take_append, List.drop_append, hll]
        rw [List.take_of_length_le (by omega), List.drop_eq_nil_of_le (by omega)]
        rfl
      rw [e] at this
      exact this
    have hs2 := hE2.size
    refine GQ.again (k + 1) (sub_pick (l := [3, 13, 14]) rfl) ⟨hlt, (hE2.trans hE3).then hp.mod (fun i hi h => by omega), _, T', hb4, ?_, ?_⟩ (by omega)
    · rw [List.take_succ_eq_append_getElem hlt]
      refine EntsF.snoc ⟨l', rfl, (hV3.f.mod hp.mod ?_).mono ?_⟩ (EntsF.mod hp.mod (fun k _ hk h => hk.2 h) (EntsF.mod hE3 (fun _ _ _ h => h) hD))
      · intro k hk hk2 h
        have := hB2.lt
        omega
      · intro k hk hk2
        have := hB2.lt
        exact ⟨by omega, by omega⟩
    · exact EntsF.mod hp.mod (fun k _ hk h => by omega) (EntsF.mod hE3 (fun _ _ _ h => h) hT')
  · have hge : k = j.xs.length := by have := of_decide_eq_false hc2; omega
    subst hge
    rw [List.drop_length] at hT
    have hT0 : T = [] := hT
    subst hT0
    rw [List.take_length] at hD
    (repeat (first | refine GX.doneD ?_ | refine GX.done ?_ | refine GQ.goNormal ?_ | refine GC.seq ?_ | refine GC.skip ?_ | refine GC.block ?_ | refine GC.exit ?_ | refine GC.ret ?_ | refine GQ.goExit ?_ | refine GQ.goRet ?_ | refine GQ.inNormal ?_ | refine GQ.inExit ?_ | refine GQ.inExitNe rfl ?_ | refine GQ.inRet ?_ | refine GQ.loopExit ?_ | refine GQ.loopRet ?_ | refine GQ.cutExit ?_ | refine GQ.cutRet ?_))
    refine GC.region (.pure 0 (.pure 1 .done)) rfl ?_
    (repeat (refine GX.pure rfl ?_; first | refine GO.move rfl rfl rfl rfl ?_ | refine GO.assign rfl rfl rfl rfl ?_))
    (repeat (first | refine GX.doneD ?_ | refine GX.done ?_ | refine GQ.goNormal ?_ | refine GC.seq ?_ | refine GC.skip ?_ | refine GC.block ?_ | refine GC.exit ?_ | refine GC.ret ?_ | refine GQ.goExit ?_ | refine GQ.goRet ?_ | refine GQ.inNormal ?_ | refine GQ.inExit ?_ | refine GQ.inExitNe rfl ?_ | refine GQ.inRet ?_ | refine GQ.loopExit ?_ | refine GQ.loopRet ?_ | refine GQ.cutExit ?_ | refine GQ.cutRet ?_))
    refine GQ.ret1 (by first | exact .inl rfl | exact .inr rfl) rfl rfl ?_
    refine ⟨_, c1, D, rfl, ?_, EntsF.mono (fun _ _ h => h.1) hD, fun y hy => ?_, hE2⟩
    · have := hB2.at
      rw [List.append_nil] at this
      exact this.left
    · cases hy
      exact ⟨hbge, hB2.lt⟩
end Go.Proofs.Ytahkglanddhncaa.V
