/-
  What the law's function that fills a journal computes. Conditions: there are at most 25 commands, all of them light.
-/
import Derived.Test.YtahkglanddhncaaYs
namespace Go.Proofs.Ytahkglanddhncaa.V

/-! ### The plain law -/

/-- What any command keeps to. -/
structure WfC (c : Cmd) : Prop where
  op : -9223372036854775808 ≤ c.op ∧ c.op < 9223372036854775808
  life : c.life < 18446744073709551616
  version : c.version < 18446744073709551616
theorem tot_le : ∀ (l : List (List UInt8)), (∀ x ∈ l, x.length ≤ 300) → tot l ≤ 311 * l.length
  | [], _ => by simp [tot]
  | s :: r, h => by
    have h1 := h s (by simp)
    have h2 := tot_le r (fun x hx => h x (by simp [hx]))
    simp only [tot, List.length_cons]
    omega
theorem LightC.size {c : Cmd} (h : LightC c) : csize c ≤ 14040 := by
  have h1 := tot_le c.keys h.keys
  have h2 := tot_le c.tags h.tags
  have := h.keysN
  have := h.tagsN
  have := h.key
  have := h.child
  have := h.pre
  have := h.tag
  have := h.value
  unfold csize
  omega
theorem LightC.ok {c : Cmd} (h : LightC c) (hw : WfC c) : OkC c := by
  have h1 := h.size
  have h2 := h.keysN
  have h3 := h.tagsN
  exact ⟨hw.op, by omega, by omega, by omega, hw.life, hw.version⟩
theorem recJ_small (s : Nat) (x : Nat × Cmd) : (recJ s x).length ≤ csize x.2 + 40 := by
  unfold recJ
  split
  · have h1 := written_len x.2
    have h3 := putN_length x.1
    have h4 := putN_length ((written x.2).data.length + 1)
    simp [recHead, writeF, sumB]
    omega
  · simp
def stepF (j : JS) (x : Nat × Cmd) : JS := if canR x then plusJ j x else j
def jx (xs : List (Nat × Cmd)) (k : Nat) : JS := (xs.take k).foldl stepF zeroJ
theorem jx_succ {xs : List (Nat × Cmd)} {k : Nat} (h : k < xs.length) : jx xs (k + 1) = stepF (jx xs k) xs[k] := by
  unfold jx
  rw [List.take_succ_eq_append_getElem h, List.foldl_append]
  rfl
structure SmJ (k : Nat) (j : JS) : Prop where
  data : j.data.length ≤ 20000 * k
  four : j.data.length = 0 ∨ 4 ≤ j.data.length
  ends : j.ends.length ≤ k
  xs : j.xs.length ≤ k
theorem jx_sm {xs : List (Nat × Cmd)} (hl : ∀ x ∈ xs, LightC x.2) : ∀ k, k ≤ xs.length → SmJ k (jx xs k)
  | 0, _ => ⟨by simp [jx, zeroJ], .inl rfl, Nat.le_refl _, Nat.le_refl _⟩
  | k + 1, h => by
    obtain ⟨h1, h2, h3, h4⟩ := jx_sm hl k (by omega)
    rw [jx_succ (by omega : k < xs.length)]
    generalize jx xs k = j at *
    have hr := recJ_small (sumOf j.data) xs[k]
    have hs := (hl _ (List.getElem_mem (by omega : k < xs.length))).size
    have h5 := recJ_four (sumOf j.data) xs[k]
    unfold stepF
    split
    · unfold plusJ
      refine ⟨?_, ?_, ?_, ?_⟩
      · simp only [List.length_append]; omega
      · simp only [List.length_append]; omega
      · simp only [List.length_append, List.length_cons, List.length_nil]; omega
      · simp only [List.length_append, List.length_cons, List.length_nil]; omega
    · exact ⟨by omega, h2, by omega, by omega⟩
theorem errJ_no {j : JS} {x : Nat × Cmd} (h : canR x = false) : errJ j x = 2 := by unfold errJ; rw [recJ_cannot h]; rfl
theorem errJ_yes {j : JS} {x : Nat × Cmd} (h : canR x = true) (h1 : j.ends.length < 4096) (h2 : j.data.length + (recJ (sumOf j.data) x).length ≤ 4194304) : errJ j x = 0 := by
  refine errJ_iff.2 ⟨?_, fun hf => ?_⟩
  · rw [recJ_can h]; simp [sumB]
  · unfold fullJ at hf; omega

/-! ### The walk -/

attribute [local irreducible] GX GO
attribute [local irreducible] jx

structure FiX where
  k : Nat
  aa : Option Addr
  ac : Nat
  la : Option Addr
  ln : Nat
  lc : Nat
  ea : Option Addr
  ec : Nat

def FiS (w : World) (xs : List (Nat × Cmd)) (bj : Nat) (y : FiX) (w' : World) : Prop :=
  y.k ≤ xs.length ∧ ∃ F oa ol oe cells ends, JAt w' F bj (jx xs y.k) ∧ (∀ q, F q → w.heap.size ≤ q ∧ q < w'.heap.size ∧ oa ≠ some q ∧ ol ≠ some q ∧ oe ≠ some q) ∧
    Own w' 5 1 oa y.aa (jx xs y.k).data.length y.ac (bytesV (jx xs y.k).data) ∧ Own w' 47 11 ol y.la y.ln y.lc cells ∧ Own w' 3 1 oe y.ea y.ln y.ec ends ∧
    (∀ q, oa = some q → w.heap.size ≤ q ∧ ol ≠ some q ∧ oe ≠ some q) ∧ (∀ q, ol = some q → w.heap.size ≤ q ∧ oe ≠ some q) ∧ (∀ q, oe = some q → w.heap.size ≤ q) ∧ y.ln ≤ y.k ∧ Ext w w'

set_option maxHeartbeats 8000000 in
theorem filled_ret (G : Nat → Prop) (xs : List (Nat × Cmd)) (hn : xs.length ≤ 25) (hlt : ∀ x ∈ xs, LightC x.2) (hwf : ∀ x ∈ xs, x.1 < 18446744073709551616 ∧ WfC x.2) (lcells : List Value) (a : Option Addr) (c : Nat) (w : World) (hA : SlA w a lcells) (hX : EntsF w G lcells xs) :
    Ret Try.prog 10 [.slice a xs.length c].toArray w fun v w' => ∃ bj u1 u2, v = .tuple #[.pointer (some ⟨bj, 0, none⟩), u1, u2] ∧ NewJ w bj (jx xs xs.length) w' := by
  have hxl := EntsF.length hX
  
  refine Ret.enter Try.func10 rfl Try.ntmps10 rfl ?_
  (repeat (first | refine GX.doneD ?_ | refine GX.done ?_ | refine GQ.goNormal ?_ | refine GC.seq ?_ | refine GC.skip ?_ | refine GC.block ?_ | refine GC.exit ?_ | refine GC.ret ?_ | refine GQ.goExit ?_ | refine GQ.goRet ?_ | refine GQ.inNormal ?_ | refine GQ.inExit ?_ | refine GQ.inExitNe rfl ?_ | refine GQ.inRet ?_ | refine GQ.loopExit ?_ | refine GQ.loopRet ?_ | refine GQ.cutExit ?_ | refine GQ.cutRet ?_))
  refine GC.region (.pure 0 (.pure 1 (.pure 2 .done))) rfl ?_
  (repeat (refine GX.pure rfl ?_; refine GO.assign rfl rfl rfl rfl ?_))
  (repeat (first | refine GX.doneD ?_ | refine GX.done ?_ | refine GQ.goNormal ?_ | refine GC.seq ?_ | refine GC.skip ?_ | refine GC.block ?_ | refine GC.exit ?_ | refine GC.ret ?_ | refine GQ.goExit ?_ | refine GQ.goRet ?_ | refine GQ.inNormal ?_ | refine GQ.inExit ?_ | refine GQ.inExitNe rfl ?_ | refine GQ.inRet ?_ | refine GQ.loopExit ?_ | refine GQ.loopRet ?_ | refine GQ.cutExit ?_ | refine GQ.cutRet ?_))
  refine GC.region (.pure 0 (.eff 1 (.pure 2 .done))) rfl ?_
  refine GX.pure rfl ?_
  refine GO.build (out := [.slice none 0 0, .slice none 0 0, .slice none 0 0]) rfl (by kernel_rfl) (by kernel_rfl) rfl rfl rfl rfl ?_
  refine GX.eff rfl ?_
  refine GO.box (l := [.slice none 0 0, .slice none 0 0, .slice none 0 0]) rfl rfl rfl rfl fun bj w1 hbj hBj hE1 => ?_
  refine ⟨fun _ h => by first | trivial | exact Mod.trans h (Ext.mod (by assumption)), ?_⟩
  (repeat (refine GX.pure rfl ?_; refine GO.assign rfl rfl rfl rfl ?_))
  (repeat (first | refine GX.doneD ?_ | refine GX.done ?_ | refine GQ.goNormal ?_ | refine GC.seq ?_ | refine GC.skip ?_ | refine GC.block ?_ | refine GC.exit ?_ | refine GC.ret ?_ | refine GQ.goExit ?_ | refine GQ.goRet ?_ | refine GQ.inNormal ?_ | refine GQ.inExit ?_ | refine GQ.inExitNe rfl ?_ | refine GQ.inRet ?_ | refine GQ.loopExit ?_ | refine GQ.loopRet ?_ | refine GQ.cutExit ?_ | refine GQ.cutRet ?_))
  have hbl := hBj.lt
  have hJ1 : JAt w1 (fun k => k = bj) bj zeroJ := ⟨none, none, 0, none, none, 0, none, none, 0, [], hBj, Own.nil _ _ _, Own.nil _ _ _, Own.nil _ _ _, rfl, rfl, by simp, by simp, by simp⟩
  have hz : jx xs 0 = zeroJ := by with_unfolding_all rfl
  refine GC.region (.pure 0 .done) rfl ?_
  (repeat (refine GX.pure rfl ?_; refine GO.assign rfl rfl rfl rfl ?_))
  (repeat (first | refine GX.doneD ?_ | refine GX.done ?_ | refine GQ.goNormal ?_ | refine GC.seq ?_ | refine GC.skip ?_ | refine GC.block ?_ | refine GC.exit ?_ | refine GC.ret ?_ | refine GQ.goExit ?_ | refine GQ.goRet ?_ | refine GQ.inNormal ?_ | refine GQ.inExit ?_ | refine GQ.inExitNe rfl ?_ | refine GQ.inRet ?_ | refine GQ.loopExit ?_ | refine GQ.loopRet ?_ | refine GQ.cutExit ?_ | refine GQ.cutRet ?_))
  refine GC.region (.pure 0 .done) rfl ?_
  (repeat (refine GX.pure rfl ?_; refine GO.assign rfl rfl rfl rfl ?_))
  (repeat (first | refine GX.doneD ?_ | refine GX.done ?_ | refine GQ.goNormal ?_ | refine GC.seq ?_ | refine GC.skip ?_ | refine GC.block ?_ | refine GC.exit ?_ | refine GC.ret ?_ | refine GQ.goExit ?_ | refine GQ.goRet ?_ | refine GQ.inNormal ?_ | refine GQ.inExit ?_ | refine GQ.inExitNe rfl ?_ | refine GQ.inRet ?_ | refine GQ.loopExit ?_ | refine GQ.loopRet ?_ | refine GQ.cutExit ?_ | refine GQ.cutRet ?_))
  refine GC.region (.pure 0 .done) rfl ?_
  (repeat (refine GX.pure rfl ?_; refine GO.assign rfl rfl rfl rfl ?_))
  (repeat (first | refine GX.doneD ?_ | refine GX.done ?_ | refine GQ.goNormal ?_ | refine GC.seq ?_ | refine GC.skip ?_ | refine GC.block ?_ | refine GC.exit ?_ | refine GC.ret ?_ | refine GQ.goExit ?_ | refine GQ.goRet ?_ | refine GQ.inNormal ?_ | refine GQ.inExit ?_ | refine GQ.inExitNe rfl ?_ | refine GQ.inRet ?_ | refine GQ.loopExit ?_ | refine GQ.loopRet ?_ | refine GQ.cutExit ?_ | refine GQ.cutRet ?_))
  refine GC.region (.pure 0 .done) rfl ?_
  (repeat (refine GX.pure rfl ?_; refine GO.assign rfl rfl rfl rfl ?_))
  (repeat (first | refine GX.doneD ?_ | refine GX.done ?_ | refine GQ.goNormal ?_ | refine GC.seq ?_ | refine GC.skip ?_ | refine GC.block ?_ | refine GC.exit ?_ | refine GC.ret ?_ | refine GQ.goExit ?_ | refine GQ.goRet ?_ | refine GQ.inNormal ?_ | refine GQ.inExit ?_ | refine GQ.inExitNe rfl ?_ | refine GQ.inRet ?_ | refine GQ.loopExit ?_ | refine GQ.loopRet ?_ | refine GQ.cutExit ?_ | refine GQ.cutRet ?_))
  refine GC.region (.pure 0 .done) rfl ?_
  (repeat (refine GX.pure rfl ?_; refine GO.assign rfl rfl rfl rfl ?_))
  (repeat (first | refine GX.doneD ?_ | refine GX.done ?_ | refine GQ.goNormal ?_ | refine GC.seq ?_ | refine GC.skip ?_ | refine GC.block ?_ | refine GC.exit ?_ | refine GC.ret ?_ | refine GQ.goExit ?_ | refine GQ.goRet ?_ | refine GQ.inNormal ?_ | refine GQ.inExit ?_ | refine GQ.inExitNe rfl ?_ | refine GQ.inRet ?_ | refine GQ.loopExit ?_ | refine GQ.loopRet ?_ | refine GQ.cutExit ?_ | refine GQ.cutRet ?_))
  refine GC.loop (X := FiX) (fun y => [(0, .slice a xs.length c), (5, .pointer (some ⟨bj, 0, none⟩)), (6, .slice y.la y.ln y.lc), (7, .slice y.ea y.ln y.ec), (8, .slice y.aa (jx xs y.k).data.length y.ac), (9, .int .u32 (sumOf (jx xs y.k).data)), (10, .int .i64 y.k)]) (FiS w xs bj) (fun y => xs.length - y.k) ⟨0, none, 0, none, 0, 0, none, 0⟩ (sub_pick (l := [0, 5, 6, 7, 8, 9, 10]) (by rw [hz]; rfl))
    ⟨Nat.zero_le _, fun k => k = bj, none, none, none, [], [], by rw [hz]; exact hJ1, fun q hq => ⟨by omega, by omega, by simp, by simp, by simp⟩, by rw [hz]; exact Own.nil _ _ _, Own.nil _ _ _, Own.nil _ _ _, by simp, by simp, by simp, Nat.le_refl _, hE1⟩ ?_
  rintro ⟨k, aa, ac, la, ln, lc, ea, ec⟩ w2 ⟨hk, F, oa, ol, oe, cells, ends, hJ, hF, hOa, hOl, hOe, ka, kl, ke, hln, hE⟩
  dsimp only at hk hJ hF hOa hOl hOe hln hE
  dsimp only
  have hsm := jx_sm hlt k hk
  have hd1 := hsm.data
  have hd2 := hsm.ends
  have hd3 := hsm.xs
  (repeat (first | refine GX.doneD ?_ | refine GX.done ?_ | refine GQ.goNormal ?_ | refine GC.seq ?_ | refine GC.skip ?_ | refine GC.block ?_ | refine GC.exit ?_ | refine GC.ret ?_ | refine GQ.goExit ?_ | refine GQ.goRet ?_ | refine GQ.inNormal ?_ | refine GQ.inExit ?_ | refine GQ.inExitNe rfl ?_ | refine GQ.inRet ?_ | refine GQ.loopExit ?_ | refine GQ.loopRet ?_ | refine GQ.cutExit ?_ | refine GQ.cutRet ?_))
  refine GC.region (.pure 0 (.pure 1 (.pure 2 (.pure 3 .done)))) rfl ?_
  (repeat (refine GX.pure rfl ?_; first | refine GO.move rfl rfl rfl rfl ?_ | refine GO.lenSlice rfl rfl rfl rfl ?_ | refine GO.lss rfl rfl rfl rfl rfl ?_))
  (repeat (first | refine GX.doneD ?_ | refine GX.done ?_ | refine GQ.goNormal ?_ | refine GC.seq ?_ | refine GC.skip ?_ | refine GC.block ?_ | refine GC.exit ?_ | refine GC.ret ?_ | refine GQ.goExit ?_ | refine GQ.goRet ?_ | refine GQ.inNormal ?_ | refine GQ.inExit ?_ | refine GQ.inExitNe rfl ?_ | refine GQ.inRet ?_ | refine GQ.loopExit ?_ | refine GQ.loopRet ?_ | refine GQ.cutExit ?_ | refine GQ.cutRet ?_))
  refine GC.cond rfl (fun h0 => ?_) (fun h0 => ?_)
  · have hkl : k < xs.length := by have := of_decide_eq_true h0; omega
    obtain ⟨ba, ob, rfl, hAt⟩ := hA.of_pos (by omega)
    obtain ⟨lx, hcx0, hlx, hx10, hx20⟩ := hX.at_ hAt hkl
    have hcx := hcx0.mod hE (fun _ _ _ h => h)
    obtain ⟨qa, qb, qc, qd, qe, qf, rfl, _⟩ := hcx0
    have hx1 := hx10.ext hE
    have hx2 := hx20.ext hE
    have hx30 : At w ba (ob + k * 11) (.int .u64 xs[k].1 :: cmdCells xs[k].2 qa qb qc qd qe qf) := hx10.append hx20
    have hx3 : At w2 ba (ob + k * 11) (.int .u64 xs[k].1 :: cmdCells xs[k].2 qa qb qc qd qe qf) := hx1.append hx2
    have e1 : ((k : Int)).toNat = k := by omega
    have hlx0 := hlt _ (List.getElem_mem hkl)
    have hwx := hwf _ (List.getElem_mem hkl)
    have hsucc := jx_succ hkl
    have hokx := hlx0.ok hwx.2
    have hsx := hlx0.size
    have hrs := recJ_small (sumOf (jx xs k).data) xs[k]
    generalize xs[k] = x at *
    obtain ⟨t, cm⟩ := x
    dsimp only at hcx hx1 hx3 hwx hokx hsx hlx0 hrs
    (repeat (first | refine GX.doneD ?_ | refine GX.done ?_ | refine GQ.goNormal ?_ | refine GC.seq ?_ | refine GC.skip ?_ | refine GC.block ?_ | refine GC.exit ?_ | refine GC.ret ?_ | refine GQ.goExit ?_ | refine GQ.goRet ?_ | refine GQ.inNormal ?_ | refine GQ.inExit ?_ | refine GQ.inExitNe rfl ?_ | refine GQ.inRet ?_ | refine GQ.loopExit ?_ | refine GQ.loopRet ?_ | refine GQ.cutExit ?_ | refine GQ.cutRet ?_))
    refine GC.region (.pure 0 (.pure 1 (.pure 2 (.pure 3 (.eff 4 (.eff 5 (.eff 6 (.eff 7 .done)))))))) rfl ?_
    (repeat (refine GX.pure rfl ?_; first | refine GO.move rfl rfl rfl rfl ?_ | refine GO.fieldAddr rfl rfl rfl rfl rfl ?_))
    refine GX.pure rfl (GO.indexAddr rfl rfl rfl rfl (by omega) (by omega) rfl ?_)
    (repeat (refine GX.pure rfl ?_; first | refine GO.move rfl rfl rfl rfl ?_ | refine GO.fieldAddr rfl rfl rfl rfl rfl ?_))
    rw [e1]
    refine GX.eff rfl ?_
    refine GO.loadN hx2 hlx rfl rfl rfl ?_
    (refine GX.eff rfl ?_; refine GO.callL rfl rfl rfl rfl rfl (own_ret cm hokx _ 0 w2 hcx.v) ?_)
    rintro v w3 ⟨l', ko, vo, to, rfl, hOC3, hE3⟩
    refine ⟨fun _ h => by first | trivial | exact Mod.trans h (Ext.mod (by assumption)), ?_⟩
    have hl' : l'.length = 10 := hOC3.f.length
    have h1' : ∀ u ∈ l', u.oneCell' = true := hOC3.f.v.one
    refine GX.eff rfl ?_
    refine GO.alloc rfl rfl fun b11 w4 hb11 hB11 hE4 => ?_
    refine ⟨fun _ h => by first | trivial | exact Mod.trans h (Ext.mod (by assumption)), ?_⟩
    refine GX.eff rfl ?_
    refine GO.store (vs := l') (hB11.wr (by simp)) rfl hl' h1' rfl rfl rfl fun w5 hp5 => ⟨(by first | exact fun _ _ => trivial | exact late_abs (by kernel_rfl)), ?_⟩
    have hE5 : Ext w3 w5 := hE4.then hp5.mod fun i hi h => by omega
    have hC5 : Blk w5 b11 l' := by have := hp5.blk hB11; simpa [hl'] using this
    have hOC5 := hOC3.mod hE5 (fun _ _ _ h => h)
    have hE25 := hE3.trans hE5
    (repeat (first | refine GX.doneD ?_ | refine GX.done ?_ | refine GQ.goNormal ?_ | refine GC.seq ?_ | refine GC.skip ?_ | refine GC.block ?_ | refine GC.exit ?_ | refine GC.ret ?_ | refine GQ.goExit ?_ | refine GQ.goRet ?_ | refine GQ.inNormal ?_ | refine GQ.inExit ?_ | refine GQ.inExitNe rfl ?_ | refine GQ.inRet ?_ | refine GQ.loopExit ?_ | refine GQ.loopRet ?_ | refine GQ.cutExit ?_ | refine GQ.cutRet ?_))
    refine GC.region (.pure 0 (.pure 1 (.pure 2 (.pure 3 (.eff 4 (.eff 5 (.pure 6 (.pure 7 (.pure 8 (.pure 9 (.pure 10 .done))))))))))) rfl ?_
    (repeat (refine GX.pure rfl ?_; first | refine GO.move rfl rfl rfl rfl ?_ | refine GO.assign rfl rfl rfl rfl ?_ | refine GO.extract rfl rfl rfl rfl rfl ?_))
    refine GX.pure rfl (GO.indexAddr rfl rfl rfl rfl (by omega) (by omega) rfl ?_)
    rw [e1]
    refine GX.eff rfl ?_
    refine GO.loadN (hx3.ext hE25) rfl rfl rfl rfl ?_
    (refine GX.eff rfl ?_; refine GO.callL rfl rfl rfl rfl rfl (recordL_ret (sumOf (jx xs k).data) (sumOf_lt _) (t, cm) hwx.1 hokx (.int .u64 t :: cmdCells cm qa qb qc qd qe qf) w5 ⟨_, rfl, (hcx.mod hE25 (fun _ _ _ h => h)).v⟩) ?_)
    rintro v w6 ⟨u, rfl, ⟨or_, ra, rc, rfl, hO6, hF6, hG6⟩, hE6⟩
    refine ⟨fun _ h => by first | trivial | exact Mod.trans h (Ext.mod (by assumption)), ?_⟩
    (repeat (refine GX.pure rfl ?_; first | refine GO.move rfl rfl rfl rfl ?_ | refine GO.assign rfl rfl rfl rfl ?_ | refine GO.extract rfl rfl rfl rfl rfl ?_))
    (repeat (first | refine GX.doneD ?_ | refine GX.done ?_ | refine GQ.goNormal ?_ | refine GC.seq ?_ | refine GC.skip ?_ | refine GC.block ?_ | refine GC.exit ?_ | refine GC.ret ?_ | refine GQ.goExit ?_ | refine GQ.goRet ?_ | refine GQ.inNormal ?_ | refine GQ.inExit ?_ | refine GQ.inExitNe rfl ?_ | refine GQ.inRet ?_ | refine GQ.loopExit ?_ | refine GQ.loopRet ?_ | refine GQ.cutExit ?_ | refine GQ.cutRet ?_))
    refine GC.pick [0, 5, 6, 7, 8, 9, 10, 11, 12, 13] rfl ?_
    refine GC.regionD (.pure 0 (.pure 1 (.pure 2 (.pure 3 (.pure 4 (.read 5 (.read 6 (.eff 7 (.pure 8 .done))))))))) (F) mixed (by kernel_rfl) (by kernel_rfl) ?_
    intro w7 _ hE7
    have hS : Mod F w6 w7 := Ext.mod hE7
    (repeat (refine GX.pure rfl ?_; first | refine GO.move rfl rfl rfl rfl ?_ | refine GO.assign rfl rfl rfl rfl ?_ | refine GO.fieldAddr rfl rfl rfl rfl rfl ?_))
    refine GX.pure rfl (GO.indexAddr rfl rfl rfl rfl (by omega) (by omega) rfl ?_)
    (repeat (refine GX.pure rfl ?_; first | refine GO.move rfl rfl rfl rfl ?_ | refine GO.assign rfl rfl rfl rfl ?_ | refine GO.fieldAddr rfl rfl rfl rfl rfl ?_))
    rw [e1]
    have hE26 := hE25.trans hE6
    have hE27 := hE26.trans hE7
    have hFb : ¬ F ba := fun hf => by
      have h0 := block_lt_of_cell (hx10 0 _ rfl)
      have := (hF ba hf).1
      simp at h0
      omega
    have hF11 : ¬ F b11 := fun hf => by have := (hF _ hf).2.1; have := hE3.size; omega
    refine GX.read rfl ?_
    refine GO.load1R (by assumption) (fun _ hS_ => At.mod (hx1.ext hE26) hS_ hFb) rfl rfl rfl ?_
    refine GX.read rfl ?_
    refine GO.loadNR (by assumption) (fun _ hS_ => At.mod (hC5.ext hE6).at hS_ hF11) hl' rfl rfl rfl ?_
    have s3 := hE3.size
    have s5 := hE5.size
    have s6 := hE6.size
    have s7 := hE7.size
    have hOw : ∀ q, (some q = ko ∨ some q = vo ∨ some q = to) → w2.heap.size ≤ q ∧ q < w3.heap.size := by
      obtain ⟨_, _, _, _, _, _, _, z1, z2, z3, z4, z5, z6⟩ := hOC3
      rintro q (h | h | h)
      · exact ⟨(z4 q h.symm).1, z1.lt q h.symm⟩
      · exact ⟨(z5 q h.symm).1, z2.lt q h.symm⟩
      · exact ⟨(z6 q h.symm).1, z3.lt q h.symm⟩
    have hOC7 := hOC5.mod (hE6.trans hE7) (fun _ _ _ h => h)
    (refine GX.eff rfl ?_; refine GO.callL rfl rfl rfl rfl rfl (append_ret F bj (jx xs k) t cm hwx.1 hokx l' w7 (hJ.ext hE27) (hOC7.f.mono (fun q hq hh hf => by have := (hF q hf).2.1; omega)) (by omega) hsm.four (by omega) (by omega)) ?_)
    rintro v w8 ⟨rfl, hJ8, hM8⟩
    refine ⟨fun _ h => h.trans hM8, ?_⟩
    (repeat (refine GX.pure rfl ?_; first | refine GO.move rfl rfl rfl rfl ?_ | refine GO.assign rfl rfl rfl rfl ?_ | refine GO.fieldAddr rfl rfl rfl rfl rfl ?_))
    (repeat (first | refine GX.doneD ?_ | refine GX.done ?_ | refine GQ.goNormal ?_ | refine GC.seq ?_ | refine GC.skip ?_ | refine GC.block ?_ | refine GC.exit ?_ | refine GC.ret ?_ | refine GQ.goExit ?_ | refine GQ.goRet ?_ | refine GQ.inNormal ?_ | refine GQ.inExit ?_ | refine GQ.inExitNe rfl ?_ | refine GQ.inRet ?_ | refine GQ.loopExit ?_ | refine GQ.loopRet ?_ | refine GQ.cutExit ?_ | refine GQ.cutRet ?_))
    have s8 := hM8.size
    have hOC8 := hOC7.mod hM8 (fun q hq _ hf => by have := (hF q hf).2.1; omega)
    have hC8 : Blk w8 b11 l' := (hC5.ext (hE6.trans hE7)).mod hM8 (fun hf => by have := (hF _ hf).2.1; omega)
    refine GC.region (.eff 0 (.eff 1 .done)) rfl ?_
    refine GX.eff rfl ?_
    refine GO.loadN hC8.at hl' rfl rfl rfl ?_
    (refine GX.eff rfl ?_; refine GO.callL rfl rfl rfl rfl rfl (spoil_ret cm hokx w2.heap.size l' ko vo to w8 hOC8) ?_)
    rintro v w9 ⟨rfl, hM9⟩
    refine ⟨fun _ h => by first | trivial | exact Mod.trans h (Ext.mod (by assumption)), ?_⟩
    skip
    (repeat (first | refine GX.doneD ?_ | refine GX.done ?_ | refine GQ.goNormal ?_ | refine GC.seq ?_ | refine GC.skip ?_ | refine GC.block ?_ | refine GC.exit ?_ | refine GC.ret ?_ | refine GQ.goExit ?_ | refine GQ.goRet ?_ | refine GQ.inNormal ?_ | refine GQ.inExit ?_ | refine GQ.inExitNe rfl ?_ | refine GQ.inRet ?_ | refine GQ.loopExit ?_ | refine GQ.loopRet ?_ | refine GQ.cutExit ?_ | refine GQ.cutRet ?_))
    have s9 := hM9.size
    have rA : ∀ q, oa = some q → q < w2.heap.size := hOa.lt
    have rL : ∀ q, ol = some q → q < w2.heap.size := hOl.lt
    have rE : ∀ q, oe = some q → q < w2.heap.size := hOe.lt
    have hM29 : Mod (fun q => F q ∨ w2.heap.size ≤ q) w2 w9 := ((Ext.mod hE27).trans (hM8.of fun q hq => .inl hq)).trans (hM9.of fun q hq => .inr (hOw q hq).1)
    have hOa9 := hOa.mod hM29 (fun q hq h => h.elim (fun h => (hF q h).2.2.1 hq) (fun h => by have := rA q hq; omega))
    have hOl9 := hOl.mod hM29 (fun q hq h => h.elim (fun h => (hF q h).2.2.2.1 hq) (fun h => by have := rL q hq; omega))
    have hOe9 := hOe.mod hM29 (fun q hq h => h.elim (fun h => (hF q h).2.2.2.2 hq) (fun h => by have := rE q hq; omega))
    have hJ9 : JAt w9 (fun q => (F q ∨ w7.heap.size ≤ q) ∧ q < w9.heap.size) bj (addJ (jx xs k) (t, cm)) := (hJ8.mod hM9 (fun q hq hf h => by
      have h1 := hOw q h
      rcases hf with hf | hf
      · have := (hF q hf).2.1; omega
      · omega)).mono (fun q hq hf => ⟨hf, hq⟩)
    have hE29 : Ext w w9 := hE.then hM29 (fun i hi h => by
      have := hE.size
      rcases h with h | h
      · have := (hF i h).1; omega
      · omega)
    have hF9 : ∀ q, ((F q ∨ w7.heap.size ≤ q) ∧ q < w9.heap.size) → w.heap.size ≤ q ∧ q < w9.heap.size ∧ oa ≠ some q ∧ ol ≠ some q ∧ oe ≠ some q := by
      have := hE.size
      rintro q ⟨h | h, hq⟩
      · exact ⟨(hF q h).1, hq, (hF q h).2.2⟩
      · exact ⟨by omega, hq, fun h' => by have := rA q h'; omega, fun h' => by have := rL q h'; omega, fun h' => by have := rE q h'; omega⟩
    have hB6 : BytesAt w6 ra rc (recJ (sumOf (jx xs k).data) (t, cm)) := hO6.bytes hG6
    have hB9 : BytesAt w9 ra rc (recJ (sumOf (jx xs k).data) (t, cm)) := ((hB6.ext hE7).mod hM8 (fun y hy _ hf => by have := (hF _ hf).2.1; have := hF6 _ (hG6 y hy); omega)).mod hM9 (fun y hy _ h => by have := hOw _ h; have := hF6 _ (hG6 y hy); omega)
    have hx39 := hx30.ext hE29
    refine GC.pick [0, 5, 6, 7, 8, 9, 10, 12, 13, 14] rfl ?_
    refine GC.region (.pure 0 (.pure 1 .done)) rfl ?_
    (repeat (refine GX.pure rfl ?_; first | refine GO.move rfl rfl rfl rfl ?_ | refine GO.not rfl rfl rfl rfl ?_))
    (repeat (first | refine GX.doneD ?_ | refine GX.done ?_ | refine GQ.goNormal ?_ | refine GC.seq ?_ | refine GC.skip ?_ | refine GC.block ?_ | refine GC.exit ?_ | refine GC.ret ?_ | refine GQ.goExit ?_ | refine GQ.goRet ?_ | refine GQ.inNormal ?_ | refine GQ.inExit ?_ | refine GQ.inExitNe rfl ?_ | refine GQ.inRet ?_ | refine GQ.loopExit ?_ | refine GQ.loopRet ?_ | refine GQ.cutExit ?_ | refine GQ.cutRet ?_))
    refine GC.cond rfl (fun hc1 => ?_) (fun hc1 => ?_)
    · have hcr : canR (t, cm) = false := by simpa using hc1
      have hjj : jx xs (k + 1) = jx xs k := by rw [hsucc]; unfold stepF; rw [if_neg (by simp [hcr])]
      have hadd : addJ (jx xs k) (t, cm) = jx xs k := by unfold addJ; rw [if_neg (by rw [errJ_no hcr]; decide)]
      rw [hadd] at hJ9
      (repeat (first | refine GX.doneD ?_ | refine GX.done ?_ | refine GQ.goNormal ?_ | refine GC.seq ?_ | refine GC.skip ?_ | refine GC.block ?_ | refine GC.exit ?_ | refine GC.ret ?_ | refine GQ.goExit ?_ | refine GQ.goRet ?_ | refine GQ.inNormal ?_ | refine GQ.inExit ?_ | refine GQ.inExitNe rfl ?_ | refine GQ.inRet ?_ | refine GQ.loopExit ?_ | refine GQ.loopRet ?_ | refine GQ.cutExit ?_ | refine GQ.cutRet ?_))
      refine GC.region (.pure 0 (.pure 1 .done)) rfl ?_
      (repeat (refine GX.pure rfl ?_; first | refine GO.move rfl rfl rfl rfl ?_ | refine GO.neq rfl rfl rfl rfl rfl ?_))
      (repeat (first | refine GX.doneD ?_ | refine GX.done ?_ | refine GQ.goNormal ?_ | refine GC.seq ?_ | refine GC.skip ?_ | refine GC.block ?_ | refine GC.exit ?_ | refine GC.ret ?_ | refine GQ.goExit ?_ | refine GQ.goRet ?_ | refine GQ.inNormal ?_ | refine GQ.inExit ?_ | refine GQ.inExitNe rfl ?_ | refine GQ.inRet ?_ | refine GQ.loopExit ?_ | refine GQ.loopRet ?_ | refine GQ.cutExit ?_ | refine GQ.cutRet ?_))
      rw [errJ_no hcr]
      refine GC.cond rfl (fun hc2 => ?_) (fun hc2 => ?_)
      · exact absurd (of_decide_eq_true hc2) (by decide)
      (repeat (first | refine GX.doneD ?_ | refine GX.done ?_ | refine GQ.goNormal ?_ | refine GC.seq ?_ | refine GC.skip ?_ | refine GC.block ?_ | refine GC.exit ?_ | refine GC.ret ?_ | refine GQ.goExit ?_ | refine GQ.goRet ?_ | refine GQ.inNormal ?_ | refine GQ.inExit ?_ | refine GQ.inExitNe rfl ?_ | refine GQ.inRet ?_ | refine GQ.loopExit ?_ | refine GQ.loopRet ?_ | refine GQ.cutExit ?_ | refine GQ.cutRet ?_))
      refine GC.region (.pure 0 (.pure 1 (.pure 2 .done))) rfl ?_
      (repeat (refine GX.pure rfl ?_; first | refine GO.move rfl rfl rfl rfl ?_ | refine GO.assign rfl rfl rfl rfl ?_ | refine GO.add rfl rfl rfl rfl rfl (wrapIn (by dsimp only [InK]; omega)) ?_))
      (repeat (first | refine GX.doneD ?_ | refine GX.done ?_ | refine GQ.goNormal ?_ | refine GC.seq ?_ | refine GC.skip ?_ | refine GC.block ?_ | refine GC.exit ?_ | refine GC.ret ?_ | refine GQ.goExit ?_ | refine GQ.goRet ?_ | refine GQ.inNormal ?_ | refine GQ.inExit ?_ | refine GQ.inExitNe rfl ?_ | refine GQ.inRet ?_ | refine GQ.loopExit ?_ | refine GQ.loopRet ?_ | refine GQ.cutExit ?_ | refine GQ.cutRet ?_))
      refine GQ.again ⟨k + 1, aa, ac, la, ln, lc, ea, ec⟩ (sub_pick (l := [0, 5, 6, 7, 8, 9, 10]) (by rw [hjj]; rfl)) ⟨hkl, _, oa, ol, oe, cells, ends, by rw [hjj]; exact hJ9, hF9, by rw [hjj]; exact hOa9, hOl9, hOe9, ka, kl, ke, by dsimp only; omega, hE29⟩ (by dsimp only; omega)
    have hcr : canR (t, cm) = true := by simpa using hc1
    have hjj : jx xs (k + 1) = plusJ (jx xs k) (t, cm) := by rw [hsucc]; unfold stepF; rw [if_pos hcr]
    have herr : errJ (jx xs k) (t, cm) = 0 := errJ_yes hcr (by omega) (by omega)
    have hadd : addJ (jx xs k) (t, cm) = jx xs (k + 1) := by unfold addJ; rw [if_pos herr, hjj]
    have hdat : (jx xs (k + 1)).data = (jx xs k).data ++ recJ (sumOf (jx xs k).data) (t, cm) := by rw [hjj]; rfl
    have hsum : sumOf (jx xs (k + 1)).data = foldN (sumOf (jx xs k).data) (recHead (t, cm)) := by rw [hjj]; exact sumOf_plus hcr
    rw [hadd] at hJ9
    (repeat (first | refine GX.doneD ?_ | refine GX.done ?_ | refine GQ.goNormal ?_ | refine GC.seq ?_ | refine GC.skip ?_ | refine GC.block ?_ | refine GC.exit ?_ | refine GC.ret ?_ | refine GQ.goExit ?_ | refine GQ.goRet ?_ | refine GQ.inNormal ?_ | refine GQ.inExit ?_ | refine GQ.inExitNe rfl ?_ | refine GQ.inRet ?_ | refine GQ.loopExit ?_ | refine GQ.loopRet ?_ | refine GQ.cutExit ?_ | refine GQ.cutRet ?_))
    refine GC.region (.pure 0 (.pure 1 .done)) rfl ?_
    (repeat (refine GX.pure rfl ?_; first | refine GO.move rfl rfl rfl rfl ?_ | refine GO.neq rfl rfl rfl rfl rfl ?_))
    (repeat (first | refine GX.doneD ?_ | refine GX.done ?_ | refine GQ.goNormal ?_ | refine GC.seq ?_ | refine GC.skip ?_ | refine GC.block ?_ | refine GC.exit ?_ | refine GC.ret ?_ | refine GQ.goExit ?_ | refine GQ.goRet ?_ | refine GQ.inNormal ?_ | refine GQ.inExit ?_ | refine GQ.inExitNe rfl ?_ | refine GQ.inRet ?_ | refine GQ.loopExit ?_ | refine GQ.loopRet ?_ | refine GQ.cutExit ?_ | refine GQ.cutRet ?_))
    rw [herr]
    refine GC.cond rfl (fun hc2 => ?_) (fun hc2 => ?_)
    · exact absurd (of_decide_eq_true hc2) (by decide)
    have hrl : (recJ (sumOf (jx xs k).data) (t, cm)).length = (recHead (t, cm)).length + 4 := by rw [recJ_can hcr]; simp [sumB]
    have htake : (recJ (sumOf (jx xs k).data) (t, cm)).take (recHead (t, cm)).length = recHead (t, cm) := by rw [recJ_can hcr, List.take_left]
    have hcap9 := hB9.cap
    generalize recJ (sumOf (jx xs k).data) (t, cm) = r at *
    generalize recHead (t, cm) = hd at *
    (repeat (first | refine GX.doneD ?_ | refine GX.done ?_ | refine GQ.goNormal ?_ | refine GC.seq ?_ | refine GC.skip ?_ | refine GC.block ?_ | refine GC.exit ?_ | refine GC.ret ?_ | refine GQ.goExit ?_ | refine GQ.goRet ?_ | refine GQ.inNormal ?_ | refine GQ.inExit ?_ | refine GQ.inExitNe rfl ?_ | refine GQ.inRet ?_ | refine GQ.loopExit ?_ | refine GQ.loopRet ?_ | refine GQ.cutExit ?_ | refine GQ.cutRet ?_))
    refine GC.region (.pure 0 (.pure 1 (.pure 2 (.pure 3 (.pure 4 (.pure 5 (.eff 6 (.pure 7 .done)))))))) rfl ?_
    (repeat (refine GX.pure rfl ?_; first | refine GO.move rfl rfl rfl rfl ?_ | refine GO.assign rfl rfl rfl rfl ?_ | refine GO.lenSlice rfl rfl rfl rfl ?_ | refine GO.sub rfl rfl rfl rfl rfl (wrapIn (by dsimp only [InK]; omega)) ?_))
    refine GX.pure rfl ?_
    refine GO.sliceS rfl rfl rfl rfl (bounds_h (by omega) (by omega)) ⟨by simp, by simp; rfl, by simp⟩ ?_
    have e4 : ((r.length : Int) - 4).toNat - 0 = hd.length := by omega
    rw [e4]
    have hpart := hB9.cells.bytes 0 rc hd.length (by omega)
    rw [List.drop_zero, htake] at hpart
    (refine GX.eff rfl ?_; refine GO.callL rfl rfl rfl rfl rfl (sumL_ret (sumOf (jx xs k).data) (sumOf_lt _) hd (by omega) _ _ w9 hpart) ?_)
    rintro v w9' ⟨rfl, rfl⟩
    refine ⟨fun _ h => by first | trivial | exact Mod.trans h (Ext.mod (by assumption)), ?_⟩
    (repeat (refine GX.pure rfl ?_; first | refine GO.move rfl rfl rfl rfl ?_ | refine GO.assign rfl rfl rfl rfl ?_ | refine GO.lenSlice rfl rfl rfl rfl ?_ | refine GO.sub rfl rfl rfl rfl rfl (wrapIn (by dsimp only [InK]; omega)) ?_))
    (repeat (first | refine GX.doneD ?_ | refine GX.done ?_ | refine GQ.goNormal ?_ | refine GC.seq ?_ | refine GC.skip ?_ | refine GC.block ?_ | refine GC.exit ?_ | refine GC.ret ?_ | refine GQ.goExit ?_ | refine GQ.goRet ?_ | refine GQ.inNormal ?_ | refine GQ.inExit ?_ | refine GQ.inExitNe rfl ?_ | refine GQ.inRet ?_ | refine GQ.loopExit ?_ | refine GQ.loopRet ?_ | refine GQ.cutExit ?_ | refine GQ.cutRet ?_))
    refine GC.region (.pure 0 (.pure 1 (.eff 2 (.pure 3 .done)))) rfl ?_
    (repeat (refine GX.pure rfl ?_; first | refine GO.move rfl rfl rfl rfl ?_ | refine GO.assign rfl rfl rfl rfl ?_))
    refine GX.eff rfl ?_
    refine GO.append hOa9.own hB9.cells (by simp) (bytesV_one r) (by omega) (by omega) rfl rfl rfl rfl rfl fun oa' a10 c10 w10 hO10 hM10 hF10 hG10 => ?_
    refine ⟨fun _ h => by first | trivial | exact Mod.trans h (Ext.mod (by assumption)), ?_⟩
    rw [← bytesV_append, ← hdat] at hO10
    have hlen : (jx xs k).data.length + r.length = (jx xs (k + 1)).data.length := by rw [hdat, List.length_append]
    rw [hlen] at hO10 ⊢
    (repeat (refine GX.pure rfl ?_; first | refine GO.move rfl rfl rfl rfl ?_ | refine GO.assign rfl rfl rfl rfl ?_))
    (repeat (first | refine GX.doneD ?_ | refine GX.done ?_ | refine GQ.goNormal ?_ | refine GC.seq ?_ | refine GC.skip ?_ | refine GC.block ?_ | refine GC.exit ?_ | refine GC.ret ?_ | refine GQ.goExit ?_ | refine GQ.goRet ?_ | refine GQ.inNormal ?_ | refine GQ.inExit ?_ | refine GQ.inExitNe rfl ?_ | refine GQ.inRet ?_ | refine GQ.loopExit ?_ | refine GQ.loopRet ?_ | refine GQ.cutExit ?_ | refine GQ.cutRet ?_))
    have hx310 : At w10 ba (ob + k * 11) (.int .u64 t :: cmdCells cm qa qb qc qd qe qf) := hx39.mod hM10 (fun h => by
      have h0 := block_lt_of_cell (hx10 0 _ rfl)
      have := (ka ba h.symm).1
      simp at h0
      omega)
    refine GC.region (.pure 0 (.pure 1 (.pure 2 (.pure 3 (.eff 4 (.eff 5 (.eff 6 (.pure 7 (.pure 8 (.pure 9 (.eff 10 (.eff 11 (.pure 12 (.pure 13 .done)))))))))))))) rfl ?_
    (repeat (refine GX.pure rfl ?_; first | refine GO.move rfl rfl rfl rfl ?_ | refine GO.assign rfl rfl rfl rfl ?_ | refine GO.lenSlice rfl rfl rfl rfl ?_))
    refine GX.pure rfl (GO.indexAddr rfl rfl rfl rfl (by omega) (by omega) rfl ?_)
    rw [e1]
    refine GX.eff rfl ?_
    refine GO.loadN hx310 rfl rfl rfl rfl ?_
    refine GX.eff rfl ?_
    refine GO.buildSlice (out := .int .u64 t :: cmdCells cm qa qb qc qd qe qf) (by kernel_rfl) (by decide) rfl rfl rfl (by simp [cmdCells]) rfl fun b11' w11 hb11' hO11 hE11 => ?_
    refine ⟨fun _ h => by first | trivial | exact Mod.trans h (Ext.mod (by assumption)), ?_⟩
    have hOl11 := (hOl9.mod hM10 (fun q hq h => (ka q h.symm).2.1 hq)).ext hE11
    refine GX.eff rfl ?_
    refine GO.append (m := 1) hOl11.own hO11.sla (by simp [cmdCells]) (by simp [Value.oneCell', cmdCells, str]) (by omega) (by omega) rfl rfl rfl rfl rfl fun ol' a12 c12 w12 hO12 hM12 hF12 hG12 => ?_
    refine ⟨fun _ h => by first | trivial | exact Mod.trans h (Ext.mod (by assumption)), ?_⟩
    (repeat (refine GX.pure rfl ?_; first | refine GO.move rfl rfl rfl rfl ?_ | refine GO.assign rfl rfl rfl rfl ?_ | refine GO.lenSlice rfl rfl rfl rfl ?_))
    refine GX.eff rfl ?_
    refine GO.buildSlice (out := [.int .i64 ((jx xs (k + 1)).data.length : Nat)]) (by kernel_rfl) (by decide) rfl rfl rfl (by simp [Value.oneCell']) rfl fun b13 w13 hb13 hO13 hE13 => ?_
    refine ⟨fun _ h => by first | trivial | exact Mod.trans h (Ext.mod (by assumption)), ?_⟩
    have hOe13 := (((hOe9.mod hM10 (fun q hq h => (ka q h.symm).2.2 hq)).ext hE11).mod hM12 (fun q hq h => (kl q h.symm).2 hq)).ext hE13
    refine GX.eff rfl ?_
    refine GO.append (m := 1) hOe13.own hO13.sla (by simp) (by simp [Value.oneCell']) (by omega) (by omega) rfl rfl rfl rfl rfl fun oe' a14 c14 w14 hO14 hM14 hF14 hG14 => ?_
    refine ⟨fun _ h => by first | trivial | exact Mod.trans h (Ext.mod (by assumption)), ?_⟩
    (repeat (refine GX.pure rfl ?_; first | refine GO.move rfl rfl rfl rfl ?_ | refine GO.assign rfl rfl rfl rfl ?_ | refine GO.lenSlice rfl rfl rfl rfl ?_))
    (repeat (first | refine GX.doneD ?_ | refine GX.done ?_ | refine GQ.goNormal ?_ | refine GC.seq ?_ | refine GC.skip ?_ | refine GC.block ?_ | refine GC.exit ?_ | refine GC.ret ?_ | refine GQ.goExit ?_ | refine GQ.goRet ?_ | refine GQ.inNormal ?_ | refine GQ.inExit ?_ | refine GQ.inExitNe rfl ?_ | refine GQ.inRet ?_ | refine GQ.loopExit ?_ | refine GQ.loopRet ?_ | refine GQ.cutExit ?_ | refine GQ.cutRet ?_))
    refine GC.region (.pure 0 (.pure 1 (.pure 2 .done))) rfl ?_
    (repeat (refine GX.pure rfl ?_; first | refine GO.move rfl rfl rfl rfl ?_ | refine GO.assign rfl rfl rfl rfl ?_ | refine GO.add rfl rfl rfl rfl rfl (wrapIn (by dsimp only [InK]; omega)) ?_))
    (repeat (first | refine GX.doneD ?_ | refine GX.done ?_ | refine GQ.goNormal ?_ | refine GC.seq ?_ | refine GC.skip ?_ | refine GC.block ?_ | refine GC.exit ?_ | refine GC.ret ?_ | refine GQ.goExit ?_ | refine GQ.goRet ?_ | refine GQ.inNormal ?_ | refine GQ.inExit ?_ | refine GQ.inExitNe rfl ?_ | refine GQ.inRet ?_ | refine GQ.loopExit ?_ | refine GQ.loopRet ?_ | refine GQ.cutExit ?_ | refine GQ.cutRet ?_))
    have s10 := hM10.size
    have s11 := hE11.size
    have s12 := hM12.size
    have s13 := hE13.size
    have s14 := hM14.size
    have sE := hE.size
    have gA : ∀ x, a10 = some x → oa' = some x.block := fun x hx => by
      rcases hG10 x hx with h | ⟨h, h'⟩
      · exact h
      · rw [h']; exact hOa.at_ x h
    have gL : ∀ x, a12 = some x → ol' = some x.block := fun x hx => by
      rcases hG12 x hx with h | ⟨h, h'⟩
      · exact h
      · rw [h']; exact hOl.at_ x h
    have gE : ∀ x, a14 = some x → oe' = some x.block := fun x hx => by
      rcases hG14 x hx with h | ⟨h, h'⟩
      · exact h
      · rw [h']; exact hOe.at_ x h
    have nA : ∀ q, oa' = some q → oa = some q ∨ (w9'.heap.size ≤ q ∧ q < w10.heap.size) := fun q hq => by
      rcases hF10 q hq with h | h
      · exact .inl h
      · exact .inr ⟨h, by subst hq; exact hO10.block.2⟩
    have nL : ∀ q, ol' = some q → ol = some q ∨ (w11.heap.size ≤ q ∧ q < w12.heap.size) := fun q hq => by
      rcases hF12 q hq with h | h
      · exact .inl h
      · exact .inr ⟨h, by subst hq; exact hO12.block.2⟩
    have nE : ∀ q, oe' = some q → oe = some q ∨ w13.heap.size ≤ q := hF14
    refine GQ.again ⟨k + 1, a10, c10, a12, ln + 1, c12, a14, c14⟩ (sub_pick (l := [0, 5, 6, 7, 8, 9, 10]) (by rw [hsum]; rfl)) ⟨hkl, _, oa', ol', oe', cells ++ .int .u64 t :: cmdCells cm qa qb qc qd qe qf, _, ((((hJ9.mod hM10 ?_).ext hE11).mod hM12 ?_).ext hE13).mod hM14 ?_, ?_, ⟨?_, gA⟩, ⟨?_, gL⟩, ⟨hO14, gE⟩, ?_, ?_, ?_, by dsimp only; omega, ?_⟩ (by dsimp only; omega)
    · exact fun q _ hq h => (hF9 q hq).2.2.1 h.symm
    · exact fun q _ hq h => (hF9 q hq).2.2.2.1 h.symm
    · exact fun q _ hq h => (hF9 q hq).2.2.2.2 h.symm
    · intro q hq
      obtain ⟨z1, z2, z3, z4, z5⟩ := hF9 q hq
      refine ⟨z1, by omega, fun h => ?_, fun h => ?_, fun h => ?_⟩
      · rcases nA q h with h | h
        · exact z3 h
        · omega
      · rcases nL q h with h | h
        · exact z4 h
        · omega
      · rcases nE q h with h | h
        · exact z5 h
        · omega
    · refine (((hO10.ext hE11).mod hM12 (fun x hx h => ?_)).ext hE13).mod hM14 (fun x hx h => ?_)
      · rcases nA _ (gA x hx) with h' | h'
        · exact (ka _ h').2.1 h.symm
        · have := rL _ h.symm; omega
      · rcases nA _ (gA x hx) with h' | h'
        · exact (ka _ h').2.2 h.symm
        · have := rE _ h.symm; omega
    · refine (hO12.ext hE13).mod hM14 (fun x hx h => ?_)
      rcases nL _ (gL x hx) with h' | h'
      · exact (kl _ h').2 h.symm
      · have := rE _ h.symm; omega
    · intro q hq
      rcases nA q hq with h' | h'
      · refine ⟨(ka q h').1, fun h => ?_, fun h => ?_⟩
        · rcases nL q h with h | h
          · exact (ka q h').2.1 h
          · have := rA q h'; omega
        · rcases nE q h with h | h
          · exact (ka q h').2.2 h
          · have := rA q h'; omega
      · refine ⟨by omega, fun h => ?_, fun h => ?_⟩
        · rcases nL q h with h | h
          · have := rL q h; omega
          · omega
        · rcases nE q h with h | h
          · have := rE q h; omega
          · omega
    · intro q hq
      rcases nL q hq with h' | h'
      · refine ⟨(kl q h').1, fun h => ?_⟩
        rcases nE q h with h | h
        · exact (kl q h').2 h
        · have := rL q h'; omega
      · refine ⟨by omega, fun h => ?_⟩
        rcases nE q h with h | h
        · have := rE q h; omega
        · omega
    · intro q hq
      rcases nE q hq with h' | h'
      · exact ke q h'
      · omega
    · exact (((hE29.then hM10 (fun i hi h => by have := (ka i h.symm).1; omega)).trans hE11).then hM12 (fun i hi h => by have := (kl i h.symm).1; omega)).trans hE13 |>.then hM14 (fun i hi h => by have := ke i h.symm; omega)
  · have hkn : k = xs.length := by have := of_decide_eq_false h0; omega
    subst hkn
    (repeat (first | refine GX.doneD ?_ | refine GX.done ?_ | refine GQ.goNormal ?_ | refine GC.seq ?_ | refine GC.skip ?_ | refine GC.block ?_ | refine GC.exit ?_ | refine GC.ret ?_ | refine GQ.goExit ?_ | refine GQ.goRet ?_ | refine GQ.inNormal ?_ | refine GQ.inExit ?_ | refine GQ.inExitNe rfl ?_ | refine GQ.inRet ?_ | refine GQ.loopExit ?_ | refine GQ.loopRet ?_ | refine GQ.cutExit ?_ | refine GQ.cutRet ?_))
    refine GC.regionD (.pure 0 (.pure 3 (.read 4 (.eff 1 (.eff 2 (.pure 5 (.pure 6 (.pure 7 (.pure 9 (.eff 8 (.pure 10 (.pure 11 .done)))))))))))) (fun _ => False) mixed (by kernel_rfl) (by kernel_rfl) ?_
    intro w3 _ hE3
    have hS : Mod (fun _ => False) w2 w3 := hE3
    (repeat (refine GX.pure rfl ?_; first | refine GO.move rfl rfl rfl rfl ?_ | refine GO.neq rfl rfl rfl rfl rfl ?_ | refine GO.pickT rfl rfl rfl rfl rfl ?_ | refine GO.pickF rfl rfl rfl rfl rfl ?_ | refine GO.strNeq rfl rfl rfl rfl rfl ?_ | refine GO.conv rfl rfl rfl rfl (wrapIn (by dsimp only [InK]; omega)) ?_ | refine GO.convStr rfl rfl rfl rfl ?_ | refine GO.skip (.inl rfl) rfl rfl ?_))
    refine GX.read rfl ?_
    refine GO.toStrR' (l := (jx xs xs.length).data) (by assumption) (fun w' hw' => hOa.own.sla.ext hw') rfl rfl rfl rfl ?_
    have hJ3 := hJ.ext hE3
    (refine GX.eff rfl ?_; refine GO.callL rfl rfl rfl rfl rfl (bytesJ_ret F bj (jx xs xs.length) w3 hJ3 (by omega)) ?_)
    rintro v w4 ⟨⟨ob4, a4, c4, rfl, hO4, hF4, hG4⟩, hE4⟩
    refine ⟨fun _ h => by first | trivial | exact Mod.trans h (Ext.mod (by assumption)), ?_⟩
    refine GX.eff rfl ?_
    refine GO.toStr' (l := (jx xs xs.length).data) hO4.sla rfl rfl rfl rfl ?_
    (refine GX.pure rfl ?_; first | refine GO.move rfl rfl rfl rfl ?_ | refine GO.neq rfl rfl rfl rfl rfl ?_ | refine GO.pickT rfl rfl rfl rfl rfl ?_ | refine GO.pickF rfl rfl rfl rfl rfl ?_ | refine GO.strNeq rfl rfl rfl rfl rfl ?_ | refine GO.conv rfl rfl rfl rfl (wrapIn (by dsimp only [InK]; omega)) ?_ | refine GO.convStr rfl rfl rfl rfl ?_ | refine GO.skip (.inl rfl) rfl rfl ?_)
    (refine GX.pure rfl ?_; first | refine GO.move rfl rfl rfl rfl ?_ | refine GO.neq rfl rfl rfl rfl rfl ?_ | refine GO.pickT rfl rfl rfl rfl rfl ?_ | refine GO.pickF rfl rfl rfl rfl rfl ?_ | refine GO.strNeq rfl rfl rfl rfl rfl ?_ | refine GO.conv rfl rfl rfl rfl (wrapIn (by dsimp only [InK]; omega)) ?_ | refine GO.convStr rfl rfl rfl rfl ?_ | refine GO.skip (.inl rfl) rfl rfl ?_)
    refine GX.case 82 rfl (fun g1 => ?_) (fun g1 => ?_)
    · exact absurd (of_decide_eq_true g1) (by simp)
    (repeat (refine GX.pure rfl ?_; first | refine GO.move rfl rfl rfl rfl ?_ | refine GO.neq rfl rfl rfl rfl rfl ?_ | refine GO.pickT rfl rfl rfl rfl rfl ?_ | refine GO.pickF rfl rfl rfl rfl rfl ?_ | refine GO.strNeq rfl rfl rfl rfl rfl ?_ | refine GO.conv rfl rfl rfl rfl (wrapIn (by dsimp only [InK]; omega)) ?_ | refine GO.convStr rfl rfl rfl rfl ?_ | refine GO.skip (.inl rfl) rfl rfl ?_))
    (refine GX.eff rfl ?_; refine GO.callL rfl rfl rfl rfl rfl (sumJ_ret F bj (jx xs xs.length) w4 (hJ3.ext hE4) (by omega) hsm.four) ?_)
    rintro v w5 ⟨rfl, hE5⟩
    refine ⟨fun _ h => by first | trivial | exact Mod.trans h (Ext.mod (by assumption)), ?_⟩
    (repeat (refine GX.pure rfl ?_; first | refine GO.move rfl rfl rfl rfl ?_ | refine GO.neq rfl rfl rfl rfl rfl ?_ | refine GO.pickT rfl rfl rfl rfl rfl ?_ | refine GO.pickF rfl rfl rfl rfl rfl ?_ | refine GO.strNeq rfl rfl rfl rfl rfl ?_ | refine GO.conv rfl rfl rfl rfl (wrapIn (by dsimp only [InK]; omega)) ?_ | refine GO.convStr rfl rfl rfl rfl ?_ | refine GO.skip (.inl rfl) rfl rfl ?_))
    (repeat (first | refine GX.doneD ?_ | refine GX.done ?_ | refine GQ.goNormal ?_ | refine GC.seq ?_ | refine GC.skip ?_ | refine GC.block ?_ | refine GC.exit ?_ | refine GC.ret ?_ | refine GQ.goExit ?_ | refine GQ.goRet ?_ | refine GQ.inNormal ?_ | refine GQ.inExit ?_ | refine GQ.inExitNe rfl ?_ | refine GQ.inRet ?_ | refine GQ.loopExit ?_ | refine GQ.loopRet ?_ | refine GQ.cutExit ?_ | refine GQ.cutRet ?_))
    refine GC.cond rfl (fun g2 => ?_) (fun g2 => ?_)
    · exact absurd (of_decide_eq_true g2) (by simp)
    (repeat (first | refine GX.doneD ?_ | refine GX.done ?_ | refine GQ.goNormal ?_ | refine GC.seq ?_ | refine GC.skip ?_ | refine GC.block ?_ | refine GC.exit ?_ | refine GC.ret ?_ | refine GQ.goExit ?_ | refine GQ.goRet ?_ | refine GQ.inNormal ?_ | refine GQ.inExit ?_ | refine GQ.inExitNe rfl ?_ | refine GQ.inRet ?_ | refine GQ.loopExit ?_ | refine GQ.loopRet ?_ | refine GQ.cutExit ?_ | refine GQ.cutRet ?_))
    refine GC.region (.pure 0 (.pure 1 (.pure 2 (.pure 3 (.pure 4 (.pure 5 .done)))))) rfl ?_
    (repeat (refine GX.pure rfl ?_; first | refine GO.move rfl rfl rfl rfl ?_ | refine GO.assign rfl rfl rfl rfl ?_))
    (repeat (first | refine GX.doneD ?_ | refine GX.done ?_ | refine GQ.goNormal ?_ | refine GC.seq ?_ | refine GC.skip ?_ | refine GC.block ?_ | refine GC.exit ?_ | refine GC.ret ?_ | refine GQ.goExit ?_ | refine GQ.goRet ?_ | refine GQ.inNormal ?_ | refine GQ.inExit ?_ | refine GQ.inExitNe rfl ?_ | refine GQ.inRet ?_ | refine GQ.loopExit ?_ | refine GQ.loopRet ?_ | refine GQ.cutExit ?_ | refine GQ.cutRet ?_))
    refine GQ.ret3 (by first | exact .inl rfl | exact .inr rfl) rfl rfl rfl rfl ?_
    have hE35 := (hE3.trans hE4).trans hE5
    refine ⟨bj, _, _, rfl, F, hJ.ext hE35, fun q hq => ?_, hE.trans hE35⟩
    have := hF q hq
    have := hE35.size
    omega
end Go.Proofs.Ytahkglanddhncaa.V
