/-
  What slices.Collect and slices.Sorted make of slices.Values, on strings. Conditions: the slice is short.
-/
import Derived.Test.YtfoabgljfikklaaGreatDoorYau
import Derived.Test.YtfoabgljfikklaaGreatDoorYaw
import Derived.Sort.OwnSorted
set_option linter.unusedVariables false
set_option linter.unusedSimpArgs false
namespace Go.Proofs.YtfoabgljfikklaaGreatDoor.V.Ky
open Go.RowKit Go.Shelf Go.Sort
attribute [local irreducible] GX GO
attribute [local go_sem] Oper.semAt_some
theorem cells_keep {A B : World} {row : Option Nat} (hg : A.grownBy B row) (hr : ∀ r, row = some r → ∃ o : Obj, A.heap[r]? = some o ∧ o.isCells = false) {k : Nat} {c : Array Value} {t : TypeId} {fz : Nat × Nat} (h : A.heap[k]? = some (.cells c t fz)) : some k ≠ row ∧ B.heap[k]? = some (.cells c t fz) := by
  have hne : some k ≠ row := fun e => by
    obtain ⟨o, h1, h2⟩ := hr k e.symm
    rw [h] at h1
    cases h1
    cases h2
  exact ⟨hne, (hg.block k (Array.getElem?_eq_some_iff.1 h).1 hne).trans h⟩
theorem own_row {w : World} {el sz b : Nat} {a : Option Addr} {len cap : Nat} {cs : List Value} (h : OwnS w el sz (some b) a len cap cs) :
    ∃ cur, w.heap[b]? = some (.cells cur el (0, 0)) ∧ len ≤ cap ∧ cap ≤ maxLen ∧ cur.size = cap * sz ∧ cur.toList.take (len * sz) = cs := by
  obtain ⟨_, ⟨h, _⟩ | ⟨b', hb, rfl, _, ⟨h, _⟩ | ⟨g, c, cur, h, _, hg, h1, h2, h3, h4⟩⟩⟩ := h
  · cases h
  · cases h
  · cases hb
    cases h
    exact ⟨cur, hg, h1, h2, h3, h4⟩
def ApI (w : World) (pre : List Bs) (W : World) : Prop :=
  (∃ ob a c, W.heap[w.heap.size]? = some (.cells #[.slice a pre.length c] 22 (0, 0)) ∧ OwnS W 9 1 ob a pre.length c (strsV pre) ∧ (∀ x, ob = some x → w.heap.size < x) ∧ (∀ x, a = some x → ob = some x.block)) ∧ Below w.heap.size w W
theorem apI_keep {w : World} {pre : List Bs} {A B : World} {row : Option Nat} (h : ApI w pre A) (hg : A.grownBy B row) (hr : ∀ r, row = some r → w.heap.size ≤ r ∧ ∃ o : Obj, A.heap[r]? = some o ∧ o.isCells = false) : ApI w pre B := by
  obtain ⟨⟨ob, a, c, h1, h2, h3, h4⟩, h5⟩ := h
  refine ⟨⟨ob, a, c, (cells_keep hg (fun r e => (hr r e).2) h1).2, h2.mod (Mod.of_grown hg) (fun x hx e => ?_), h3, h4⟩, h5.grown hg h5.size (fun k e => (hr k e).1)⟩
  have := h4 x hx
  subst this
  obtain ⟨cur, hc, _⟩ := own_row h2
  exact (cells_keep hg (fun r e => (hr r e).2) hc).1 e
theorem GC.inRound {l : Nat} {P : Program} {c : Code} {Q : Exit → Act → World → Prop} {tmps : Array Value} {n : Nat} {w : World} (hs : tmps.size = n) (h : @GC ⟨some l, []⟩ P c Q n (argE 0 tmps.toList) w) : c.wpIn (Fence.wide.inRound l) 0 P Q { tmps := tmps, defers := [] } w :=
  by unfold GC at h; exact h _ (slots_knows hs (some l))
set_option maxRecDepth 100000 in
set_option maxHeartbeats 4000000 in
theorem appendSeq_ret (Bx cap : Nat) (a : Option Addr) (zs : List Bs) (hz : zs.length ≤ 100000) (w : World) (hBx : w.cell? ⟨Bx, 0, none⟩ = some (.slice a zs.length cap)) (hlt : Bx < w.heap.size) (hI : StrIn w.heap.size w a zs) :
    Ret Tryz.prog 91 #[.slice none 0 0, .func (.func 61) #[] #[.pointer (some ⟨Bx, 0, none⟩)]] w fun v w' =>
      ∃ ob a' c', v = .slice a' zs.length c' ∧ OwnS w' 9 1 ob a' zs.length c' (strsV zs) ∧ (∀ x, ob = some x → w.heap.size < x) ∧ (∀ x, a' = some x → ob = some x.block) ∧ Ext w w' := by
  refine Ret.of_calls (callsIn_wide (n := 2) |>.1 ?_)
  refine callsIn_of_wp_marks Tryz.func91 rfl trivial ?_ rfl
  simp only [Tryz.ntmps91, List.size_toArray, List.length_cons, List.length_nil, Nat.reduceAdd, Nat.reduceSub, Array.replicate_succ, Array.replicate_zero, List.push_toArray, List.append_toArray, List.nil_append, List.cons_append]
  gi_wp2
  have hb0 : Below w.heap.size w (w.alloc (.cells #[.slice none 0 0] 22)) := (Below.refl _ w).alloc (Nat.le_refl _) _
  refine wpIn_rangeFunc_ownG (F := Fence.wide) (n := 2) rfl (by omega) (gf := 61) (lb := #[.pointer (some ⟨Bx, 0, none⟩)]) rfl trivial (enters_of Tryz.func61 (by kernel_rfl) rfl)
    (values_stops Fence.wide 1 trivial rfl (by omega) Bx w.heap.size cap a zs (by omega) (w.alloc (.cells #[.slice none 0 0] 22)) (by simp; omega) (by simp) ((hb0.cell (p := ⟨Bx, 0, none⟩) hlt).trans hBx) (hI.below hb0)) belowK_t (belowK_b (by simp)) (Below.refl _ _) (fun _ => rfl)
    (ApI w) (fun _ _ _ => False)
    (fun pre A B row hs hg hr => apI_keep hs hg (fun r e => ⟨by have := (hr r e).1; simp at this; omega, (hr r e).2⟩))
    (fun _ _ _ _ _ hs _ _ => hs)
    ⟨⟨none, none, 0, World.alloc_heap_new w _, OwnS.nil _ _ _, fun _ h => (by cases h), fun _ h => (by cases h)⟩, hb0⟩
    (fun x => { tmps := #[.slice none 0 0, .func (.func 61) #[] #[.pointer (some ⟨Bx, 0, none⟩)], .pointer (some ⟨w.heap.size, 0, none⟩), undef, .slice none 0 0, str x, .func (.func 61) #[] #[.pointer (some ⟨Bx, 0, none⟩)], str x, undef, undef, undef, undef, undef], defers := [] }) ?assign ?body ?done ?stop
  case assign =>
    intro l x W K hK
    gi_wp2
    exact hK
  case body =>
    rintro l pre x W ⟨⟨ob, a', c', hbox, hO, hob, hab⟩, hBl⟩ hlen
    refine GC.inRound (n := 13) rfl ?_
    letI : Fr := ⟨some l, []⟩
    have hat : At W w.heap.size 0 [.slice a' pre.length c'] := fun i v hv => by
      match i, hv with
      | 0, hv => cases hv; simp [World.cell?, hbox]
    refine GC.pick [2, 5] rfl ?_
    (repeat (first | refine GX.doneD ?_ | refine GX.done ?_ | refine GQ.goNormal ?_ | refine GC.seq ?_ | refine GC.skip ?_ | refine GC.block ?_ | refine GC.exit ?_ | refine GC.ret ?_ | refine GQ.goExit ?_ | refine GQ.goRet ?_ | refine GQ.inNormal ?_ | refine GQ.inExit ?_ | refine GQ.inExitNe rfl ?_ | refine GQ.inRet ?_ | refine GQ.loopExit ?_ | refine GQ.loopRet ?_ | refine GQ.cutExit ?_ | refine GQ.cutRet ?_))
    refine GC.region (.eff 0 (.pure 1 (.eff 2 (.eff 3 (.eff 4 .done))))) rfl ?_
    (first | (refine GX.eff rfl ?_; first | refine GO.load1 (hat) rfl rfl rfl ?_ | refine GO.loadN (hat) rfl rfl rfl rfl ?_) | (refine GX.read rfl ?_; first | refine GO.load1R (by assumption) (fun _ hS_ => At.mod (hat) hS_ (by simp)) rfl rfl rfl ?_ | refine GO.loadNR (by assumption) (fun _ hS_ => At.mod (hat) hS_ (by simp)) rfl rfl rfl rfl ?_))
    (repeat (refine GX.pure rfl ?_; refine GO.move rfl rfl rfl rfl ?_))
    refine GX.eff rfl ?_
    refine GO.buildSlice (out := [str x]) (by kernel_rfl) ⟨by omega, by unfold maxLen; omega⟩ rfl rfl rfl rfl rfl fun b4 w4 hb4 hO4 hE4 => ?_
    refine ⟨fun _ h => by first | trivial | exact Mod.trans h (Ext.mod (by assumption)), ?_⟩
    (repeat (refine GX.pure rfl ?_; refine GO.move rfl rfl rfl rfl ?_))
    refine GX.eff rfl ?_
    refine GO.append (hO.ext hE4) hO4.sla rfl (strsV_oneC [x]) (by omega) (by omega) rfl rfl rfl rfl rfl fun ro ra rc w5 hR5 hM5 hB5 hA5 => ?_
    refine ⟨fun _ h => by first | trivial | exact Mod.trans h (Ext.mod (by assumption)), ?_⟩
    (repeat (refine GX.pure rfl ?_; refine GO.move rfl rfl rfl rfl ?_))
    have hbox5 := hM5.row (hE4.row hbox id) (fun e => by have := hob _ e.symm; omega)
    refine GX.eff rfl ?_
    have hW5 : Wr w5 w.heap.size 0 1 := ⟨_, _, _, hbox5, by simp, by intro j hj; simp⟩
    have h15 : ∀ u ∈ [Value.slice ra (pre.length + 1) rc], u.oneCell' = true := fun u hu => by simp at hu; subst hu; rfl
    refine GO.store (sz := 1) (v := .slice ra (pre.length + 1) rc) (vs := [.slice ra (pre.length + 1) rc]) hW5 rfl rfl h15 rfl rfl rfl fun w6 hP6 => ?_
    refine ⟨fun _ h => by first | trivial | exact Mod.trans h (Ext.mod (by assumption)), ?_⟩
    (repeat (refine GX.pure rfl ?_; refine GO.move rfl rfl rfl rfl ?_))
    (repeat (first | refine GX.doneD ?_ | refine GX.done ?_ | refine GQ.goNormal ?_ | refine GC.seq ?_ | refine GC.skip ?_ | refine GC.block ?_ | refine GC.exit ?_ | refine GC.ret ?_ | refine GQ.goExit ?_ | refine GQ.goRet ?_ | refine GQ.inNormal ?_ | refine GQ.inExit ?_ | refine GQ.inExitNe rfl ?_ | refine GQ.inRet ?_ | refine GQ.loopExit ?_ | refine GQ.loopRet ?_ | refine GQ.cutExit ?_ | refine GQ.cutRet ?_))
    unfold GQ
    intro ac _
    have hbox6 := hP6.here _ _ _ hbox5
    have hne : ∀ x, ro = some x → w.heap.size < x := fun x hx => by
      rcases hB5 x hx with h | h
      · exact hob x h
      · have := hE4.size; have := (Array.getElem?_eq_some_iff.1 hbox).1; omega
    have hra : ∀ x, ra = some x → ro = some x.block := fun x hx => by
      rcases hA5 x hx with h | ⟨h, h'⟩
      · exact h
      · rw [h']; exact hab x h
    have hsz : W.heap.size ≤ w6.heap.size := Nat.le_trans hE4.size (Nat.le_trans hM5.size hP6.mod.size)
    have hblk : ∀ k, k < W.heap.size → some k ≠ ob → k ≠ w.heap.size → w6.heap[k]? = W.heap[k]? := fun k hk h1 h2 =>
      (hP6.other k h2).trans ((hM5.block k (Nat.lt_of_lt_of_le hk hE4.size) h1).trans (hE4.block k hk id))
    refine ⟨⟨hsz, fun k o _ hk ho => (hblk k (Array.getElem?_eq_some_iff.1 hk).1 (fun e => ?_) (fun e => ?_)).trans hk⟩, ?_, ?_, ?_⟩
    · subst e
      obtain ⟨cur, hcur, _⟩ := own_row hO
      rw [hcur] at hk
      cases hk
      cases ho
    · subst e
      rw [hbox] at hk
      cases hk
      cases ho
    · exact ⟨hP6.os.trans (hM5.os.trans hE4.os), hP6.tape.trans (hM5.tape.trans hE4.tape), hP6.output.trans (hM5.output.trans hE4.output), hsz, fun k hk => hblk k (by have := (Array.getElem?_eq_some_iff.1 hbox).1; omega) (fun e => by have := hob k e.symm; omega) (by omega)⟩
    · refine ⟨ro, ra, rc, ?_, ?_, hne, hra⟩
      · simpa using hbox6
      · have := hR5.mod hP6.mod (fun x hx e => by have := hne _ (hra x hx); omega)
        simpa [strsV] using this
    · exact hBl.trans ⟨hP6.os.trans (hM5.os.trans hE4.os), hP6.tape.trans (hM5.tape.trans hE4.tape), hP6.output.trans (hM5.output.trans hE4.output), hsz, fun k hk => hblk k (by have := (Array.getElem?_eq_some_iff.1 hbox).1; omega) (fun e => by have := hob k e.symm; omega) (by omega)⟩
  case done =>
    rintro D ys W hD rfl ⟨⟨ob, a', c', hbox, hO, hob, hab⟩, hBl⟩ hK
    have hc : W.cell? ⟨w.heap.size, 0, none⟩ = some (.slice a' ys.length c') := by simp [World.cell?, hbox]
    gi_wp2
    refine ⟨by simp, .inl ⟨_, _, rfl, run_takeDeferred hK, ?_⟩⟩
    refine ⟨_, results_tmp rfl _ _ _, _, rfl, ob, a', c', rfl, ?_, hob, hab, ?_⟩
    · refine hO.mod (S := (· = D)) (mod_put _ _ _) (fun x hx e => ?_)
      have := hab x hx
      subst this
      obtain ⟨cur, hcur, _⟩ := own_row hO
      rw [e, hK] at hcur
      cases hcur
    · have := hBl.trans (belowK_b (w := w) (Nat.le_refl _) W D _ (.deferred none) (by simp at hD; omega) hK rfl rfl)
      exact ⟨this.os, this.tape, this.output, this.size, fun k hk _ => this.block k hk⟩
  case stop =>
    rintro D c pre W _ _ h _
    exact h.elim
set_option maxHeartbeats 1000000 in
theorem collect_ret (Bx cap : Nat) (a : Option Addr) (zs : List Bs) (hz : zs.length ≤ 100000) (w : World) (hBx : w.cell? ⟨Bx, 0, none⟩ = some (.slice a zs.length cap)) (hlt : Bx < w.heap.size) (hI : StrIn w.heap.size w a zs) :
    Ret Tryz.prog 59 [.func (.func 61) #[] #[.pointer (some ⟨Bx, 0, none⟩)]].toArray w fun v w' =>
      ∃ ob a' c', v = .slice a' zs.length c' ∧ OwnS w' 9 1 ob a' zs.length c' (strsV zs) ∧ (∀ x, ob = some x → w.heap.size < x) ∧ (∀ x, a' = some x → ob = some x.block) ∧ Ext w w' := by
  refine Ret.enter Tryz.func59 rfl Tryz.ntmps59 rfl ?_
  (repeat (first | refine GX.doneD ?_ | refine GX.done ?_ | refine GQ.goNormal ?_ | refine GC.seq ?_ | refine GC.skip ?_ | refine GC.block ?_ | refine GC.exit ?_ | refine GC.ret ?_ | refine GQ.goExit ?_ | refine GQ.goRet ?_ | refine GQ.inNormal ?_ | refine GQ.inExit ?_ | refine GQ.inExitNe rfl ?_ | refine GQ.inRet ?_ | refine GQ.loopExit ?_ | refine GQ.loopRet ?_ | refine GQ.cutExit ?_ | refine GQ.cutRet ?_))
  refine GC.region (.pure 0 .done) rfl ?_
  (repeat (refine GX.pure rfl ?_; refine GO.assign rfl rfl rfl rfl ?_))
  (repeat (first | refine GX.doneD ?_ | refine GX.done ?_ | refine GQ.goNormal ?_ | refine GC.seq ?_ | refine GC.skip ?_ | refine GC.block ?_ | refine GC.exit ?_ | refine GC.ret ?_ | refine GQ.goExit ?_ | refine GQ.goRet ?_ | refine GQ.inNormal ?_ | refine GQ.inExit ?_ | refine GQ.inExitNe rfl ?_ | refine GQ.inRet ?_ | refine GQ.loopExit ?_ | refine GQ.loopRet ?_ | refine GQ.cutExit ?_ | refine GQ.cutRet ?_))
  refine GC.region (.pure 0 (.eff 1 (.pure 2 .done))) rfl ?_
  (repeat (refine GX.pure rfl ?_; first | refine GO.move rfl rfl rfl rfl ?_ | refine GO.assign rfl rfl rfl rfl ?_))
  (refine GX.eff rfl ?_; refine GO.callL rfl rfl rfl rfl rfl (appendSeq_ret Bx cap a zs hz _ hBx hlt hI) ?_)
  rintro v w1 ⟨ob, a', c', rfl, h1, h2, h3, h4⟩
  refine ⟨fun _ h => by first | trivial | exact Mod.trans h (Ext.mod (by assumption)), ?_⟩
  (repeat (refine GX.pure rfl ?_; first | refine GO.move rfl rfl rfl rfl ?_ | refine GO.assign rfl rfl rfl rfl ?_))
  (repeat (first | refine GX.doneD ?_ | refine GX.done ?_ | refine GQ.goNormal ?_ | refine GC.seq ?_ | refine GC.skip ?_ | refine GC.block ?_ | refine GC.exit ?_ | refine GC.ret ?_ | refine GQ.goExit ?_ | refine GQ.goRet ?_ | refine GQ.inNormal ?_ | refine GQ.inExit ?_ | refine GQ.inExitNe rfl ?_ | refine GQ.inRet ?_ | refine GQ.loopExit ?_ | refine GQ.loopRet ?_ | refine GQ.cutExit ?_ | refine GQ.cutRet ?_))
  refine GQ.ret1 (by first | exact .inl rfl | exact .inr rfl) rfl rfl ?_
  exact ⟨ob, a', c', rfl, h1, h2, h3, h4⟩
set_option maxHeartbeats 1000000 in
theorem valuesFn_ret (a : Option Addr) (n cap : Nat) (w : World) :
    Ret Tryz.prog 27 [.slice a n cap].toArray w fun v w' => ∃ Bx, v = .func (.func 61) #[] #[.pointer (some ⟨Bx, 0, none⟩)] ∧ w'.cell? ⟨Bx, 0, none⟩ = some (.slice a n cap) ∧ Bx < w'.heap.size ∧ Ext w w' := by
  refine Ret.enter Tryz.func27 rfl Tryz.ntmps27 rfl ?_
  (repeat (first | refine GX.doneD ?_ | refine GX.done ?_ | refine GQ.goNormal ?_ | refine GC.seq ?_ | refine GC.skip ?_ | refine GC.block ?_ | refine GC.exit ?_ | refine GC.ret ?_ | refine GQ.goExit ?_ | refine GQ.goRet ?_ | refine GQ.inNormal ?_ | refine GQ.inExit ?_ | refine GQ.inExitNe rfl ?_ | refine GQ.inRet ?_ | refine GQ.loopExit ?_ | refine GQ.loopRet ?_ | refine GQ.cutExit ?_ | refine GQ.cutRet ?_))
  refine GC.region (.eff 0 (.pure 1 .done)) rfl ?_
  refine GX.eff rfl ?_
  refine GO.box (l := [.slice a n cap]) rfl rfl rfl rfl fun b w1 hb hB hE1 => ?_
  refine ⟨fun _ h => by first | trivial | exact Mod.trans h (Ext.mod (by assumption)), ?_⟩
  (repeat (refine GX.pure rfl ?_; refine GO.assign rfl rfl rfl rfl ?_))
  (repeat (first | refine GX.doneD ?_ | refine GX.done ?_ | refine GQ.goNormal ?_ | refine GC.seq ?_ | refine GC.skip ?_ | refine GC.block ?_ | refine GC.exit ?_ | refine GC.ret ?_ | refine GQ.goExit ?_ | refine GQ.goRet ?_ | refine GQ.inNormal ?_ | refine GQ.inExit ?_ | refine GQ.inExitNe rfl ?_ | refine GQ.inRet ?_ | refine GQ.loopExit ?_ | refine GQ.loopRet ?_ | refine GQ.cutExit ?_ | refine GQ.cutRet ?_))
  refine GC.region (.pure 0 (.pure 1 .done)) rfl ?_
  (repeat (refine GX.pure rfl ?_; first | refine GO.assign rfl rfl rfl rfl ?_ | refine GO.makeFunc rfl rfl rfl rfl rfl ?_))
  (repeat (first | refine GX.doneD ?_ | refine GX.done ?_ | refine GQ.goNormal ?_ | refine GC.seq ?_ | refine GC.skip ?_ | refine GC.block ?_ | refine GC.exit ?_ | refine GC.ret ?_ | refine GQ.goExit ?_ | refine GQ.goRet ?_ | refine GQ.inNormal ?_ | refine GQ.inExit ?_ | refine GQ.inExitNe rfl ?_ | refine GQ.inRet ?_ | refine GQ.loopExit ?_ | refine GQ.loopRet ?_ | refine GQ.cutExit ?_ | refine GQ.cutRet ?_))
  refine GQ.ret1 (by first | exact .inl rfl | exact .inr rfl) rfl rfl ?_
  exact ⟨b, rfl, by simpa using hB.at 0 _ rfl, hB.lt, hE1⟩
def SrtAt (w0 w : World) (a : Option Addr) (l : List Bs) : Prop := l = [] ∨ ∃ x, a = some ⟨x, 0, none⟩ ∧ w0.heap.size ≤ x ∧ Rw w x (strsV l)
theorem SrtAt.kept {w0 w w' : World} {a : Option Addr} {l : List Bs} {B b : Nat} (h : SrtAt w0 w a l) (hk : BuK B b w w') (hb : b < w0.heap.size) : SrtAt w0 w' a l := by
  rcases h with h | ⟨x, h1, h2, h3⟩
  · exact .inl h
  · exact .inr ⟨x, h1, h2, h3.kept hk (by omega)⟩
theorem SrtAt.ext {w0 w w' : World} {a : Option Addr} {l : List Bs} (h : SrtAt w0 w a l) (hE : Ext w w') : SrtAt w0 w' a l := by
  rcases h with h | ⟨x, h1, h2, h3⟩
  · exact .inl h
  · exact .inr ⟨x, h1, h2, h3.ext hE⟩
set_option maxHeartbeats 1000000 in
theorem sort_ret (g cap : Nat) (zs : List Bs) (w : World) (hO : OwnS w 9 1 (some g) (some ⟨g, 0, none⟩) zs.length cap (strsV zs)) (hz : zs.length ≤ 100000) :
    Ret Tryz.prog 60 [.slice (some ⟨g, 0, none⟩) zs.length cap].toArray w fun _ w' => Rw w' g (strsV (sortF zs)) ∧ Mod (· = g) w w' := by
  obtain ⟨cur, hg, r1, r2, r3, r4⟩ := own_row hO
  have hH := holds_of_block (ss := zs) hg (by rw [Nat.mul_one] at r4; exact r4)
  refine Ret.of_calls ((AnyM.slices_Sort_string (ρ := sortRenx) sortRenx_lays g 0 cap zs w hH (Array.getElem?_eq_some_iff.1 hg).1 (by omega)).mono ?_)
  rintro e w' ⟨rfl, n, os, rfl⟩
  refine ⟨_, rfl, ?_, ?_⟩
  · have h := ownsRow_sorted (n := n) (os := os) (ts := zs.mergeSort fun x y => decide (x ≤ y)) (ss := zs) (base := 0) (by simp) (Nat.zero_le _) hg r1 r2 (by simpa using r3)
    rw [sorted_eq] at h ⊢
    rcases h.2 with ⟨h, _⟩ | ⟨g', c', cur', h, _, hg', _, _, _, ht⟩
    · cases h
    · cases h
      refine ⟨cur', _, _, hg', by decide, fun i v hv => ?_⟩
      have ht' : cur'.toList.take (zs.length * 1) = strsV (sortF zs) := ht
      rw [← ht', List.getElem?_take] at hv
      split at hv
      · simpa using hv
      · cases hv
  · exact (Mod.of_grown (grownBy_sorted _)).weaken fun k _ hk => by cases hk; rfl
set_option maxHeartbeats 1000000 in
theorem sortNone_ret (a : Option Addr) (cap : Nat) (w : World) : Ret Tryz.prog 60 [.slice a (0 : Nat) cap].toArray w fun _ w' => w' = w := by
  refine Ret.of_calls ((AnyM.slices_Sort_string_none (ρ := sortRenx) sortRenx_lays a cap w).mono ?_)
  rintro e w' ⟨rfl, rfl⟩
  exact ⟨_, rfl, rfl⟩
set_option maxHeartbeats 1000000 in
theorem sortedV_ret (Bx cap : Nat) (a : Option Addr) (zs : List Bs) (n : Nat) (hn : zs.length = n) (hz : n ≤ 100000) (w : World) (hBx : w.cell? ⟨Bx, 0, none⟩ = some (.slice a n cap)) (hlt : Bx < w.heap.size) (hI : StrIn w.heap.size w a zs) :
    Ret Tryz.prog 26 [.func (.func 61) #[] #[.pointer (some ⟨Bx, 0, none⟩)]].toArray w fun v w' =>
      ∃ a' c', v = .slice a' n c' ∧ SrtAt w w' a' (sortF zs) ∧ Ext w w' := by
  subst hn
  refine Ret.enter Tryz.func26 rfl Tryz.ntmps26 rfl ?_
  (repeat (first | refine GX.doneD ?_ | refine GX.done ?_ | refine GQ.goNormal ?_ | refine GC.seq ?_ | refine GC.skip ?_ | refine GC.block ?_ | refine GC.exit ?_ | refine GC.ret ?_ | refine GQ.goExit ?_ | refine GQ.goRet ?_ | refine GQ.inNormal ?_ | refine GQ.inExit ?_ | refine GQ.inExitNe rfl ?_ | refine GQ.inRet ?_ | refine GQ.loopExit ?_ | refine GQ.loopRet ?_ | refine GQ.cutExit ?_ | refine GQ.cutRet ?_))
  refine GC.region (.pure 0 .done) rfl ?_
  (repeat (refine GX.pure rfl ?_; refine GO.assign rfl rfl rfl rfl ?_))
  (repeat (first | refine GX.doneD ?_ | refine GX.done ?_ | refine GQ.goNormal ?_ | refine GC.seq ?_ | refine GC.skip ?_ | refine GC.block ?_ | refine GC.exit ?_ | refine GC.ret ?_ | refine GQ.goExit ?_ | refine GQ.goRet ?_ | refine GQ.inNormal ?_ | refine GQ.inExit ?_ | refine GQ.inExitNe rfl ?_ | refine GQ.inRet ?_ | refine GQ.loopExit ?_ | refine GQ.loopRet ?_ | refine GQ.cutExit ?_ | refine GQ.cutRet ?_))
  refine GC.region (.pure 0 (.eff 1 (.pure 2 .done))) rfl ?_
  (repeat (refine GX.pure rfl ?_; first | refine GO.move rfl rfl rfl rfl ?_ | refine GO.assign rfl rfl rfl rfl ?_))
  (refine GX.eff rfl ?_; refine GO.callL rfl rfl rfl rfl rfl (collect_ret Bx cap a zs hz _ hBx hlt hI) ?_)
  rintro v w1 ⟨ob, a', c', rfl, h1, h2, h3, h4⟩
  refine ⟨fun _ h => by first | trivial | exact Mod.trans h (Ext.mod (by assumption)), ?_⟩
  (repeat (refine GX.pure rfl ?_; first | refine GO.move rfl rfl rfl rfl ?_ | refine GO.assign rfl rfl rfl rfl ?_))
  (repeat (first | refine GX.doneD ?_ | refine GX.done ?_ | refine GQ.goNormal ?_ | refine GC.seq ?_ | refine GC.skip ?_ | refine GC.block ?_ | refine GC.exit ?_ | refine GC.ret ?_ | refine GQ.goExit ?_ | refine GQ.goRet ?_ | refine GQ.inNormal ?_ | refine GQ.inExit ?_ | refine GQ.inExitNe rfl ?_ | refine GQ.inRet ?_ | refine GQ.loopExit ?_ | refine GQ.loopRet ?_ | refine GQ.cutExit ?_ | refine GQ.cutRet ?_))
  refine GC.region (.pure 0 (.eff 1 .done)) rfl ?_
  (repeat (refine GX.pure rfl ?_; refine GO.move rfl rfl rfl rfl ?_))
  by_cases h0 : zs = []
  · subst h0
    (refine GX.eff rfl ?_; refine GO.callL rfl rfl rfl rfl rfl (sortNone_ret a' c' _) ?_)
    rintro v w2 rfl
    refine ⟨fun _ h => by first | trivial | exact Mod.trans h (Ext.mod (by assumption)), ?_⟩
    (repeat (refine GX.pure rfl ?_; refine GO.move rfl rfl rfl rfl ?_))
    (repeat (first | refine GX.doneD ?_ | refine GX.done ?_ | refine GQ.goNormal ?_ | refine GC.seq ?_ | refine GC.skip ?_ | refine GC.block ?_ | refine GC.exit ?_ | refine GC.ret ?_ | refine GQ.goExit ?_ | refine GQ.goRet ?_ | refine GQ.inNormal ?_ | refine GQ.inExit ?_ | refine GQ.inExitNe rfl ?_ | refine GQ.inRet ?_ | refine GQ.loopExit ?_ | refine GQ.loopRet ?_ | refine GQ.cutExit ?_ | refine GQ.cutRet ?_))
    refine GC.region (.pure 0 (.pure 1 .done)) rfl ?_
    (repeat (refine GX.pure rfl ?_; first | refine GO.move rfl rfl rfl rfl ?_ | refine GO.assign rfl rfl rfl rfl ?_))
    (repeat (first | refine GX.doneD ?_ | refine GX.done ?_ | refine GQ.goNormal ?_ | refine GC.seq ?_ | refine GC.skip ?_ | refine GC.block ?_ | refine GC.exit ?_ | refine GC.ret ?_ | refine GQ.goExit ?_ | refine GQ.goRet ?_ | refine GQ.inNormal ?_ | refine GQ.inExit ?_ | refine GQ.inExitNe rfl ?_ | refine GQ.inRet ?_ | refine GQ.loopExit ?_ | refine GQ.loopRet ?_ | refine GQ.cutExit ?_ | refine GQ.cutRet ?_))
    refine GQ.ret1 (by first | exact .inl rfl | exact .inr rfl) rfl rfl ?_
    exact ⟨a', c', rfl, .inl rfl, h4⟩
  · obtain ⟨g, rfl⟩ : ∃ g, ob = some g := by
      rcases h1.2 with ⟨rfl, _, h, hnil⟩ | ⟨g, h, _⟩
      · exfalso
        match a', h, h3, hnil with
        | none, _, _, hnil => exact h0 (List.eq_nil_of_length_eq_zero (hnil rfl))
        | some x, _, h3, _ => have := h3 x rfl; cases this
      · exact ⟨g, h⟩
    obtain ⟨rfl, _⟩ := h1.block
    (refine GX.eff rfl ?_; refine GO.callL rfl rfl rfl rfl rfl (sort_ret g c' zs _ h1 hz) ?_)
    rintro v w2 ⟨hR, hM⟩
    refine ⟨fun _ h => by first | trivial | exact Mod.trans h (Ext.mod (by assumption)), ?_⟩
    (repeat (refine GX.pure rfl ?_; refine GO.move rfl rfl rfl rfl ?_))
    (repeat (first | refine GX.doneD ?_ | refine GX.done ?_ | refine GQ.goNormal ?_ | refine GC.seq ?_ | refine GC.skip ?_ | refine GC.block ?_ | refine GC.exit ?_ | refine GC.ret ?_ | refine GQ.goExit ?_ | refine GQ.goRet ?_ | refine GQ.inNormal ?_ | refine GQ.inExit ?_ | refine GQ.inExitNe rfl ?_ | refine GQ.inRet ?_ | refine GQ.loopExit ?_ | refine GQ.loopRet ?_ | refine GQ.cutExit ?_ | refine GQ.cutRet ?_))
    refine GC.region (.pure 0 (.pure 1 .done)) rfl ?_
    (repeat (refine GX.pure rfl ?_; first | refine GO.move rfl rfl rfl rfl ?_ | refine GO.assign rfl rfl rfl rfl ?_))
    (repeat (first | refine GX.doneD ?_ | refine GX.done ?_ | refine GQ.goNormal ?_ | refine GC.seq ?_ | refine GC.skip ?_ | refine GC.block ?_ | refine GC.exit ?_ | refine GC.ret ?_ | refine GQ.goExit ?_ | refine GQ.goRet ?_ | refine GQ.inNormal ?_ | refine GQ.inExit ?_ | refine GQ.inExitNe rfl ?_ | refine GQ.inRet ?_ | refine GQ.loopExit ?_ | refine GQ.loopRet ?_ | refine GQ.cutExit ?_ | refine GQ.cutRet ?_))
    refine GQ.ret1 (by first | exact .inl rfl | exact .inr rfl) rfl rfl ?_
    exact ⟨_, c', rfl, .inr ⟨g, rfl, Nat.le_of_lt (h2 g rfl), hR⟩, h4.then hM (fun i hi e => by have := h2 g rfl; omega)⟩
end Go.Proofs.YtfoabgljfikklaaGreatDoor.V.Ky
