/-
  The contracts of the functions that compare lists and their elements. No condition; The contracts of dump.Equal and of the function that says whether a state is small. No condition.
-/
import Derived.Test.YtbjomeonjlialaaGreatZbe
set_option linter.unusedVariables false
set_option linter.unusedSimpArgs false
namespace Go.Proofs.YtbjomeonjlialaaGreat.V.S
theorem not_tr {b : Bool} {p : Prop} (h : b = true ↔ p) : b = false ↔ ¬ p := by
  cases b with
  | false => simp at h; simp [h]
  | true => simp at h; simp [h]
theorem lk_v0 {a b : D Unit} : (Spec.fn 0 a b).tr = true ↔ viewK (.v [.s]) a = viewK (.v [.s]) b := (fn_eq0 0 a b).trans rows_view.symm
theorem lk_v4 {a b : D Unit} : (Spec.fn 8 a b).tr = true ↔ viewK (.v [.i .u64, .i .u64]) a = viewK (.v [.i .u64, .i .u64]) b := (fn_eq0 4 a b).trans rows_view.symm
theorem lk_s {x : D Unit} : viewK .s x = .s x.str := by unfold viewK; rfl
theorem lk_w {x : D Unit} : viewK .w x = .s x.snd.str := by unfold viewK; rfl
theorem lk_i {k : IntKind} {x : D Unit} : viewK (.i k) x = .i x.int := by unfold viewK; rfl
def el_c67 : SE := (.op (.sc .neq) (.op .nth (.op .p2 (.at 0) (.li 0)) (.at 2)) (.op .nth (.op .p2 (.at 1) (.li 0)) (.at 2)))
theorem c67_el (g : Nat → D Unit) (d : D Unit) : (denT (setG g 2 d) el_c67).tr = true ↔ rowW (lk 0) (((g 0).snd.lst[d.int.toNat]?).getD (.i 0)) ≠ rowW (lk 0) (((g 1).snd.lst[d.int.toNat]?).getD (.i 0)) := by
  simp only [el_c67, denT, setG, t_sneq, r_p2, r_nth, show ¬ (0 = 2) by decide, show ¬ (1 = 2) by decide, if_true, if_false, rowW, lk, viewKs, lk_s, lk_i, rowD, singleB]
  simp
def el_c24 : SE := (.op (.cm .neq) (.op .nth (.op .p2 (.at 0) (.li 0)) (.at 2)) (.op .nth (.op .p2 (.at 1) (.li 0)) (.at 2)))
theorem c24_el (g : Nat → D Unit) (d : D Unit) : (denT (setG g 2 d) el_c24).tr = true ↔ rowW (lk 1) (((g 0).snd.lst[d.int.toNat]?).getD (.i 0)) ≠ rowW (lk 1) (((g 1).snd.lst[d.int.toNat]?).getD (.i 0)) := by
  simp only [el_c24, denT, setG, t_neq, r_p2, r_nth, show ¬ (0 = 2) by decide, show ¬ (1 = 2) by decide, if_true, if_false, rowW, lk, viewKs, lk_s, lk_i, rowD, singleB]
  simp
def el_c23 : SE := (.op .nt (.op .an (.op (.sc .eql) (.op (.fl 0) (.op .nth (.op .p2 (.at 0) (.li 0)) (.at 2)) (.li 0)) (.op (.fl 0) (.op .nth (.op .p2 (.at 1) (.li 0)) (.at 2)) (.li 0))) (.op .an (.op (.sc .eql) (.op (.fl 1) (.op .nth (.op .p2 (.at 0) (.li 0)) (.at 2)) (.li 0)) (.op (.fl 1) (.op .nth (.op .p2 (.at 1) (.li 0)) (.at 2)) (.li 0))) (.lb true))) (.li 0))
theorem c23_el (g : Nat → D Unit) (d : D Unit) : (denT (setG g 2 d) el_c23).tr = true ↔ rowW (lk 2) (((g 0).snd.lst[d.int.toNat]?).getD (.i 0)) ≠ rowW (lk 2) (((g 1).snd.lst[d.int.toNat]?).getD (.i 0)) := by
  simp only [el_c23, denT, setG, r_p2, r_nth, r_fl, r_fn, show ¬ (0 = 2) by decide, show ¬ (1 = 2) by decide, if_true, if_false]
  refine t_nt.trans (not_tr ?_)
  simp only [t_an, t_seql, t_eql, lk_v0, lk_v4, D.tr_b, rowW, lk, viewKs, lk_s, lk_i, lk_w, rowD, singleB]
  simp
def el_c22 : SE := (.op .nt (.op .an (.op (.sc .eql) (.op (.fl 0) (.op .nth (.op .p2 (.at 0) (.li 0)) (.at 2)) (.li 0)) (.op (.fl 0) (.op .nth (.op .p2 (.at 1) (.li 0)) (.at 2)) (.li 0))) (.op .an (.op (.cm .eql) (.op (.fl 1) (.op .nth (.op .p2 (.at 0) (.li 0)) (.at 2)) (.li 0)) (.op (.fl 1) (.op .nth (.op .p2 (.at 1) (.li 0)) (.at 2)) (.li 0))) (.lb true))) (.li 0))
theorem c22_el (g : Nat → D Unit) (d : D Unit) : (denT (setG g 2 d) el_c22).tr = true ↔ rowW (lk 3) (((g 0).snd.lst[d.int.toNat]?).getD (.i 0)) ≠ rowW (lk 3) (((g 1).snd.lst[d.int.toNat]?).getD (.i 0)) := by
  simp only [el_c22, denT, setG, r_p2, r_nth, r_fl, r_fn, show ¬ (0 = 2) by decide, show ¬ (1 = 2) by decide, if_true, if_false]
  refine t_nt.trans (not_tr ?_)
  simp only [t_an, t_seql, t_eql, lk_v0, lk_v4, D.tr_b, rowW, lk, viewKs, lk_s, lk_i, lk_w, rowD, singleB]
  simp
def el_c68 : SE := (.op .nt (.op .an (.op (.cm .eql) (.op (.fl 0) (.op .nth (.op .p2 (.at 0) (.li 0)) (.at 2)) (.li 0)) (.op (.fl 0) (.op .nth (.op .p2 (.at 1) (.li 0)) (.at 2)) (.li 0))) (.op .an (.op (.cm .eql) (.op (.fl 1) (.op .nth (.op .p2 (.at 0) (.li 0)) (.at 2)) (.li 0)) (.op (.fl 1) (.op .nth (.op .p2 (.at 1) (.li 0)) (.at 2)) (.li 0))) (.lb true))) (.li 0))
theorem c68_el (g : Nat → D Unit) (d : D Unit) : (denT (setG g 2 d) el_c68).tr = true ↔ rowW (lk 4) (((g 0).snd.lst[d.int.toNat]?).getD (.i 0)) ≠ rowW (lk 4) (((g 1).snd.lst[d.int.toNat]?).getD (.i 0)) := by
  simp only [el_c68, denT, setG, r_p2, r_nth, r_fl, r_fn, show ¬ (0 = 2) by decide, show ¬ (1 = 2) by decide, if_true, if_false]
  refine t_nt.trans (not_tr ?_)
  simp only [t_an, t_seql, t_eql, lk_v0, lk_v4, D.tr_b, rowW, lk, viewKs, lk_s, lk_i, lk_w, rowD, singleB]
  simp
def el_c25 : SE := (.op (.sc .neq) (.op .nth (.op .p2 (.at 0) (.li 0)) (.at 2)) (.op .nth (.op .p2 (.at 1) (.li 0)) (.at 2)))
theorem c25_el (g : Nat → D Unit) (d : D Unit) : (denT (setG g 2 d) el_c25).tr = true ↔ rowW (lk 0) (((g 0).snd.lst[d.int.toNat]?).getD (.i 0)) ≠ rowW (lk 0) (((g 1).snd.lst[d.int.toNat]?).getD (.i 0)) := by
  simp only [el_c25, denT, setG, t_sneq, r_p2, r_nth, show ¬ (0 = 2) by decide, show ¬ (1 = 2) by decide, if_true, if_false, rowW, lk, viewKs, lk_s, lk_i, rowD, singleB]
  simp
def el_c18 : SE := (.op .nt (.op .an (.op (.sc .eql) (.op (.fl 0) (.op .nth (.op .p2 (.at 0) (.li 0)) (.at 2)) (.li 0)) (.op (.fl 0) (.op .nth (.op .p2 (.at 1) (.li 0)) (.at 2)) (.li 0))) (.op .an (.op (.sc .eql) (.op .p2 (.op (.fl 1) (.op .nth (.op .p2 (.at 0) (.li 0)) (.at 2)) (.li 0)) (.li 0)) (.op .p2 (.op (.fl 1) (.op .nth (.op .p2 (.at 1) (.li 0)) (.at 2)) (.li 0)) (.li 0))) (.op .an (.op (.fn 0) (.op (.fl 2) (.op .nth (.op .p2 (.at 0) (.li 0)) (.at 2)) (.li 0)) (.op (.fl 2) (.op .nth (.op .p2 (.at 1) (.li 0)) (.at 2)) (.li 0))) (.op .an (.op (.cm .eql) (.op (.fl 3) (.op .nth (.op .p2 (.at 0) (.li 0)) (.at 2)) (.li 0)) (.op (.fl 3) (.op .nth (.op .p2 (.at 1) (.li 0)) (.at 2)) (.li 0))) (.op .an (.op (.cm .eql) (.op (.fl 4) (.op .nth (.op .p2 (.at 0) (.li 0)) (.at 2)) (.li 0)) (.op (.fl 4) (.op .nth (.op .p2 (.at 1) (.li 0)) (.at 2)) (.li 0))) (.op (.cm .eql) (.op (.fl 5) (.op .nth (.op .p2 (.at 0) (.li 0)) (.at 2)) (.li 0)) (.op (.fl 5) (.op .nth (.op .p2 (.at 1) (.li 0)) (.at 2)) (.li 0)))))))) (.li 0))
theorem c18_el (g : Nat → D Unit) (d : D Unit) : (denT (setG g 2 d) el_c18).tr = true ↔ rowW (lk 6) (((g 0).snd.lst[d.int.toNat]?).getD (.i 0)) ≠ rowW (lk 6) (((g 1).snd.lst[d.int.toNat]?).getD (.i 0)) := by
  simp only [el_c18, denT, setG, r_p2, r_nth, r_fl, r_fn, show ¬ (0 = 2) by decide, show ¬ (1 = 2) by decide, if_true, if_false]
  refine t_nt.trans (not_tr ?_)
  simp only [t_an, t_seql, t_eql, lk_v0, lk_v4, D.tr_b, rowW, lk, viewKs, lk_s, lk_i, lk_w, rowD, singleB]
  simp
def el_c20 : SE := (.op .nt (.op .an (.op (.sc .eql) (.op (.fl 0) (.op .nth (.op .p2 (.at 0) (.li 0)) (.at 2)) (.li 0)) (.op (.fl 0) (.op .nth (.op .p2 (.at 1) (.li 0)) (.at 2)) (.li 0))) (.op .an (.op (.cm .eql) (.op (.fl 1) (.op .nth (.op .p2 (.at 0) (.li 0)) (.at 2)) (.li 0)) (.op (.fl 1) (.op .nth (.op .p2 (.at 1) (.li 0)) (.at 2)) (.li 0))) (.op (.fn 8) (.op (.fl 2) (.op .nth (.op .p2 (.at 0) (.li 0)) (.at 2)) (.li 0)) (.op (.fl 2) (.op .nth (.op .p2 (.at 1) (.li 0)) (.at 2)) (.li 0))))) (.li 0))
theorem c20_el (g : Nat → D Unit) (d : D Unit) : (denT (setG g 2 d) el_c20).tr = true ↔ rowW (lk 5) (((g 0).snd.lst[d.int.toNat]?).getD (.i 0)) ≠ rowW (lk 5) (((g 1).snd.lst[d.int.toNat]?).getD (.i 0)) := by
  simp only [el_c20, denT, setG, r_p2, r_nth, r_fl, r_fn, show ¬ (0 = 2) by decide, show ¬ (1 = 2) by decide, if_true, if_false]
  refine t_nt.trans (not_tr ?_)
  simp only [t_an, t_seql, t_eql, lk_v0, lk_v4, D.tr_b, rowW, lk, viewKs, lk_s, lk_i, lk_w, rowD, singleB]
  simp
section
variable [Sig] {lo : Nat} (hb : RunBase Tryz.prog (plansIn plTbl))
include hb
omit [Sig] hb in
theorem c67_run : Out.same (c67.run Tryz.prog (plansIn plTbl) x_c67 (loopXs Tryz.prog (plansIn plTbl) x_c67 ann 1000 3) 1000).slim (eqLoopVt 0 el_c67) = true := by decide +kernel
theorem c67_ok : CtrOK Unit Tryz.prog lo c67 := ctr_run hb noExt_ok (by decide +kernel) c67_run (by decide +kernel) (by decide +kernel) fun g ht _ => eqLoop_vc 0 _ g (ht (0, _) List.mem_cons_self) (c67_el g)
omit [Sig] hb in
theorem c24_run : Out.same (c24.run Tryz.prog (plansIn plTbl) x_c24 (loopXs Tryz.prog (plansIn plTbl) x_c24 ann 1000 3) 1000).slim (eqLoopVt 1 el_c24) = true := by decide +kernel
theorem c24_ok : CtrOK Unit Tryz.prog lo c24 := ctr_run hb noExt_ok (by decide +kernel) c24_run (by decide +kernel) (by decide +kernel) fun g ht _ => eqLoop_vc 1 _ g (ht (0, _) List.mem_cons_self) (c24_el g)
omit [Sig] hb in
theorem c23_run : Out.same (c23.run Tryz.prog (plansIn plTbl) x_c23 (loopXs Tryz.prog (plansIn plTbl) x_c23 ann 1000 3) 1000).slim (eqLoopVt 2 el_c23) = true := by decide +kernel
theorem c23_ok : CtrOK Unit Tryz.prog lo c23 := ctr_run hb noExt_ok (by decide +kernel) c23_run (by decide +kernel) (by decide +kernel) fun g ht _ => eqLoop_vc 2 _ g (ht (0, _) List.mem_cons_self) (c23_el g)
omit [Sig] hb in
theorem c22_run : Out.same (c22.run Tryz.prog (plansIn plTbl) x_c22 (loopXs Tryz.prog (plansIn plTbl) x_c22 ann 1000 3) 1000).slim (eqLoopVt 3 el_c22) = true := by decide +kernel
theorem c22_ok : CtrOK Unit Tryz.prog lo c22 := ctr_run hb noExt_ok (by decide +kernel) c22_run (by decide +kernel) (by decide +kernel) fun g ht _ => eqLoop_vc 3 _ g (ht (0, _) List.mem_cons_self) (c22_el g)
omit [Sig] hb in
theorem c68_run : Out.same (c68.run Tryz.prog (plansIn plTbl) x_c68 (loopXs Tryz.prog (plansIn plTbl) x_c68 ann 1000 3) 1000).slim (eqLoopVt 4 el_c68) = true := by decide +kernel
theorem c68_ok : CtrOK Unit Tryz.prog lo c68 := ctr_run hb noExt_ok (by decide +kernel) c68_run (by decide +kernel) (by decide +kernel) fun g ht _ => eqLoop_vc 4 _ g (ht (0, _) List.mem_cons_self) (c68_el g)
omit [Sig] hb in
theorem c25_run : Out.same (c25.run Tryz.prog (plansIn plTbl) x_c25 (loopXs Tryz.prog (plansIn plTbl) x_c25 ann 1000 3) 1000).slim (eqLoopVt 0 el_c25) = true := by decide +kernel
theorem c25_ok : CtrOK Unit Tryz.prog lo c25 := ctr_run hb noExt_ok (by decide +kernel) c25_run (by decide +kernel) (by decide +kernel) fun g ht _ => eqLoop_vc 0 _ g (ht (0, _) List.mem_cons_self) (c25_el g)
def vt_c63 : Out (List Eqn) := (.leaf [])
omit [Sig] hb in
theorem c63_run : Out.same (c63.run Tryz.prog (plansIn plTbl) x_c63 (loopXs Tryz.prog (plansIn plTbl) x_c63 ann 1000 3) 1000).slim vt_c63 = true := by decide +kernel
theorem c63_ok : CtrOK Unit Tryz.prog lo c63 := ctr_run hb noExt_ok (by decide +kernel) c63_run (by decide +kernel) (by decide +kernel) fun g _ _ => by
  exact trivial
def vt_c19 : Out (List Eqn) := (.fork (.op (.sc .eql) (.at 0) (.at 6))
 (.fork (.op (.sc .eql) (.op .p2 (.at 1) (.li 0)) (.op .p2 (.at 7) (.li 0)))
  (.fork (.op (.fn 0) (.at 2) (.at 8))
   (.fork (.op (.cm .eql) (.at 3) (.at 9))
    (.fork (.op (.cm .eql) (.at 4) (.at 10))
     (.leaf [⟨1, (.op .an (.op (.sc .eql) (.at 0) (.at 6)) (.op .an (.op (.sc .eql) (.op .p2 (.at 1) (.li 0)) (.op .p2 (.at 7) (.li 0))) (.op .an (.op (.fn 0) (.at 2) (.at 8)) (.op .an (.op (.cm .eql) (.at 3) (.at 9)) (.op .an (.op (.cm .eql) (.at 4) (.at 10)) (.op (.cm .eql) (.at 5) (.at 11))))))), (.op (.cm .eql) (.at 5) (.at 11))⟩])
     (.leaf [⟨1, (.op .an (.op (.sc .eql) (.at 0) (.at 6)) (.op .an (.op (.sc .eql) (.op .p2 (.at 1) (.li 0)) (.op .p2 (.at 7) (.li 0))) (.op .an (.op (.fn 0) (.at 2) (.at 8)) (.op .an (.op (.cm .eql) (.at 3) (.at 9)) (.op .an (.op (.cm .eql) (.at 4) (.at 10)) (.op (.cm .eql) (.at 5) (.at 11))))))), (.lb false)⟩]))
    (.leaf [⟨1, (.op .an (.op (.sc .eql) (.at 0) (.at 6)) (.op .an (.op (.sc .eql) (.op .p2 (.at 1) (.li 0)) (.op .p2 (.at 7) (.li 0))) (.op .an (.op (.fn 0) (.at 2) (.at 8)) (.op .an (.op (.cm .eql) (.at 3) (.at 9)) (.op .an (.op (.cm .eql) (.at 4) (.at 10)) (.op (.cm .eql) (.at 5) (.at 11))))))), (.lb false)⟩]))
   (.leaf [⟨1, (.op .an (.op (.sc .eql) (.at 0) (.at 6)) (.op .an (.op (.sc .eql) (.op .p2 (.at 1) (.li 0)) (.op .p2 (.at 7) (.li 0))) (.op .an (.op (.fn 0) (.at 2) (.at 8)) (.op .an (.op (.cm .eql) (.at 3) (.at 9)) (.op .an (.op (.cm .eql) (.at 4) (.at 10)) (.op (.cm .eql) (.at 5) (.at 11))))))), (.lb false)⟩]))
  (.leaf [⟨1, (.op .an (.op (.sc .eql) (.at 0) (.at 6)) (.op .an (.op (.sc .eql) (.op .p2 (.at 1) (.li 0)) (.op .p2 (.at 7) (.li 0))) (.op .an (.op (.fn 0) (.at 2) (.at 8)) (.op .an (.op (.cm .eql) (.at 3) (.at 9)) (.op .an (.op (.cm .eql) (.at 4) (.at 10)) (.op (.cm .eql) (.at 5) (.at 11))))))), (.lb false)⟩]))
 (.leaf [⟨1, (.op .an (.op (.sc .eql) (.at 0) (.at 6)) (.op .an (.op (.sc .eql) (.op .p2 (.at 1) (.li 0)) (.op .p2 (.at 7) (.li 0))) (.op .an (.op (.fn 0) (.at 2) (.at 8)) (.op .an (.op (.cm .eql) (.at 3) (.at 9)) (.op .an (.op (.cm .eql) (.at 4) (.at 10)) (.op (.cm .eql) (.at 5) (.at 11))))))), (.lb false)⟩]))
omit [Sig] hb in
theorem c19_run : Out.same (c19.run Tryz.prog (plansIn plTbl) x_c19 (loopXs Tryz.prog (plansIn plTbl) x_c19 ann 1000 3) 1000).slim vt_c19 = true := by decide +kernel
theorem c19_ok : CtrOK Unit Tryz.prog lo c19 := ctr_run hb (orExt_ok (call_ok (c63_ok hb)) (orExt_ok (call_ok (c67_ok hb)) noExt_ok)) (by decide +kernel) c19_run (by decide +kernel) (by decide +kernel) fun g _ _ => by
  simp only [vt_c19, vcT, eqT, denT, proj1, t_an, f_an, t_seql, f_seql, t_eql, f_eql, r_p2, r_fn, D.tr_b]
  simp_all
  intros
  rw [Bool.eq_iff_iff]
  simp only [t_an, t_seql, t_eql]
  simp_all
def vt_c21 : Out (List Eqn) := (.fork (.op (.sc .eql) (.at 0) (.at 3))
 (.fork (.op (.cm .eql) (.at 1) (.at 4))
  (.leaf [⟨1, (.op .an (.op (.sc .eql) (.at 0) (.at 3)) (.op .an (.op (.cm .eql) (.at 1) (.at 4)) (.op (.fn 8) (.at 2) (.at 5)))), (.op (.fn 8) (.at 2) (.at 5))⟩])
  (.leaf [⟨1, (.op .an (.op (.sc .eql) (.at 0) (.at 3)) (.op .an (.op (.cm .eql) (.at 1) (.at 4)) (.op (.fn 8) (.at 2) (.at 5)))), (.lb false)⟩]))
 (.leaf [⟨1, (.op .an (.op (.sc .eql) (.at 0) (.at 3)) (.op .an (.op (.cm .eql) (.at 1) (.at 4)) (.op (.fn 8) (.at 2) (.at 5)))), (.lb false)⟩]))
omit [Sig] hb in
theorem c21_run : Out.same (c21.run Tryz.prog (plansIn plTbl) x_c21 (loopXs Tryz.prog (plansIn plTbl) x_c21 ann 1000 3) 1000).slim vt_c21 = true := by decide +kernel
theorem c21_ok : CtrOK Unit Tryz.prog lo c21 := ctr_run hb (orExt_ok (call_ok (c68_ok hb)) noExt_ok) (by decide +kernel) c21_run (by decide +kernel) (by decide +kernel) fun g _ _ => by
  simp only [vt_c21, vcT, eqT, denT, proj1, t_an, f_an, t_seql, f_seql, t_eql, f_eql, r_p2, r_fn, D.tr_b]
  simp_all
  intros
  rw [Bool.eq_iff_iff]
  simp only [t_an, t_seql, t_eql]
  simp_all
omit [Sig] hb in
theorem c18_run : Out.same (c18.run Tryz.prog (plansIn plTbl) x_c18 (loopXs Tryz.prog (plansIn plTbl) x_c18 ann 1000 3) 1000).slim (eqLoopVt 6 el_c18) = true := by decide +kernel
theorem c18_ok : CtrOK Unit Tryz.prog lo c18 := ctr_run hb (orExt_ok (call_ok (c19_ok hb)) noExt_ok) (by decide +kernel) c18_run (by decide +kernel) (by decide +kernel) fun g ht _ => eqLoop_vc 6 _ g (ht (0, _) List.mem_cons_self) (c18_el g)
omit [Sig] hb in
theorem c20_run : Out.same (c20.run Tryz.prog (plansIn plTbl) x_c20 (loopXs Tryz.prog (plansIn plTbl) x_c20 ann 1000 3) 1000).slim (eqLoopVt 5 el_c20) = true := by decide +kernel
theorem c20_ok : CtrOK Unit Tryz.prog lo c20 := ctr_run hb (orExt_ok (call_ok (c21_ok hb)) noExt_ok) (by decide +kernel) c20_run (by decide +kernel) (by decide +kernel) fun g ht _ => eqLoop_vc 5 _ g (ht (0, _) List.mem_cons_self) (c20_el g)
end
end Go.Proofs.YtbjomeonjlialaaGreat.V.S
namespace Go.Proofs.YtbjomeonjlialaaGreat.V.S
section
variable [Sig] {lo : Nat} (hb : RunBase Tryz.prog (plansIn plTbl))
include hb
def vt_c9 : Out (List Eqn) := (.fork (.op .an (.op (.cm .eql) (.at 0) (.at 16)) (.op .an (.op (.cm .eql) (.at 1) (.at 17)) (.op .an (.op (.cm .eql) (.at 2) (.at 18)) (.op .an (.op (.cm .eql) (.at 3) (.at 19)) (.op .an (.op (.cm .eql) (.at 4) (.at 20)) (.op .an (.op (.cm .eql) (.at 5) (.at 21)) (.op .an (.op (.cm .eql) (.at 6) (.at 22)) (.lb true))))))))
 (.fork (.op (.cm .eql) (.at 7) (.at 23))
  (.fork (.op (.cm .eql) (.at 8) (.at 24))
   (.fork (.op (.cm .eql) (.at 9) (.at 25))
    (.fork (.op (.cm .eql) (.at 10) (.at 26))
     (.fork (.op (.fn 12) (.at 11) (.at 27))
      (.fork (.op (.fn 10) (.at 12) (.at 28))
       (.fork (.op (.fn 6) (.at 13) (.at 29))
        (.fork (.op (.fn 4) (.at 14) (.at 30))
         (.leaf [⟨1, (.op .an (.op (.cm .eql) (.at 0) (.at 16)) (.op .an (.op (.cm .eql) (.at 1) (.at 17)) (.op .an (.op (.cm .eql) (.at 2) (.at 18)) (.op .an (.op (.cm .eql) (.at 3) (.at 19)) (.op .an (.op (.cm .eql) (.at 4) (.at 20)) (.op .an (.op (.cm .eql) (.at 5) (.at 21)) (.op .an (.op (.cm .eql) (.at 6) (.at 22)) (.op .an (.op (.cm .eql) (.at 7) (.at 23)) (.op .an (.op (.cm .eql) (.at 8) (.at 24)) (.op .an (.op (.cm .eql) (.at 9) (.at 25)) (.op .an (.op (.cm .eql) (.at 10) (.at 26)) (.op .an (.op (.fn 12) (.at 11) (.at 27)) (.op .an (.op (.fn 10) (.at 12) (.at 28)) (.op .an (.op (.fn 6) (.at 13) (.at 29)) (.op .an (.op (.fn 4) (.at 14) (.at 30)) (.op (.fn 2) (.at 15) (.at 31))))))))))))))))), (.op (.fn 2) (.at 15) (.at 31))⟩])
         (.leaf [⟨1, (.op .an (.op (.cm .eql) (.at 0) (.at 16)) (.op .an (.op (.cm .eql) (.at 1) (.at 17)) (.op .an (.op (.cm .eql) (.at 2) (.at 18)) (.op .an (.op (.cm .eql) (.at 3) (.at 19)) (.op .an (.op (.cm .eql) (.at 4) (.at 20)) (.op .an (.op (.cm .eql) (.at 5) (.at 21)) (.op .an (.op (.cm .eql) (.at 6) (.at 22)) (.op .an (.op (.cm .eql) (.at 7) (.at 23)) (.op .an (.op (.cm .eql) (.at 8) (.at 24)) (.op .an (.op (.cm .eql) (.at 9) (.at 25)) (.op .an (.op (.cm .eql) (.at 10) (.at 26)) (.op .an (.op (.fn 12) (.at 11) (.at 27)) (.op .an (.op (.fn 10) (.at 12) (.at 28)) (.op .an (.op (.fn 6) (.at 13) (.at 29)) (.op .an (.op (.fn 4) (.at 14) (.at 30)) (.op (.fn 2) (.at 15) (.at 31))))))))))))))))), (.lb false)⟩]))
        (.leaf [⟨1, (.op .an (.op (.cm .eql) (.at 0) (.at 16)) (.op .an (.op (.cm .eql) (.at 1) (.at 17)) (.op .an (.op (.cm .eql) (.at 2) (.at 18)) (.op .an (.op (.cm .eql) (.at 3) (.at 19)) (.op .an (.op (.cm .eql) (.at 4) (.at 20)) (.op .an (.op (.cm .eql) (.at 5) (.at 21)) (.op .an (.op (.cm .eql) (.at 6) (.at 22)) (.op .an (.op (.cm .eql) (.at 7) (.at 23)) (.op .an (.op (.cm .eql) (.at 8) (.at 24)) (.op .an (.op (.cm .eql) (.at 9) (.at 25)) (.op .an (.op (.cm .eql) (.at 10) (.at 26)) (.op .an (.op (.fn 12) (.at 11) (.at 27)) (.op .an (.op (.fn 10) (.at 12) (.at 28)) (.op .an (.op (.fn 6) (.at 13) (.at 29)) (.op .an (.op (.fn 4) (.at 14) (.at 30)) (.op (.fn 2) (.at 15) (.at 31))))))))))))))))), (.lb false)⟩]))
       (.leaf [⟨1, (.op .an (.op (.cm .eql) (.at 0) (.at 16)) (.op .an (.op (.cm .eql) (.at 1) (.at 17)) (.op .an (.op (.cm .eql) (.at 2) (.at 18)) (.op .an (.op (.cm .eql) (.at 3) (.at 19)) (.op .an (.op (.cm .eql) (.at 4) (.at 20)) (.op .an (.op (.cm .eql) (.at 5) (.at 21)) (.op .an (.op (.cm .eql) (.at 6) (.at 22)) (.op .an (.op (.cm .eql) (.at 7) (.at 23)) (.op .an (.op (.cm .eql) (.at 8) (.at 24)) (.op .an (.op (.cm .eql) (.at 9) (.at 25)) (.op .an (.op (.cm .eql) (.at 10) (.at 26)) (.op .an (.op (.fn 12) (.at 11) (.at 27)) (.op .an (.op (.fn 10) (.at 12) (.at 28)) (.op .an (.op (.fn 6) (.at 13) (.at 29)) (.op .an (.op (.fn 4) (.at 14) (.at 30)) (.op (.fn 2) (.at 15) (.at 31))))))))))))))))), (.lb false)⟩]))
      (.leaf [⟨1, (.op .an (.op (.cm .eql) (.at 0) (.at 16)) (.op .an (.op (.cm .eql) (.at 1) (.at 17)) (.op .an (.op (.cm .eql) (.at 2) (.at 18)) (.op .an (.op (.cm .eql) (.at 3) (.at 19)) (.op .an (.op (.cm .eql) (.at 4) (.at 20)) (.op .an (.op (.cm .eql) (.at 5) (.at 21)) (.op .an (.op (.cm .eql) (.at 6) (.at 22)) (.op .an (.op (.cm .eql) (.at 7) (.at 23)) (.op .an (.op (.cm .eql) (.at 8) (.at 24)) (.op .an (.op (.cm .eql) (.at 9) (.at 25)) (.op .an (.op (.cm .eql) (.at 10) (.at 26)) (.op .an (.op (.fn 12) (.at 11) (.at 27)) (.op .an (.op (.fn 10) (.at 12) (.at 28)) (.op .an (.op (.fn 6) (.at 13) (.at 29)) (.op .an (.op (.fn 4) (.at 14) (.at 30)) (.op (.fn 2) (.at 15) (.at 31))))))))))))))))), (.lb false)⟩]))
     (.leaf [⟨1, (.op .an (.op (.cm .eql) (.at 0) (.at 16)) (.op .an (.op (.cm .eql) (.at 1) (.at 17)) (.op .an (.op (.cm .eql) (.at 2) (.at 18)) (.op .an (.op (.cm .eql) (.at 3) (.at 19)) (.op .an (.op (.cm .eql) (.at 4) (.at 20)) (.op .an (.op (.cm .eql) (.at 5) (.at 21)) (.op .an (.op (.cm .eql) (.at 6) (.at 22)) (.op .an (.op (.cm .eql) (.at 7) (.at 23)) (.op .an (.op (.cm .eql) (.at 8) (.at 24)) (.op .an (.op (.cm .eql) (.at 9) (.at 25)) (.op .an (.op (.cm .eql) (.at 10) (.at 26)) (.op .an (.op (.fn 12) (.at 11) (.at 27)) (.op .an (.op (.fn 10) (.at 12) (.at 28)) (.op .an (.op (.fn 6) (.at 13) (.at 29)) (.op .an (.op (.fn 4) (.at 14) (.at 30)) (.op (.fn 2) (.at 15) (.at 31))))))))))))))))), (.lb false)⟩]))
    (.leaf [⟨1, (.op .an (.op (.cm .eql) (.at 0) (.at 16)) (.op .an (.op (.cm .eql) (.at 1) (.at 17)) (.op .an (.op (.cm .eql) (.at 2) (.at 18)) (.op .an (.op (.cm .eql) (.at 3) (.at 19)) (.op .an (.op (.cm .eql) (.at 4) (.at 20)) (.op .an (.op (.cm .eql) (.at 5) (.at 21)) (.op .an (.op (.cm .eql) (.at 6) (.at 22)) (.op .an (.op (.cm .eql) (.at 7) (.at 23)) (.op .an (.op (.cm .eql) (.at 8) (.at 24)) (.op .an (.op (.cm .eql) (.at 9) (.at 25)) (.op .an (.op (.cm .eql) (.at 10) (.at 26)) (.op .an (.op (.fn 12) (.at 11) (.at 27)) (.op .an (.op (.fn 10) (.at 12) (.at 28)) (.op .an (.op (.fn 6) (.at 13) (.at 29)) (.op .an (.op (.fn 4) (.at 14) (.at 30)) (.op (.fn 2) (.at 15) (.at 31))))))))))))))))), (.lb false)⟩]))
   (.leaf [⟨1, (.op .an (.op (.cm .eql) (.at 0) (.at 16)) (.op .an (.op (.cm .eql) (.at 1) (.at 17)) (.op .an (.op (.cm .eql) (.at 2) (.at 18)) (.op .an (.op (.cm .eql) (.at 3) (.at 19)) (.op .an (.op (.cm .eql) (.at 4) (.at 20)) (.op .an (.op (.cm .eql) (.at 5) (.at 21)) (.op .an (.op (.cm .eql) (.at 6) (.at 22)) (.op .an (.op (.cm .eql) (.at 7) (.at 23)) (.op .an (.op (.cm .eql) (.at 8) (.at 24)) (.op .an (.op (.cm .eql) (.at 9) (.at 25)) (.op .an (.op (.cm .eql) (.at 10) (.at 26)) (.op .an (.op (.fn 12) (.at 11) (.at 27)) (.op .an (.op (.fn 10) (.at 12) (.at 28)) (.op .an (.op (.fn 6) (.at 13) (.at 29)) (.op .an (.op (.fn 4) (.at 14) (.at 30)) (.op (.fn 2) (.at 15) (.at 31))))))))))))))))), (.lb false)⟩]))
  (.leaf [⟨1, (.op .an (.op (.cm .eql) (.at 0) (.at 16)) (.op .an (.op (.cm .eql) (.at 1) (.at 17)) (.op .an (.op (.cm .eql) (.at 2) (.at 18)) (.op .an (.op (.cm .eql) (.at 3) (.at 19)) (.op .an (.op (.cm .eql) (.at 4) (.at 20)) (.op .an (.op (.cm .eql) (.at 5) (.at 21)) (.op .an (.op (.cm .eql) (.at 6) (.at 22)) (.op .an (.op (.cm .eql) (.at 7) (.at 23)) (.op .an (.op (.cm .eql) (.at 8) (.at 24)) (.op .an (.op (.cm .eql) (.at 9) (.at 25)) (.op .an (.op (.cm .eql) (.at 10) (.at 26)) (.op .an (.op (.fn 12) (.at 11) (.at 27)) (.op .an (.op (.fn 10) (.at 12) (.at 28)) (.op .an (.op (.fn 6) (.at 13) (.at 29)) (.op .an (.op (.fn 4) (.at 14) (.at 30)) (.op (.fn 2) (.at 15) (.at 31))))))))))))))))), (.lb false)⟩]))
 (.leaf [⟨1, (.op .an (.op (.cm .eql) (.at 0) (.at 16)) (.op .an (.op (.cm .eql) (.at 1) (.at 17)) (.op .an (.op (.cm .eql) (.at 2) (.at 18)) (.op .an (.op (.cm .eql) (.at 3) (.at 19)) (.op .an (.op (.cm .eql) (.at 4) (.at 20)) (.op .an (.op (.cm .eql) (.at 5) (.at 21)) (.op .an (.op (.cm .eql) (.at 6) (.at 22)) (.op .an (.op (.cm .eql) (.at 7) (.at 23)) (.op .an (.op (.cm .eql) (.at 8) (.at 24)) (.op .an (.op (.cm .eql) (.at 9) (.at 25)) (.op .an (.op (.cm .eql) (.at 10) (.at 26)) (.op .an (.op (.fn 12) (.at 11) (.at 27)) (.op .an (.op (.fn 10) (.at 12) (.at 28)) (.op .an (.op (.fn 6) (.at 13) (.at 29)) (.op .an (.op (.fn 4) (.at 14) (.at 30)) (.op (.fn 2) (.at 15) (.at 31))))))))))))))))), (.lb false)⟩]))
omit [Sig] hb in
theorem c9_run : Out.same (c9.run Tryz.prog (plansIn plTbl) x_c9 (loopXs Tryz.prog (plansIn plTbl) x_c9 ann 1000 3) 1000).slim vt_c9 = true := by decide +kernel
theorem c9_ok : CtrOK Unit Tryz.prog lo c9 := ctr_run hb (orExt_ok (call_ok (c18_ok hb)) (orExt_ok (call_ok (c20_ok hb)) (orExt_ok (call_ok (c22_ok hb)) (orExt_ok (call_ok (c23_ok hb)) (orExt_ok (call_ok (c24_ok hb)) noExt_ok))))) (by decide +kernel) c9_run (by decide +kernel) (by decide +kernel) fun g _ _ => by
  simp only [vt_c9, vcT, eqT, denT, proj1, t_an, f_an, t_seql, f_seql, t_eql, f_eql, r_p2, r_fn, D.tr_b]
  simp_all
  try intros
  try rw [Bool.eq_iff_iff]
  try simp only [t_an, t_seql, t_eql]
  try simp_all
def vt_c8 : Out (List Eqn) := (.fork (.op (.cm .gtr) (.op .len (.op .p2 (.at 11) (.li 0)) (.li 0)) (.li 20))
 (.leaf [])
 (.fork (.op (.cm .gtr) (.op .len (.op .p2 (.at 12) (.li 0)) (.li 0)) (.li 20))
  (.leaf [])
  (.fork (.op (.cm .gtr) (.op .len (.op .p2 (.at 13) (.li 0)) (.li 0)) (.li 20))
   (.leaf [])
   (.fork (.op (.cm .gtr) (.op .len (.op .p2 (.at 14) (.li 0)) (.li 0)) (.li 20))
    (.leaf [])
    (.fork (.op (.cm .gtr) (.op .len (.op .p2 (.at 15) (.li 0)) (.li 0)) (.li 70))
     (.leaf [])
     (.need (.op (.cm .leq) (.li 0) (.li 0))
      (.need (.op (.cm .leq) (.li 0) (.op .len (.op .p2 (.at 11) (.li 0)) (.li 0)))
      (.any 17
      (.fork (.op (.cm .leq) (.li 0) (.at 17))
      (.fork (.op (.cm .leq) (.at 17) (.op .len (.op .p2 (.at 11) (.li 0)) (.li 0)))
       (.fork (.op (.cm .lss) (.at 17) (.op .len (.op .p2 (.at 11) (.li 0)) (.li 0)))
        (.fork (.op (.cm .gtr) (.op .ln (.op (.fl 0) (.op .nth (.op .p2 (.at 11) (.li 0)) (.at 17)) (.li 0)) (.li 0)) (.li 300))
         (.leaf [])
         (.fork (.op (.cm .gtr) (.op .ln (.op .p2 (.op (.fl 1) (.op .nth (.op .p2 (.at 11) (.li 0)) (.at 17)) (.li 0)) (.li 0)) (.li 0)) (.li 300))
          (.leaf [])
          (.fork (.op (.cm .gtr) (.op .len (.op .p2 (.op (.fl 2) (.op .nth (.op .p2 (.at 11) (.li 0)) (.at 17)) (.li 0)) (.li 0)) (.li 0)) (.li 20))
           (.leaf [])
           (.need (.op (.cm .leq) (.li 0) (.op .len (.op .p2 (.op (.fl 2) (.op .nth (.op .p2 (.at 11) (.li 0)) (.at 17)) (.li 0)) (.li 0)) (.li 0)))
            (.any 19
            (.fork (.op (.cm .leq) (.li 0) (.at 19))
            (.fork (.op (.cm .leq) (.at 19) (.op .len (.op .p2 (.op (.fl 2) (.op .nth (.op .p2 (.at 11) (.li 0)) (.at 17)) (.li 0)) (.li 0)) (.li 0)))
             (.fork (.op (.cm .lss) (.at 19) (.op .len (.op .p2 (.op (.fl 2) (.op .nth (.op .p2 (.at 11) (.li 0)) (.at 17)) (.li 0)) (.li 0)) (.li 0)))
              (.fork (.op (.cm .gtr) (.op .ln (.op .nth (.op .p2 (.op (.fl 2) (.op .nth (.op .p2 (.at 11) (.li 0)) (.at 17)) (.li 0)) (.li 0)) (.at 19)) (.li 0)) (.li 300))
               (.leaf [])
               (.need (.op (.cm .lss) (.op (.ar .sub .i64) (.op .len (.op .p2 (.op (.fl 2) (.op .nth (.op .p2 (.at 11) (.li 0)) (.at 17)) (.li 0)) (.li 0)) (.li 0)) (.op (.ar .add .i64) (.at 19) (.li 1))) (.op (.ar .sub .i64) (.op .len (.op .p2 (.op (.fl 2) (.op .nth (.op .p2 (.at 11) (.li 0)) (.at 17)) (.li 0)) (.li 0)) (.li 0)) (.at 19)))
                (.need (.op (.cm .leq) (.li 0) (.op (.ar .sub .i64) (.op .len (.op .p2 (.op (.fl 2) (.op .nth (.op .p2 (.at 11) (.li 0)) (.at 17)) (.li 0)) (.li 0)) (.li 0)) (.op (.ar .add .i64) (.at 19) (.li 1))))
                (.need (.op (.cm .leq) (.li 0) (.op (.ar .add .i64) (.at 19) (.li 1)))
                (.need (.op (.cm .leq) (.op (.ar .add .i64) (.at 19) (.li 1)) (.op .len (.op .p2 (.op (.fl 2) (.op .nth (.op .p2 (.at 11) (.li 0)) (.at 17)) (.li 0)) (.li 0)) (.li 0)))
                .done)))))
              (.need (.op (.cm .lss) (.op (.ar .sub .i64) (.op .len (.op .p2 (.at 11) (.li 0)) (.li 0)) (.op (.ar .add .i64) (.at 17) (.li 1))) (.op (.ar .sub .i64) (.op .len (.op .p2 (.at 11) (.li 0)) (.li 0)) (.at 17)))
               (.need (.op (.cm .leq) (.li 0) (.op (.ar .sub .i64) (.op .len (.op .p2 (.at 11) (.li 0)) (.li 0)) (.op (.ar .add .i64) (.at 17) (.li 1))))
               (.need (.op (.cm .leq) (.li 0) (.op (.ar .add .i64) (.at 17) (.li 1)))
               (.need (.op (.cm .leq) (.op (.ar .add .i64) (.at 17) (.li 1)) (.op .len (.op .p2 (.at 11) (.li 0)) (.li 0)))
               .done)))))
             .done)
            .done))))))
        (.need (.op (.cm .leq) (.li 0) (.op .len (.op .p2 (.at 12) (.li 0)) (.li 0)))
         (.any 18
         (.fork (.op (.cm .leq) (.li 0) (.at 18))
         (.fork (.op (.cm .leq) (.at 18) (.op .len (.op .p2 (.at 12) (.li 0)) (.li 0)))
          (.fork (.op (.cm .lss) (.at 18) (.op .len (.op .p2 (.at 12) (.li 0)) (.li 0)))
           (.fork (.op (.cm .gtr) (.op .ln (.op (.fl 0) (.op .nth (.op .p2 (.at 12) (.li 0)) (.at 18)) (.li 0)) (.li 0)) (.li 300))
            (.leaf [])
            (.fork (.op (.cm .gtr) (.op .len (.op .p2 (.op (.fl 2) (.op .nth (.op .p2 (.at 12) (.li 0)) (.at 18)) (.li 0)) (.li 0)) (.li 0)) (.li 20))
             (.leaf [])
             (.need (.op (.cm .lss) (.op (.ar .sub .i64) (.op .len (.op .p2 (.at 12) (.li 0)) (.li 0)) (.op (.ar .add .i64) (.at 18) (.li 1))) (.op (.ar .sub .i64) (.op .len (.op .p2 (.at 12) (.li 0)) (.li 0)) (.at 18)))
              (.need (.op (.cm .leq) (.li 0) (.op (.ar .sub .i64) (.op .len (.op .p2 (.at 12) (.li 0)) (.li 0)) (.op (.ar .add .i64) (.at 18) (.li 1))))
              (.need (.op (.cm .leq) (.li 0) (.op (.ar .add .i64) (.at 18) (.li 1)))
              (.need (.op (.cm .leq) (.op (.ar .add .i64) (.at 18) (.li 1)) (.op .len (.op .p2 (.at 12) (.li 0)) (.li 0)))
              .done))))))
           (.need (.op (.cm .leq) (.li 0) (.op .len (.op .p2 (.at 13) (.li 0)) (.li 0)))
            (.any 19
            (.fork (.op (.cm .leq) (.li 0) (.at 19))
            (.fork (.op (.cm .leq) (.at 19) (.op .len (.op .p2 (.at 13) (.li 0)) (.li 0)))
             (.fork (.op (.cm .lss) (.at 19) (.op .len (.op .p2 (.at 13) (.li 0)) (.li 0)))
              (.fork (.op (.cm .gtr) (.op .ln (.op (.fl 0) (.op .nth (.op .p2 (.at 13) (.li 0)) (.at 19)) (.li 0)) (.li 0)) (.li 300))
               (.leaf [])
               (.need (.op (.cm .lss) (.op (.ar .sub .i64) (.op .len (.op .p2 (.at 13) (.li 0)) (.li 0)) (.op (.ar .add .i64) (.at 19) (.li 1))) (.op (.ar .sub .i64) (.op .len (.op .p2 (.at 13) (.li 0)) (.li 0)) (.at 19)))
                (.need (.op (.cm .leq) (.li 0) (.op (.ar .sub .i64) (.op .len (.op .p2 (.at 13) (.li 0)) (.li 0)) (.op (.ar .add .i64) (.at 19) (.li 1))))
                (.need (.op (.cm .leq) (.li 0) (.op (.ar .add .i64) (.at 19) (.li 1)))
                (.need (.op (.cm .leq) (.op (.ar .add .i64) (.at 19) (.li 1)) (.op .len (.op .p2 (.at 13) (.li 0)) (.li 0)))
                .done)))))
              (.need (.op (.cm .leq) (.li 0) (.op .len (.op .p2 (.at 14) (.li 0)) (.li 0)))
               (.any 20
               (.fork (.op (.cm .leq) (.li 0) (.at 20))
               (.fork (.op (.cm .leq) (.at 20) (.op .len (.op .p2 (.at 14) (.li 0)) (.li 0)))
                (.fork (.op (.cm .lss) (.at 20) (.op .len (.op .p2 (.at 14) (.li 0)) (.li 0)))
                 (.fork (.op (.cm .gtr) (.op .ln (.op (.fl 0) (.op .nth (.op .p2 (.at 14) (.li 0)) (.at 20)) (.li 0)) (.li 0)) (.li 300))
                  (.leaf [])
                  (.fork (.op (.cm .gtr) (.op .ln (.op (.fl 1) (.op .nth (.op .p2 (.at 14) (.li 0)) (.at 20)) (.li 0)) (.li 0)) (.li 300))
                   (.leaf [])
                   (.need (.op (.cm .lss) (.op (.ar .sub .i64) (.op .len (.op .p2 (.at 14) (.li 0)) (.li 0)) (.op (.ar .add .i64) (.at 20) (.li 1))) (.op (.ar .sub .i64) (.op .len (.op .p2 (.at 14) (.li 0)) (.li 0)) (.at 20)))
                    (.need (.op (.cm .leq) (.li 0) (.op (.ar .sub .i64) (.op .len (.op .p2 (.at 14) (.li 0)) (.li 0)) (.op (.ar .add .i64) (.at 20) (.li 1))))
                    (.need (.op (.cm .leq) (.li 0) (.op (.ar .add .i64) (.at 20) (.li 1)))
                    (.need (.op (.cm .leq) (.op (.ar .add .i64) (.at 20) (.li 1)) (.op .len (.op .p2 (.at 14) (.li 0)) (.li 0)))
                    .done))))))
                 (.leaf []))
                .done)
               .done))))
             .done)
            .done))))
          .done)
         .done))))
       .done)
      .done)))))))))
omit [Sig] hb in
theorem c8_run : Out.same (c8.run Tryz.prog (plansIn plTbl) x_c8 (loopXs Tryz.prog (plansIn plTbl) x_c8 ann 1000 3) 1000).slim vt_c8 = true := by decide +kernel
theorem c8_ok : CtrOK Unit Tryz.prog lo c8 := ctr_run hb noExt_ok (by decide +kernel) c8_run (by decide +kernel) (by decide +kernel) fun g _ _ => by
  simp only [vt_c8, vcT, eqT, denT, setG, t_lss, f_lss, t_leq, f_leq, t_gtr, f_gtr, i_add, i_sub, i_len, i_ln, r_p2, r_nth, r_fl, D.int_i, and_true, implies_true, Nat.reduceEqDiff, reduceIte]
  repeat' (first | apply And.intro | intro _)
  all_goals first
    | omega
    | (simp (disch := omega) only [wrap64] <;> omega)
end
end Go.Proofs.YtbjomeonjlialaaGreat.V.S
