/-
  The contract of the law's own comparison. No condition.
-/
import Derived.Test.YtbjomeonjlialaaGreatZbf
set_option linter.unusedVariables false
set_option linter.unusedSimpArgs false
namespace Go.Proofs.YtbjomeonjlialaaGreat.V.S
theorem e0_0 {a b : D Unit} : (Spec.fn 0 a b).tr = true ↔ rowsW (lk 0) a = rowsW (lk 0) b := fn_eq0 0 a b
theorem n0_0 {a b : D Unit} : (Spec.fn 0 a b).tr = false ↔ rowsW (lk 0) a ≠ rowsW (lk 0) b := not_tr (fn_eq0 0 a b)
theorem e1_0 {a b c : D Unit} : (Spec.fn 1 (.p a b) c).tr = true ↔ (rowsW (lk 0) a).take c.int.toNat = (rowsW (lk 0) b).take c.int.toNat := fn_eq1 0 a b c
theorem e0_1 {a b : D Unit} : (Spec.fn 2 a b).tr = true ↔ rowsW (lk 1) a = rowsW (lk 1) b := fn_eq0 1 a b
theorem n0_1 {a b : D Unit} : (Spec.fn 2 a b).tr = false ↔ rowsW (lk 1) a ≠ rowsW (lk 1) b := not_tr (fn_eq0 1 a b)
theorem e1_1 {a b c : D Unit} : (Spec.fn 3 (.p a b) c).tr = true ↔ (rowsW (lk 1) a).take c.int.toNat = (rowsW (lk 1) b).take c.int.toNat := fn_eq1 1 a b c
theorem e0_2 {a b : D Unit} : (Spec.fn 4 a b).tr = true ↔ rowsW (lk 2) a = rowsW (lk 2) b := fn_eq0 2 a b
theorem n0_2 {a b : D Unit} : (Spec.fn 4 a b).tr = false ↔ rowsW (lk 2) a ≠ rowsW (lk 2) b := not_tr (fn_eq0 2 a b)
theorem e1_2 {a b c : D Unit} : (Spec.fn 5 (.p a b) c).tr = true ↔ (rowsW (lk 2) a).take c.int.toNat = (rowsW (lk 2) b).take c.int.toNat := fn_eq1 2 a b c
theorem e0_3 {a b : D Unit} : (Spec.fn 6 a b).tr = true ↔ rowsW (lk 3) a = rowsW (lk 3) b := fn_eq0 3 a b
theorem n0_3 {a b : D Unit} : (Spec.fn 6 a b).tr = false ↔ rowsW (lk 3) a ≠ rowsW (lk 3) b := not_tr (fn_eq0 3 a b)
theorem e1_3 {a b c : D Unit} : (Spec.fn 7 (.p a b) c).tr = true ↔ (rowsW (lk 3) a).take c.int.toNat = (rowsW (lk 3) b).take c.int.toNat := fn_eq1 3 a b c
theorem e0_4 {a b : D Unit} : (Spec.fn 8 a b).tr = true ↔ rowsW (lk 4) a = rowsW (lk 4) b := fn_eq0 4 a b
theorem n0_4 {a b : D Unit} : (Spec.fn 8 a b).tr = false ↔ rowsW (lk 4) a ≠ rowsW (lk 4) b := not_tr (fn_eq0 4 a b)
theorem e1_4 {a b c : D Unit} : (Spec.fn 9 (.p a b) c).tr = true ↔ (rowsW (lk 4) a).take c.int.toNat = (rowsW (lk 4) b).take c.int.toNat := fn_eq1 4 a b c
theorem e0_5 {a b : D Unit} : (Spec.fn 10 a b).tr = true ↔ rowsW (lk 5) a = rowsW (lk 5) b := fn_eq0 5 a b
theorem n0_5 {a b : D Unit} : (Spec.fn 10 a b).tr = false ↔ rowsW (lk 5) a ≠ rowsW (lk 5) b := not_tr (fn_eq0 5 a b)
theorem e1_5 {a b c : D Unit} : (Spec.fn 11 (.p a b) c).tr = true ↔ (rowsW (lk 5) a).take c.int.toNat = (rowsW (lk 5) b).take c.int.toNat := fn_eq1 5 a b c
theorem e0_6 {a b : D Unit} : (Spec.fn 12 a b).tr = true ↔ rowsW (lk 6) a = rowsW (lk 6) b := fn_eq0 6 a b
theorem n0_6 {a b : D Unit} : (Spec.fn 12 a b).tr = false ↔ rowsW (lk 6) a ≠ rowsW (lk 6) b := not_tr (fn_eq0 6 a b)
theorem e1_6 {a b c : D Unit} : (Spec.fn 13 (.p a b) c).tr = true ↔ (rowsW (lk 6) a).take c.int.toNat = (rowsW (lk 6) b).take c.int.toNat := fn_eq1 6 a b c
def sAB := PLift.up <| And.intro (And.intro (@t_an Unit _) (And.intro (@f_an Unit _) (And.intro (@t_nt Unit _) (And.intro (@f_nt Unit _) (And.intro (@t_seql Unit _) (And.intro (@f_seql Unit _) (And.intro (@t_sneq Unit _) (And.intro (@f_sneq Unit _) (And.intro (@t_eql Unit _) (And.intro (@f_eql Unit _) (And.intro (@t_neq Unit _) (And.intro (@f_neq Unit _) (And.intro (@t_lss Unit _) (And.intro (@f_lss Unit _) (And.intro (@t_leq Unit _) (And.intro (@f_leq Unit _) (And.intro (@t_gtr Unit _) (And.intro (@f_gtr Unit _) (And.intro (@i_add Unit _) (And.intro (@i_sub Unit _) (And.intro (@i_len Unit _) (And.intro (@i_ln Unit _) (And.intro (@r_p2 Unit _) (And.intro (@r_pr Unit _) (And.intro (@r_nth Unit _) (And.intro (@r_fl Unit _) (@r_fn Unit _))))))))))))))))))))))))))) (And.intro (@e0_0) (And.intro (@n0_0) (And.intro (@e1_0) (And.intro (@e0_1) (And.intro (@n0_1) (And.intro (@e1_1) (And.intro (@e0_2) (And.intro (@n0_2) (And.intro (@e1_2) (And.intro (@e0_3) (And.intro (@n0_3) (And.intro (@e1_3) (And.intro (@e0_4) (And.intro (@n0_4) (And.intro (@e1_4) (And.intro (@e0_5) (And.intro (@n0_5) (And.intro (@e1_5) (And.intro (@e0_6) (And.intro (@n0_6) (@e1_6)))))))))))))))))))))
theorem lt_max {x : Int} {l : List (D Unit)} (h : l.length ≤ maxLen) (hx : x < (l.length : Int)) : x < 9223372036854775807 ∧ (l.length : Int) ≤ 9223372036854775807 := by
  have := int_lt h
  omega
theorem rows_length {fs : List SK} {a b : D Unit} (h : rowsW fs a = rowsW fs b) : (a.snd.lst.length : Int) = b.snd.lst.length := by
  have := congrArg List.length h
  simp only [rowsW, List.length_map] at this
  omega
theorem rows_at {fs : List SK} {a b : D Unit} {i : Int} (h : rowsW fs a = rowsW fs b) (h0 : 0 ≤ i) (ha : i < a.snd.lst.length) (hb : i < b.snd.lst.length) : rowW fs ((a.snd.lst[i.toNat]?).getD (.i 0)) = rowW fs ((b.snd.lst[i.toNat]?).getD (.i 0)) := by
  have := congrArg (fun l => l[i.toNat]?) h
  simp only [rows_get (show i.toNat < a.snd.lst.length by omega), rows_get (show i.toNat < b.snd.lst.length by omega), Option.some.injEq] at this
  exact this
theorem take_step {fs : List SK} {a b : D Unit} {i : Int} (h0 : 0 ≤ i) (ha : i < a.snd.lst.length) (hb : i < b.snd.lst.length) (he : rowW fs ((a.snd.lst[i.toNat]?).getD (.i 0)) = rowW fs ((b.snd.lst[i.toNat]?).getD (.i 0))) (ht : (rowsW fs a).take i.toNat = (rowsW fs b).take i.toNat) : (rowsW fs a).take (i + 1).toNat = (rowsW fs b).take (i + 1).toNat := by
  rw [show (i + 1).toNat = i.toNat + 1 by omega]
  exact rows_step (by omega) (by omega) he ht
theorem bnd_soft {d : D Unit} (h : BndK (.v (lk 5)) d) (i : Nat) : ((((d.snd.lst[i]?).getD (D.i 0)).lst[2]?).getD (D.i 0)).snd.lst.length ≤ maxLen := by
  unfold BndK at h
  rcases Nat.lt_or_ge i d.snd.lst.length with hi | hi
  · have hx := h.2 _ (List.getElem_mem hi)
    rw [List.getElem?_eq_getElem hi]
    simp only [lk, BndKs, rowD, singleB, BndK, Option.getD_some] at hx ⊢
    have := hx.2.2.1.1
    generalize (d.snd.lst[i]).lst = q at this ⊢
    match q, this with
    | [], _ => exact Nat.zero_le _
    | [_], _ => exact Nat.zero_le _
    | [_, _], _ => exact Nat.zero_le _
    | _ :: _ :: _ :: _, this => exact this
  · rw [List.getElem?_eq_none hi]
    exact Nat.zero_le _
theorem rows_allI {fs : List SK} {a b : D Unit} {i : Int} (hl : (a.snd.lst.length : Int) = b.snd.lst.length) (hi : (a.snd.lst.length : Int) ≤ i) (ht : (rowsW fs a).take i.toNat = (rowsW fs b).take i.toNat) : rowsW fs a = rowsW fs b := rows_all (i := i.toNat) (by omega) (by omega) ht
section
variable [Sig] {lo : Nat} (hb : RunBase Tryz.prog (plansIn plTbl))
include hb
abbrev lf_c10 : List Eqn := [⟨1, (.op .an (.op (.cm .eql) (.at 0) (.at 16)) (.op .an (.op (.cm .eql) (.at 1) (.at 17)) (.op .an (.op (.cm .eql) (.at 2) (.at 18)) (.op .an (.op (.cm .eql) (.at 3) (.at 19)) (.op .an (.op (.cm .eql) (.at 4) (.at 20)) (.op .an (.op (.cm .eql) (.at 5) (.at 21)) (.op .an (.op (.cm .eql) (.at 6) (.at 22)) (.op .an (.op (.cm .eql) (.at 7) (.at 23)) (.op .an (.op (.cm .eql) (.at 8) (.at 24)) (.op .an (.op (.cm .eql) (.at 9) (.at 25)) (.op .an (.op (.cm .eql) (.at 10) (.at 26)) (.op .an (.op (.fn 12) (.at 11) (.at 27)) (.op .an (.op (.fn 10) (.at 12) (.at 28)) (.op .an (.op (.fn 6) (.at 13) (.at 29)) (.op .an (.op (.fn 4) (.at 14) (.at 30)) (.op (.fn 2) (.at 15) (.at 31))))))))))))))))), (.lb false)⟩]
def vt_c10 : Out (List Eqn) := (.fork (.op .nt (.op .an (.op (.cm .eql) (.at 0) (.at 16)) (.op .an (.op (.cm .eql) (.at 1) (.at 17)) (.op .an (.op (.cm .eql) (.at 2) (.at 18)) (.op .an (.op (.cm .eql) (.at 3) (.at 19)) (.op .an (.op (.cm .eql) (.at 4) (.at 20)) (.op .an (.op (.cm .eql) (.at 5) (.at 21)) (.op .an (.op (.cm .eql) (.at 6) (.at 22)) (.lb true)))))))) (.li 0))
 (.leaf lf_c10)
 (.fork (.op (.cm .neq) (.at 7) (.at 23))
  (.leaf lf_c10)
  (.fork (.op (.cm .neq) (.at 8) (.at 24))
   (.leaf lf_c10)
   (.fork (.op (.cm .neq) (.at 9) (.at 25))
    (.leaf lf_c10)
    (.fork (.op (.cm .neq) (.at 10) (.at 26))
     (.leaf lf_c10)
     (.fork (.op (.cm .neq) (.op .len (.op .p2 (.at 11) (.li 0)) (.li 0)) (.op .len (.op .p2 (.at 27) (.li 0)) (.li 0)))
      (.leaf lf_c10)
      (.fork (.op (.cm .neq) (.op .len (.op .p2 (.at 12) (.li 0)) (.li 0)) (.op .len (.op .p2 (.at 28) (.li 0)) (.li 0)))
       (.leaf lf_c10)
       (.fork (.op (.cm .neq) (.op .len (.op .p2 (.at 13) (.li 0)) (.li 0)) (.op .len (.op .p2 (.at 29) (.li 0)) (.li 0)))
        (.leaf lf_c10)
        (.fork (.op (.cm .neq) (.op .len (.op .p2 (.at 14) (.li 0)) (.li 0)) (.op .len (.op .p2 (.at 30) (.li 0)) (.li 0)))
         (.leaf lf_c10)
         (.fork (.op (.cm .neq) (.op .len (.op .p2 (.at 15) (.li 0)) (.li 0)) (.op .len (.op .p2 (.at 31) (.li 0)) (.li 0)))
          (.leaf lf_c10)
          (.need (.op (.cm .leq) (.li 0) (.li 0))
           (.need (.op (.cm .leq) (.li 0) (.op .len (.op .p2 (.at 11) (.li 0)) (.li 0)))
           (.need (.op (.fn 13) (.op .pr (.at 11) (.at 27)) (.li 0))
           (.any 34
           (.fork (.op (.cm .leq) (.li 0) (.at 34))
           (.fork (.op (.cm .leq) (.at 34) (.op .len (.op .p2 (.at 11) (.li 0)) (.li 0)))
            (.fork (.op (.fn 13) (.op .pr (.at 11) (.at 27)) (.at 34))
             (.fork (.op (.cm .lss) (.at 34) (.op .len (.op .p2 (.at 11) (.li 0)) (.li 0)))
              (.need (.op (.cm .lss) (.at 34) (.op .len (.op .p2 (.at 27) (.li 0)) (.li 0)))
               (.fork (.op (.sc .neq) (.op (.fl 0) (.op .nth (.op .p2 (.at 11) (.li 0)) (.at 34)) (.li 0)) (.op (.fl 0) (.op .nth (.op .p2 (.at 27) (.li 0)) (.at 34)) (.li 0)))
               (.leaf lf_c10)
               (.fork (.op (.sc .neq) (.op .p2 (.op (.fl 1) (.op .nth (.op .p2 (.at 11) (.li 0)) (.at 34)) (.li 0)) (.li 0)) (.op .p2 (.op (.fl 1) (.op .nth (.op .p2 (.at 27) (.li 0)) (.at 34)) (.li 0)) (.li 0)))
                (.leaf lf_c10)
                (.fork (.op .nt (.op (.fn 0) (.op (.fl 2) (.op .nth (.op .p2 (.at 11) (.li 0)) (.at 34)) (.li 0)) (.op (.fl 2) (.op .nth (.op .p2 (.at 27) (.li 0)) (.at 34)) (.li 0))) (.li 0))
                 (.leaf lf_c10)
                 (.fork (.op (.cm .neq) (.op (.fl 3) (.op .nth (.op .p2 (.at 11) (.li 0)) (.at 34)) (.li 0)) (.op (.fl 3) (.op .nth (.op .p2 (.at 27) (.li 0)) (.at 34)) (.li 0)))
                  (.leaf lf_c10)
                  (.fork (.op (.cm .neq) (.op (.fl 4) (.op .nth (.op .p2 (.at 11) (.li 0)) (.at 34)) (.li 0)) (.op (.fl 4) (.op .nth (.op .p2 (.at 27) (.li 0)) (.at 34)) (.li 0)))
                   (.leaf lf_c10)
                   (.fork (.op (.cm .neq) (.op (.fl 5) (.op .nth (.op .p2 (.at 11) (.li 0)) (.at 34)) (.li 0)) (.op (.fl 5) (.op .nth (.op .p2 (.at 27) (.li 0)) (.at 34)) (.li 0)))
                    (.leaf lf_c10)
                    (.need (.op (.cm .lss) (.op (.ar .sub .i64) (.op .len (.op .p2 (.at 11) (.li 0)) (.li 0)) (.op (.ar .add .i64) (.at 34) (.li 1))) (.op (.ar .sub .i64) (.op .len (.op .p2 (.at 11) (.li 0)) (.li 0)) (.at 34)))
                     (.need (.op (.cm .leq) (.li 0) (.op (.ar .sub .i64) (.op .len (.op .p2 (.at 11) (.li 0)) (.li 0)) (.op (.ar .add .i64) (.at 34) (.li 1))))
                     (.need (.op (.cm .leq) (.li 0) (.op (.ar .add .i64) (.at 34) (.li 1)))
                     (.need (.op (.cm .leq) (.op (.ar .add .i64) (.at 34) (.li 1)) (.op .len (.op .p2 (.at 11) (.li 0)) (.li 0)))
                     (.need (.op (.fn 13) (.op .pr (.at 11) (.at 27)) (.op (.ar .add .i64) (.at 34) (.li 1)))
                     .done))))))))))))
              (.need (.op (.cm .leq) (.li 0) (.op .len (.op .p2 (.at 12) (.li 0)) (.li 0)))
               (.need (.op (.fn 11) (.op .pr (.at 12) (.at 28)) (.li 0))
               (.any 35
               (.fork (.op (.cm .leq) (.li 0) (.at 35))
               (.fork (.op (.cm .leq) (.at 35) (.op .len (.op .p2 (.at 12) (.li 0)) (.li 0)))
                (.fork (.op (.fn 11) (.op .pr (.at 12) (.at 28)) (.at 35))
                 (.fork (.op (.cm .lss) (.at 35) (.op .len (.op .p2 (.at 12) (.li 0)) (.li 0)))
                  (.need (.op (.cm .lss) (.at 35) (.op .len (.op .p2 (.at 28) (.li 0)) (.li 0)))
                   (.fork (.op (.sc .neq) (.op (.fl 0) (.op .nth (.op .p2 (.at 12) (.li 0)) (.at 35)) (.li 0)) (.op (.fl 0) (.op .nth (.op .p2 (.at 28) (.li 0)) (.at 35)) (.li 0)))
                   (.leaf lf_c10)
                   (.fork (.op (.cm .neq) (.op (.fl 1) (.op .nth (.op .p2 (.at 12) (.li 0)) (.at 35)) (.li 0)) (.op (.fl 1) (.op .nth (.op .p2 (.at 28) (.li 0)) (.at 35)) (.li 0)))
                    (.leaf lf_c10)
                    (.fork (.op (.cm .neq) (.op .len (.op .p2 (.op (.fl 2) (.op .nth (.op .p2 (.at 12) (.li 0)) (.at 35)) (.li 0)) (.li 0)) (.li 0)) (.op .len (.op .p2 (.op (.fl 2) (.op .nth (.op .p2 (.at 28) (.li 0)) (.at 35)) (.li 0)) (.li 0)) (.li 0)))
                     (.leaf lf_c10)
                     (.need (.op (.cm .leq) (.li 0) (.op .len (.op .p2 (.op (.fl 2) (.op .nth (.op .p2 (.at 12) (.li 0)) (.at 35)) (.li 0)) (.li 0)) (.li 0)))
                      (.need (.op (.fn 9) (.op .pr (.op (.fl 2) (.op .nth (.op .p2 (.at 12) (.li 0)) (.at 35)) (.li 0)) (.op (.fl 2) (.op .nth (.op .p2 (.at 28) (.li 0)) (.at 35)) (.li 0))) (.li 0))
                      (.any 38
                      (.fork (.op (.cm .leq) (.li 0) (.at 38))
                      (.fork (.op (.cm .leq) (.at 38) (.op .len (.op .p2 (.op (.fl 2) (.op .nth (.op .p2 (.at 12) (.li 0)) (.at 35)) (.li 0)) (.li 0)) (.li 0)))
                       (.fork (.op (.fn 9) (.op .pr (.op (.fl 2) (.op .nth (.op .p2 (.at 12) (.li 0)) (.at 35)) (.li 0)) (.op (.fl 2) (.op .nth (.op .p2 (.at 28) (.li 0)) (.at 35)) (.li 0))) (.at 38))
                        (.fork (.op (.cm .lss) (.at 38) (.op .len (.op .p2 (.op (.fl 2) (.op .nth (.op .p2 (.at 12) (.li 0)) (.at 35)) (.li 0)) (.li 0)) (.li 0)))
                         (.need (.op (.cm .lss) (.at 38) (.op .len (.op .p2 (.op (.fl 2) (.op .nth (.op .p2 (.at 28) (.li 0)) (.at 35)) (.li 0)) (.li 0)) (.li 0)))
                          (.fork (.op .nt (.op .an (.op (.cm .eql) (.op (.fl 0) (.op .nth (.op .p2 (.op (.fl 2) (.op .nth (.op .p2 (.at 12) (.li 0)) (.at 35)) (.li 0)) (.li 0)) (.at 38)) (.li 0)) (.op (.fl 0) (.op .nth (.op .p2 (.op (.fl 2) (.op .nth (.op .p2 (.at 28) (.li 0)) (.at 35)) (.li 0)) (.li 0)) (.at 38)) (.li 0))) (.op .an (.op (.cm .eql) (.op (.fl 1) (.op .nth (.op .p2 (.op (.fl 2) (.op .nth (.op .p2 (.at 12) (.li 0)) (.at 35)) (.li 0)) (.li 0)) (.at 38)) (.li 0)) (.op (.fl 1) (.op .nth (.op .p2 (.op (.fl 2) (.op .nth (.op .p2 (.at 28) (.li 0)) (.at 35)) (.li 0)) (.li 0)) (.at 38)) (.li 0))) (.lb true))) (.li 0))
                          (.leaf lf_c10)
                          (.need (.op (.cm .lss) (.op (.ar .sub .i64) (.op .len (.op .p2 (.op (.fl 2) (.op .nth (.op .p2 (.at 12) (.li 0)) (.at 35)) (.li 0)) (.li 0)) (.li 0)) (.op (.ar .add .i64) (.at 38) (.li 1))) (.op (.ar .sub .i64) (.op .len (.op .p2 (.op (.fl 2) (.op .nth (.op .p2 (.at 12) (.li 0)) (.at 35)) (.li 0)) (.li 0)) (.li 0)) (.at 38)))
                           (.need (.op (.cm .leq) (.li 0) (.op (.ar .sub .i64) (.op .len (.op .p2 (.op (.fl 2) (.op .nth (.op .p2 (.at 12) (.li 0)) (.at 35)) (.li 0)) (.li 0)) (.li 0)) (.op (.ar .add .i64) (.at 38) (.li 1))))
                           (.need (.op (.cm .leq) (.li 0) (.op (.ar .add .i64) (.at 38) (.li 1)))
                           (.need (.op (.cm .leq) (.op (.ar .add .i64) (.at 38) (.li 1)) (.op .len (.op .p2 (.op (.fl 2) (.op .nth (.op .p2 (.at 12) (.li 0)) (.at 35)) (.li 0)) (.li 0)) (.li 0)))
                           (.need (.op (.fn 9) (.op .pr (.op (.fl 2) (.op .nth (.op .p2 (.at 12) (.li 0)) (.at 35)) (.li 0)) (.op (.fl 2) (.op .nth (.op .p2 (.at 28) (.li 0)) (.at 35)) (.li 0))) (.op (.ar .add .i64) (.at 38) (.li 1)))
                           .done)))))))
                         (.need (.op (.cm .lss) (.op (.ar .sub .i64) (.op .len (.op .p2 (.at 12) (.li 0)) (.li 0)) (.op (.ar .add .i64) (.at 35) (.li 1))) (.op (.ar .sub .i64) (.op .len (.op .p2 (.at 12) (.li 0)) (.li 0)) (.at 35)))
                          (.need (.op (.cm .leq) (.li 0) (.op (.ar .sub .i64) (.op .len (.op .p2 (.at 12) (.li 0)) (.li 0)) (.op (.ar .add .i64) (.at 35) (.li 1))))
                          (.need (.op (.cm .leq) (.li 0) (.op (.ar .add .i64) (.at 35) (.li 1)))
                          (.need (.op (.cm .leq) (.op (.ar .add .i64) (.at 35) (.li 1)) (.op .len (.op .p2 (.at 12) (.li 0)) (.li 0)))
                          (.need (.op (.fn 11) (.op .pr (.at 12) (.at 28)) (.op (.ar .add .i64) (.at 35) (.li 1)))
                          .done))))))
                        .done)
                       .done)
                      .done))))))))
                  (.need (.op (.cm .leq) (.li 0) (.op .len (.op .p2 (.at 13) (.li 0)) (.li 0)))
                   (.need (.op (.fn 7) (.op .pr (.at 13) (.at 29)) (.li 0))
                   (.any 36
                   (.fork (.op (.cm .leq) (.li 0) (.at 36))
                   (.fork (.op (.cm .leq) (.at 36) (.op .len (.op .p2 (.at 13) (.li 0)) (.li 0)))
                    (.fork (.op (.fn 7) (.op .pr (.at 13) (.at 29)) (.at 36))
                     (.fork (.op (.cm .lss) (.at 36) (.op .len (.op .p2 (.at 13) (.li 0)) (.li 0)))
                      (.need (.op (.cm .lss) (.at 36) (.op .len (.op .p2 (.at 29) (.li 0)) (.li 0)))
                       (.fork (.op .nt (.op .an (.op (.sc .eql) (.op (.fl 0) (.op .nth (.op .p2 (.at 13) (.li 0)) (.at 36)) (.li 0)) (.op (.fl 0) (.op .nth (.op .p2 (.at 29) (.li 0)) (.at 36)) (.li 0))) (.op .an (.op (.cm .eql) (.op (.fl 1) (.op .nth (.op .p2 (.at 13) (.li 0)) (.at 36)) (.li 0)) (.op (.fl 1) (.op .nth (.op .p2 (.at 29) (.li 0)) (.at 36)) (.li 0))) (.lb true))) (.li 0))
                       (.leaf lf_c10)
                       (.need (.op (.cm .lss) (.op (.ar .sub .i64) (.op .len (.op .p2 (.at 13) (.li 0)) (.li 0)) (.op (.ar .add .i64) (.at 36) (.li 1))) (.op (.ar .sub .i64) (.op .len (.op .p2 (.at 13) (.li 0)) (.li 0)) (.at 36)))
                        (.need (.op (.cm .leq) (.li 0) (.op (.ar .sub .i64) (.op .len (.op .p2 (.at 13) (.li 0)) (.li 0)) (.op (.ar .add .i64) (.at 36) (.li 1))))
                        (.need (.op (.cm .leq) (.li 0) (.op (.ar .add .i64) (.at 36) (.li 1)))
                        (.need (.op (.cm .leq) (.op (.ar .add .i64) (.at 36) (.li 1)) (.op .len (.op .p2 (.at 13) (.li 0)) (.li 0)))
                        (.need (.op (.fn 7) (.op .pr (.at 13) (.at 29)) (.op (.ar .add .i64) (.at 36) (.li 1)))
                        .done)))))))
                      (.need (.op (.cm .leq) (.li 0) (.op .len (.op .p2 (.at 14) (.li 0)) (.li 0)))
                       (.need (.op (.fn 5) (.op .pr (.at 14) (.at 30)) (.li 0))
                       (.any 37
                       (.fork (.op (.cm .leq) (.li 0) (.at 37))
                       (.fork (.op (.cm .leq) (.at 37) (.op .len (.op .p2 (.at 14) (.li 0)) (.li 0)))
                        (.fork (.op (.fn 5) (.op .pr (.at 14) (.at 30)) (.at 37))
                         (.fork (.op (.cm .lss) (.at 37) (.op .len (.op .p2 (.at 14) (.li 0)) (.li 0)))
                          (.need (.op (.cm .lss) (.at 37) (.op .len (.op .p2 (.at 30) (.li 0)) (.li 0)))
                           (.fork (.op .nt (.op .an (.op (.sc .eql) (.op (.fl 0) (.op .nth (.op .p2 (.at 14) (.li 0)) (.at 37)) (.li 0)) (.op (.fl 0) (.op .nth (.op .p2 (.at 30) (.li 0)) (.at 37)) (.li 0))) (.op .an (.op (.sc .eql) (.op (.fl 1) (.op .nth (.op .p2 (.at 14) (.li 0)) (.at 37)) (.li 0)) (.op (.fl 1) (.op .nth (.op .p2 (.at 30) (.li 0)) (.at 37)) (.li 0))) (.lb true))) (.li 0))
                           (.leaf lf_c10)
                           (.need (.op (.cm .lss) (.op (.ar .sub .i64) (.op .len (.op .p2 (.at 14) (.li 0)) (.li 0)) (.op (.ar .add .i64) (.at 37) (.li 1))) (.op (.ar .sub .i64) (.op .len (.op .p2 (.at 14) (.li 0)) (.li 0)) (.at 37)))
                            (.need (.op (.cm .leq) (.li 0) (.op (.ar .sub .i64) (.op .len (.op .p2 (.at 14) (.li 0)) (.li 0)) (.op (.ar .add .i64) (.at 37) (.li 1))))
                            (.need (.op (.cm .leq) (.li 0) (.op (.ar .add .i64) (.at 37) (.li 1)))
                            (.need (.op (.cm .leq) (.op (.ar .add .i64) (.at 37) (.li 1)) (.op .len (.op .p2 (.at 14) (.li 0)) (.li 0)))
                            (.need (.op (.fn 5) (.op .pr (.at 14) (.at 30)) (.op (.ar .add .i64) (.at 37) (.li 1)))
                            .done)))))))
                          (.need (.op (.cm .leq) (.li 0) (.op .len (.op .p2 (.at 15) (.li 0)) (.li 0)))
                           (.need (.op (.fn 3) (.op .pr (.at 15) (.at 31)) (.li 0))
                           (.any 38
                           (.fork (.op (.cm .leq) (.li 0) (.at 38))
                           (.fork (.op (.cm .leq) (.at 38) (.op .len (.op .p2 (.at 15) (.li 0)) (.li 0)))
                            (.fork (.op (.fn 3) (.op .pr (.at 15) (.at 31)) (.at 38))
                             (.fork (.op (.cm .lss) (.at 38) (.op .len (.op .p2 (.at 15) (.li 0)) (.li 0)))
                              (.need (.op (.cm .lss) (.at 38) (.op .len (.op .p2 (.at 31) (.li 0)) (.li 0)))
                               (.fork (.op (.cm .neq) (.op .nth (.op .p2 (.at 15) (.li 0)) (.at 38)) (.op .nth (.op .p2 (.at 31) (.li 0)) (.at 38)))
                               (.leaf lf_c10)
                               (.need (.op (.cm .lss) (.op (.ar .sub .i64) (.op .len (.op .p2 (.at 15) (.li 0)) (.li 0)) (.op (.ar .add .i64) (.at 38) (.li 1))) (.op (.ar .sub .i64) (.op .len (.op .p2 (.at 15) (.li 0)) (.li 0)) (.at 38)))
                                (.need (.op (.cm .leq) (.li 0) (.op (.ar .sub .i64) (.op .len (.op .p2 (.at 15) (.li 0)) (.li 0)) (.op (.ar .add .i64) (.at 38) (.li 1))))
                                (.need (.op (.cm .leq) (.li 0) (.op (.ar .add .i64) (.at 38) (.li 1)))
                                (.need (.op (.cm .leq) (.op (.ar .add .i64) (.at 38) (.li 1)) (.op .len (.op .p2 (.at 15) (.li 0)) (.li 0)))
                                (.need (.op (.fn 3) (.op .pr (.at 15) (.at 31)) (.op (.ar .add .i64) (.at 38) (.li 1)))
                                .done)))))))
                              (.leaf [⟨1, (.op .an (.op (.cm .eql) (.at 0) (.at 16)) (.op .an (.op (.cm .eql) (.at 1) (.at 17)) (.op .an (.op (.cm .eql) (.at 2) (.at 18)) (.op .an (.op (.cm .eql) (.at 3) (.at 19)) (.op .an (.op (.cm .eql) (.at 4) (.at 20)) (.op .an (.op (.cm .eql) (.at 5) (.at 21)) (.op .an (.op (.cm .eql) (.at 6) (.at 22)) (.op .an (.op (.cm .eql) (.at 7) (.at 23)) (.op .an (.op (.cm .eql) (.at 8) (.at 24)) (.op .an (.op (.cm .eql) (.at 9) (.at 25)) (.op .an (.op (.cm .eql) (.at 10) (.at 26)) (.op .an (.op (.fn 12) (.at 11) (.at 27)) (.op .an (.op (.fn 10) (.at 12) (.at 28)) (.op .an (.op (.fn 6) (.at 13) (.at 29)) (.op .an (.op (.fn 4) (.at 14) (.at 30)) (.op (.fn 2) (.at 15) (.at 31))))))))))))))))), (.lb true)⟩]))
                             .done)
                            .done)
                           .done)))))
                         .done)
                        .done)
                       .done)))))
                     .done)
                    .done)
                   .done)))))
                 .done)
                .done)
               .done)))))
             .done)
            .done)
           .done)))))))))))))))
omit [Sig] hb in
theorem c10_run : Out.same (c10.run Tryz.prog (plansIn plTbl) x_c10 (loopXs Tryz.prog (plansIn plTbl) x_c10 ann 1000 3) 1000).slim vt_c10 = true := by decide +kernel
omit [Sig] hb in
set_option maxHeartbeats 1000000 in
theorem c10_vc (g : Nat → D Unit) (h : ∀ x ∈ c10.typs, BndK x.2 (g x.1)) : vcT g vt_c10 := by
  have b11 : BndK (.v (lk 6)) (g 11) := h (11, _) List.mem_cons_self
  have b12 : BndK (.v (lk 5)) (g 12) := h (12, _) (List.mem_cons_of_mem _ List.mem_cons_self)
  have b13 : BndK (.v (lk 3)) (g 13) := h (13, _) (List.mem_cons_of_mem _ (List.mem_cons_of_mem _ List.mem_cons_self))
  have b14 : BndK (.v (lk 2)) (g 14) := h (14, _) (List.mem_cons_of_mem _ (List.mem_cons_of_mem _ (List.mem_cons_of_mem _ List.mem_cons_self)))
  have b15 : BndK (.v (lk 1)) (g 15) := h (15, _) (List.mem_cons_of_mem _ (List.mem_cons_of_mem _ (List.mem_cons_of_mem _ (List.mem_cons_of_mem _ List.mem_cons_self))))
  have BN := bnd_soft b12
  unfold BndK at b11 b12 b13 b14 b15
  have B11 := b11.1
  have B12 := b12.1
  have B13 := b13.1
  have B14 := b14.1
  have B15 := b15.1
  clear h b11 b12 b13 b14 b15
  unfold vt_c10 lf_c10
  refine vcT_fork (fun h1 => ?_) (fun h1 => ?_)
  · simp only [denT, setG, sAB.down, D.int_i, D.tr_b, Nat.reduceEqDiff, reduceIte] at h1
    refine ⟨?_, trivial⟩
    show (denT _ _).tr = false
    rw [Bool.eq_false_iff]
    intro hc
    simp only [denT, setG, sAB.down, D.int_i, D.tr_b, Nat.reduceEqDiff, reduceIte] at hc
    obtain ⟨c0, c1, c2, c3, c4, c5, c6, c7, c8, c9, c10, c11, c12, c13, c14, c15⟩ := hc
    have l11 := rows_length c11
    have l12 := rows_length c12
    have l13 := rows_length c13
    have l14 := rows_length c14
    have l15 := rows_length c15
    first
      | omega
      | (simp_all; done)
      | (simp_all; omega)
  · simp only [denT, setG, sAB.down, D.int_i, D.tr_b, Nat.reduceEqDiff, reduceIte] at h1
    refine vcT_fork (fun h2 => ?_) (fun h2 => ?_)
    · simp only [denT, setG, sAB.down, D.int_i, D.tr_b, Nat.reduceEqDiff, reduceIte] at h2
      refine ⟨?_, trivial⟩
      show (denT _ _).tr = false
      rw [Bool.eq_false_iff]
      intro hc
      simp only [denT, setG, sAB.down, D.int_i, D.tr_b, Nat.reduceEqDiff, reduceIte] at hc
      obtain ⟨c0, c1, c2, c3, c4, c5, c6, c7, c8, c9, c10, c11, c12, c13, c14, c15⟩ := hc
      have l11 := rows_length c11
      have l12 := rows_length c12
      have l13 := rows_length c13
      have l14 := rows_length c14
      have l15 := rows_length c15
      first
        | omega
        | (simp_all; done)
        | (simp_all; omega)
    · simp only [denT, setG, sAB.down, D.int_i, D.tr_b, Nat.reduceEqDiff, reduceIte] at h2
      refine vcT_fork (fun h3 => ?_) (fun h3 => ?_)
      · simp only [denT, setG, sAB.down, D.int_i, D.tr_b, Nat.reduceEqDiff, reduceIte] at h3
        refine ⟨?_, trivial⟩
        show (denT _ _).tr = false
        rw [Bool.eq_false_iff]
        intro hc
        simp only [denT, setG, sAB.down, D.int_i, D.tr_b, Nat.reduceEqDiff, reduceIte] at hc
        obtain ⟨c0, c1, c2, c3, c4, c5, c6, c7, c8, c9, c10, c11, c12, c13, c14, c15⟩ := hc
        have l11 := rows_length c11
        have l12 := rows_length c12
        have l13 := rows_length c13
        have l14 := rows_length c14
        have l15 := rows_length c15
        first
          | omega
          | (simp_all; done)
          | (simp_all; omega)
      · simp only [denT, setG, sAB.down, D.int_i, D.tr_b, Nat.reduceEqDiff, reduceIte] at h3
        refine vcT_fork (fun h4 => ?_) (fun h4 => ?_)
        · simp only [denT, setG, sAB.down, D.int_i, D.tr_b, Nat.reduceEqDiff, reduceIte] at h4
          refine ⟨?_, trivial⟩
          show (denT _ _).tr = false
          rw [Bool.eq_false_iff]
          intro hc
          simp only [denT, setG, sAB.down, D.int_i, D.tr_b, Nat.reduceEqDiff, reduceIte] at hc
          obtain ⟨c0, c1, c2, c3, c4, c5, c6, c7, c8, c9, c10, c11, c12, c13, c14, c15⟩ := hc
          have l11 := rows_length c11
          have l12 := rows_length c12
          have l13 := rows_length c13
          have l14 := rows_length c14
          have l15 := rows_length c15
          first
            | omega
            | (simp_all; done)
            | (simp_all; omega)
        · simp only [denT, setG, sAB.down, D.int_i, D.tr_b, Nat.reduceEqDiff, reduceIte] at h4
          refine vcT_fork (fun h5 => ?_) (fun h5 => ?_)
          · simp only [denT, setG, sAB.down, D.int_i, D.tr_b, Nat.reduceEqDiff, reduceIte] at h5
            refine ⟨?_, trivial⟩
            show (denT _ _).tr = false
            rw [Bool.eq_false_iff]
            intro hc
            simp only [denT, setG, sAB.down, D.int_i, D.tr_b, Nat.reduceEqDiff, reduceIte] at hc
            obtain ⟨c0, c1, c2, c3, c4, c5, c6, c7, c8, c9, c10, c11, c12, c13, c14, c15⟩ := hc
            have l11 := rows_length c11
            have l12 := rows_length c12
            have l13 := rows_length c13
            have l14 := rows_length c14
            have l15 := rows_length c15
            first
              | omega
              | (simp_all; done)
              | (simp_all; omega)
          · simp only [denT, setG, sAB.down, D.int_i, D.tr_b, Nat.reduceEqDiff, reduceIte] at h5
            refine vcT_fork (fun h6 => ?_) (fun h6 => ?_)
            · simp only [denT, setG, sAB.down, D.int_i, D.tr_b, Nat.reduceEqDiff, reduceIte] at h6
              refine ⟨?_, trivial⟩
              show (denT _ _).tr = false
              rw [Bool.eq_false_iff]
              intro hc
              simp only [denT, setG, sAB.down, D.int_i, D.tr_b, Nat.reduceEqDiff, reduceIte] at hc
              obtain ⟨c0, c1, c2, c3, c4, c5, c6, c7, c8, c9, c10, c11, c12, c13, c14, c15⟩ := hc
              have l11 := rows_length c11
              have l12 := rows_length c12
              have l13 := rows_length c13
              have l14 := rows_length c14
              have l15 := rows_length c15
              first
                | omega
                | (simp_all; done)
                | (simp_all; omega)
            · simp only [denT, setG, sAB.down, D.int_i, D.tr_b, Nat.reduceEqDiff, reduceIte] at h6
              refine vcT_fork (fun h7 => ?_) (fun h7 => ?_)
              · simp only [denT, setG, sAB.down, D.int_i, D.tr_b, Nat.reduceEqDiff, reduceIte] at h7
                refine ⟨?_, trivial⟩
                show (denT _ _).tr = false
                rw [Bool.eq_false_iff]
                intro hc
                simp only [denT, setG, sAB.down, D.int_i, D.tr_b, Nat.reduceEqDiff, reduceIte] at hc
                obtain ⟨c0, c1, c2, c3, c4, c5, c6, c7, c8, c9, c10, c11, c12, c13, c14, c15⟩ := hc
                have l11 := rows_length c11
                have l12 := rows_length c12
                have l13 := rows_length c13
                have l14 := rows_length c14
                have l15 := rows_length c15
                first
                  | omega
                  | (simp_all; done)
                  | (simp_all; omega)
              · simp only [denT, setG, sAB.down, D.int_i, D.tr_b, Nat.reduceEqDiff, reduceIte] at h7
                refine vcT_fork (fun h8 => ?_) (fun h8 => ?_)
                · simp only [denT, setG, sAB.down, D.int_i, D.tr_b, Nat.reduceEqDiff, reduceIte] at h8
                  refine ⟨?_, trivial⟩
                  show (denT _ _).tr = false
                  rw [Bool.eq_false_iff]
                  intro hc
                  simp only [denT, setG, sAB.down, D.int_i, D.tr_b, Nat.reduceEqDiff, reduceIte] at hc
                  obtain ⟨c0, c1, c2, c3, c4, c5, c6, c7, c8, c9, c10, c11, c12, c13, c14, c15⟩ := hc
                  have l11 := rows_length c11
                  have l12 := rows_length c12
                  have l13 := rows_length c13
                  have l14 := rows_length c14
                  have l15 := rows_length c15
                  first
                    | omega
                    | (simp_all; done)
                    | (simp_all; omega)
                · simp only [denT, setG, sAB.down, D.int_i, D.tr_b, Nat.reduceEqDiff, reduceIte] at h8
                  refine vcT_fork (fun h9 => ?_) (fun h9 => ?_)
                  · simp only [denT, setG, sAB.down, D.int_i, D.tr_b, Nat.reduceEqDiff, reduceIte] at h9
                    refine ⟨?_, trivial⟩
                    show (denT _ _).tr = false
                    rw [Bool.eq_false_iff]
                    intro hc
                    simp only [denT, setG, sAB.down, D.int_i, D.tr_b, Nat.reduceEqDiff, reduceIte] at hc
                    obtain ⟨c0, c1, c2, c3, c4, c5, c6, c7, c8, c9, c10, c11, c12, c13, c14, c15⟩ := hc
                    have l11 := rows_length c11
                    have l12 := rows_length c12
                    have l13 := rows_length c13
                    have l14 := rows_length c14
                    have l15 := rows_length c15
                    first
                      | omega
                      | (simp_all; done)
                      | (simp_all; omega)
                  · simp only [denT, setG, sAB.down, D.int_i, D.tr_b, Nat.reduceEqDiff, reduceIte] at h9
                    refine vcT_fork (fun h10 => ?_) (fun h10 => ?_)
                    · simp only [denT, setG, sAB.down, D.int_i, D.tr_b, Nat.reduceEqDiff, reduceIte] at h10
                      refine ⟨?_, trivial⟩
                      show (denT _ _).tr = false
                      rw [Bool.eq_false_iff]
                      intro hc
                      simp only [denT, setG, sAB.down, D.int_i, D.tr_b, Nat.reduceEqDiff, reduceIte] at hc
                      obtain ⟨c0, c1, c2, c3, c4, c5, c6, c7, c8, c9, c10, c11, c12, c13, c14, c15⟩ := hc
                      have l11 := rows_length c11
                      have l12 := rows_length c12
                      have l13 := rows_length c13
                      have l14 := rows_length c14
                      have l15 := rows_length c15
                      first
                        | omega
                        | (simp_all; done)
                        | (simp_all; omega)
                    · simp only [denT, setG, sAB.down, D.int_i, D.tr_b, Nat.reduceEqDiff, reduceIte] at h10
                      refine vcT_need ?_ ?_
                      · simp only [denT, setG, sAB.down, D.int_i, D.tr_b, Nat.reduceEqDiff, reduceIte]
                        first
                          | omega
                          | (simp (disch := omega) only [wrap64] <;> omega)
                      refine vcT_need ?_ ?_
                      · simp only [denT, setG, sAB.down, D.int_i, D.tr_b, Nat.reduceEqDiff, reduceIte]
                        first
                          | omega
                          | (simp (disch := omega) only [wrap64] <;> omega)
                      refine vcT_need ?_ ?_
                      · exact e1_6.2 rfl
                      refine vcT_any fun d11 => ?_
                      refine vcT_fork (fun h12 => ?_) (fun _ => trivial)
                      simp only [denT, setG, sAB.down, D.int_i, D.tr_b, Nat.reduceEqDiff, reduceIte] at h12
                      refine vcT_fork (fun h13 => ?_) (fun _ => trivial)
                      simp only [denT, setG, sAB.down, D.int_i, D.tr_b, Nat.reduceEqDiff, reduceIte] at h13
                      refine vcT_fork (fun h14 => ?_) (fun _ => trivial)
                      simp only [denT, setG, sAB.down, D.int_i, D.tr_b, Nat.reduceEqDiff, reduceIte] at h14
                      refine vcT_fork (fun h15 => ?_) (fun h15 => ?_)
                      · simp only [denT, setG, sAB.down, D.int_i, D.tr_b, Nat.reduceEqDiff, reduceIte] at h15
                        refine vcT_need ?_ ?_
                        · have := lt_max B11 h15
                          simp only [denT, setG, sAB.down, D.int_i, D.tr_b, Nat.reduceEqDiff, reduceIte]
                          first
                            | omega
                            | (simp (disch := omega) only [wrap64] <;> omega)
                        refine vcT_fork (fun h16 => ?_) (fun h16 => ?_)
                        · simp only [denT, setG, sAB.down, D.int_i, D.tr_b, Nat.reduceEqDiff, reduceIte] at h16
                          have := lt_max B11 h15
                          refine ⟨?_, trivial⟩
                          show (denT _ _).tr = false
                          rw [Bool.eq_false_iff]
                          intro hc
                          simp only [denT, setG, sAB.down, D.int_i, D.tr_b, Nat.reduceEqDiff, reduceIte] at hc
                          obtain ⟨c0, c1, c2, c3, c4, c5, c6, c7, c8, c9, c10, c11, c12, c13, c14, c15⟩ := hc
                          have l11 := rows_length c11
                          have l12 := rows_length c12
                          have l13 := rows_length c13
                          have l14 := rows_length c14
                          have l15 := rows_length c15
                          have e := rows_at (i := _) c11 (by omega) h15 (by omega)
                          simp only [rowW, lk, viewKs, lk_s, lk_i, lk_w, rowD, singleB, List.cons.injEq, W.s.injEq, W.i.injEq, and_true, rows_view, Nat.reduceAdd] at e
                          first
                            | (simp_all [lk]; done)
                            | (obtain ⟨e0, e1, e2⟩ := e; have := rows_length e2; omega)
                        · simp only [denT, setG, sAB.down, D.int_i, D.tr_b, Nat.reduceEqDiff, reduceIte] at h16
                          refine vcT_fork (fun h17 => ?_) (fun h17 => ?_)
                          · simp only [denT, setG, sAB.down, D.int_i, D.tr_b, Nat.reduceEqDiff, reduceIte] at h17
                            have := lt_max B11 h15
                            refine ⟨?_, trivial⟩
                            show (denT _ _).tr = false
                            rw [Bool.eq_false_iff]
                            intro hc
                            simp only [denT, setG, sAB.down, D.int_i, D.tr_b, Nat.reduceEqDiff, reduceIte] at hc
                            obtain ⟨c0, c1, c2, c3, c4, c5, c6, c7, c8, c9, c10, c11, c12, c13, c14, c15⟩ := hc
                            have l11 := rows_length c11
                            have l12 := rows_length c12
                            have l13 := rows_length c13
                            have l14 := rows_length c14
                            have l15 := rows_length c15
                            have e := rows_at (i := _) c11 (by omega) h15 (by omega)
                            simp only [rowW, lk, viewKs, lk_s, lk_i, lk_w, rowD, singleB, List.cons.injEq, W.s.injEq, W.i.injEq, and_true, rows_view, Nat.reduceAdd] at e
                            first
                              | (simp_all [lk]; done)
                              | (obtain ⟨e0, e1, e2⟩ := e; have := rows_length e2; omega)
                          · simp only [denT, setG, sAB.down, D.int_i, D.tr_b, Nat.reduceEqDiff, reduceIte] at h17
                            refine vcT_fork (fun h18 => ?_) (fun h18 => ?_)
                            · simp only [denT, setG, sAB.down, D.int_i, D.tr_b, Nat.reduceEqDiff, reduceIte] at h18
                              have := lt_max B11 h15
                              refine ⟨?_, trivial⟩
                              show (denT _ _).tr = false
                              rw [Bool.eq_false_iff]
                              intro hc
                              simp only [denT, setG, sAB.down, D.int_i, D.tr_b, Nat.reduceEqDiff, reduceIte] at hc
                              obtain ⟨c0, c1, c2, c3, c4, c5, c6, c7, c8, c9, c10, c11, c12, c13, c14, c15⟩ := hc
                              have l11 := rows_length c11
                              have l12 := rows_length c12
                              have l13 := rows_length c13
                              have l14 := rows_length c14
                              have l15 := rows_length c15
                              have e := rows_at (i := _) c11 (by omega) h15 (by omega)
                              simp only [rowW, lk, viewKs, lk_s, lk_i, lk_w, rowD, singleB, List.cons.injEq, W.s.injEq, W.i.injEq, and_true, rows_view, Nat.reduceAdd] at e
                              first
                                | (simp_all [lk]; done)
                                | (obtain ⟨e0, e1, e2⟩ := e; have := rows_length e2; omega)
                            · simp only [denT, setG, sAB.down, D.int_i, D.tr_b, Nat.reduceEqDiff, reduceIte] at h18
                              refine vcT_fork (fun h19 => ?_) (fun h19 => ?_)
                              · simp only [denT, setG, sAB.down, D.int_i, D.tr_b, Nat.reduceEqDiff, reduceIte] at h19
                                have := lt_max B11 h15
                                refine ⟨?_, trivial⟩
                                show (denT _ _).tr = false
                                rw [Bool.eq_false_iff]
                                intro hc
                                simp only [denT, setG, sAB.down, D.int_i, D.tr_b, Nat.reduceEqDiff, reduceIte] at hc
                                obtain ⟨c0, c1, c2, c3, c4, c5, c6, c7, c8, c9, c10, c11, c12, c13, c14, c15⟩ := hc
                                have l11 := rows_length c11
                                have l12 := rows_length c12
                                have l13 := rows_length c13
                                have l14 := rows_length c14
                                have l15 := rows_length c15
                                have e := rows_at (i := _) c11 (by omega) h15 (by omega)
                                simp only [rowW, lk, viewKs, lk_s, lk_i, lk_w, rowD, singleB, List.cons.injEq, W.s.injEq, W.i.injEq, and_true, rows_view, Nat.reduceAdd] at e
                                first
                                  | (simp_all [lk]; done)
                                  | (obtain ⟨e0, e1, e2⟩ := e; have := rows_length e2; omega)
                              · simp only [denT, setG, sAB.down, D.int_i, D.tr_b, Nat.reduceEqDiff, reduceIte] at h19
                                refine vcT_fork (fun h20 => ?_) (fun h20 => ?_)
                                · simp only [denT, setG, sAB.down, D.int_i, D.tr_b, Nat.reduceEqDiff, reduceIte] at h20
                                  have := lt_max B11 h15
                                  refine ⟨?_, trivial⟩
                                  show (denT _ _).tr = false
                                  rw [Bool.eq_false_iff]
                                  intro hc
                                  simp only [denT, setG, sAB.down, D.int_i, D.tr_b, Nat.reduceEqDiff, reduceIte] at hc
                                  obtain ⟨c0, c1, c2, c3, c4, c5, c6, c7, c8, c9, c10, c11, c12, c13, c14, c15⟩ := hc
                                  have l11 := rows_length c11
                                  have l12 := rows_length c12
                                  have l13 := rows_length c13
                                  have l14 := rows_length c14
                                  have l15 := rows_length c15
                                  have e := rows_at (i := _) c11 (by omega) h15 (by omega)
                                  simp only [rowW, lk, viewKs, lk_s, lk_i, lk_w, rowD, singleB, List.cons.injEq, W.s.injEq, W.i.injEq, and_true, rows_view, Nat.reduceAdd] at e
                                  first
                                    | (simp_all [lk]; done)
                                    | (obtain ⟨e0, e1, e2⟩ := e; have := rows_length e2; omega)
                                · simp only [denT, setG, sAB.down, D.int_i, D.tr_b, Nat.reduceEqDiff, reduceIte] at h20
                                  refine vcT_fork (fun h21 => ?_) (fun h21 => ?_)
                                  · simp only [denT, setG, sAB.down, D.int_i, D.tr_b, Nat.reduceEqDiff, reduceIte] at h21
                                    have := lt_max B11 h15
                                    refine ⟨?_, trivial⟩
                                    show (denT _ _).tr = false
                                    rw [Bool.eq_false_iff]
                                    intro hc
                                    simp only [denT, setG, sAB.down, D.int_i, D.tr_b, Nat.reduceEqDiff, reduceIte] at hc
                                    obtain ⟨c0, c1, c2, c3, c4, c5, c6, c7, c8, c9, c10, c11, c12, c13, c14, c15⟩ := hc
                                    have l11 := rows_length c11
                                    have l12 := rows_length c12
                                    have l13 := rows_length c13
                                    have l14 := rows_length c14
                                    have l15 := rows_length c15
                                    have e := rows_at (i := _) c11 (by omega) h15 (by omega)
                                    simp only [rowW, lk, viewKs, lk_s, lk_i, lk_w, rowD, singleB, List.cons.injEq, W.s.injEq, W.i.injEq, and_true, rows_view, Nat.reduceAdd] at e
                                    first
                                      | (simp_all [lk]; done)
                                      | (obtain ⟨e0, e1, e2⟩ := e; have := rows_length e2; omega)
                                  · simp only [denT, setG, sAB.down, D.int_i, D.tr_b, Nat.reduceEqDiff, reduceIte] at h21
                                    refine vcT_need ?_ ?_
                                    · have := lt_max B11 h15
                                      simp only [denT, setG, sAB.down, D.int_i, D.tr_b, Nat.reduceEqDiff, reduceIte]
                                      first
                                        | omega
                                        | (simp (disch := omega) only [wrap64] <;> omega)
                                    refine vcT_need ?_ ?_
                                    · have := lt_max B11 h15
                                      simp only [denT, setG, sAB.down, D.int_i, D.tr_b, Nat.reduceEqDiff, reduceIte]
                                      first
                                        | omega
                                        | (simp (disch := omega) only [wrap64] <;> omega)
                                    refine vcT_need ?_ ?_
                                    · have := lt_max B11 h15
                                      simp only [denT, setG, sAB.down, D.int_i, D.tr_b, Nat.reduceEqDiff, reduceIte]
                                      first
                                        | omega
                                        | (simp (disch := omega) only [wrap64] <;> omega)
                                    refine vcT_need ?_ ?_
                                    · have := lt_max B11 h15
                                      simp only [denT, setG, sAB.down, D.int_i, D.tr_b, Nat.reduceEqDiff, reduceIte]
                                      first
                                        | omega
                                        | (simp (disch := omega) only [wrap64] <;> omega)
                                    refine vcT_need ?_ ?_
                                    · have := lt_max B11 h15
                                      simp only [denT, setG, sAB.down, D.int_i, D.tr_b, Nat.reduceEqDiff, reduceIte]
                                      rw [wrap64 (n := d11.int + 1) (by omega) (by omega)]
                                      refine take_step (by omega) h15 (by omega) ?_ h14
                                      simp only [rowW, lk, viewKs, lk_s, lk_i, lk_w, rowD, singleB, List.cons.injEq, W.s.injEq, W.i.injEq, and_true, rows_view, Nat.reduceAdd]
                                      simp_all [lk]
                                    exact trivial
                      · simp only [denT, setG, sAB.down, D.int_i, D.tr_b, Nat.reduceEqDiff, reduceIte] at h15
                        refine vcT_need ?_ ?_
                        · simp only [denT, setG, sAB.down, D.int_i, D.tr_b, Nat.reduceEqDiff, reduceIte]
                          first
                            | omega
                            | (simp (disch := omega) only [wrap64] <;> omega)
                        refine vcT_need ?_ ?_
                        · exact e1_5.2 rfl
                        refine vcT_any fun d22 => ?_
                        refine vcT_fork (fun h23 => ?_) (fun _ => trivial)
                        simp only [denT, setG, sAB.down, D.int_i, D.tr_b, Nat.reduceEqDiff, reduceIte] at h23
                        refine vcT_fork (fun h24 => ?_) (fun _ => trivial)
                        simp only [denT, setG, sAB.down, D.int_i, D.tr_b, Nat.reduceEqDiff, reduceIte] at h24
                        refine vcT_fork (fun h25 => ?_) (fun _ => trivial)
                        simp only [denT, setG, sAB.down, D.int_i, D.tr_b, Nat.reduceEqDiff, reduceIte] at h25
                        refine vcT_fork (fun h26 => ?_) (fun h26 => ?_)
                        · simp only [denT, setG, sAB.down, D.int_i, D.tr_b, Nat.reduceEqDiff, reduceIte] at h26
                          refine vcT_need ?_ ?_
                          · have := lt_max B12 h26
                            simp only [denT, setG, sAB.down, D.int_i, D.tr_b, Nat.reduceEqDiff, reduceIte]
                            first
                              | omega
                              | (simp (disch := omega) only [wrap64] <;> omega)
                          refine vcT_fork (fun h27 => ?_) (fun h27 => ?_)
                          · simp only [denT, setG, sAB.down, D.int_i, D.tr_b, Nat.reduceEqDiff, reduceIte] at h27
                            have := lt_max B12 h26
                            have rh15 := rows_allI (by omega) h15 h14
                            refine ⟨?_, trivial⟩
                            show (denT _ _).tr = false
                            rw [Bool.eq_false_iff]
                            intro hc
                            simp only [denT, setG, sAB.down, D.int_i, D.tr_b, Nat.reduceEqDiff, reduceIte] at hc
                            obtain ⟨c0, c1, c2, c3, c4, c5, c6, c7, c8, c9, c10, c11, c12, c13, c14, c15⟩ := hc
                            have l11 := rows_length c11
                            have l12 := rows_length c12
                            have l13 := rows_length c13
                            have l14 := rows_length c14
                            have l15 := rows_length c15
                            have e := rows_at (i := _) c12 (by omega) h26 (by omega)
                            simp only [rowW, lk, viewKs, lk_s, lk_i, lk_w, rowD, singleB, List.cons.injEq, W.s.injEq, W.i.injEq, and_true, rows_view, Nat.reduceAdd] at e
                            first
                              | (simp_all [lk]; done)
                              | (obtain ⟨e0, e1, e2⟩ := e; have := rows_length e2; omega)
                          · simp only [denT, setG, sAB.down, D.int_i, D.tr_b, Nat.reduceEqDiff, reduceIte] at h27
                            refine vcT_fork (fun h28 => ?_) (fun h28 => ?_)
                            · simp only [denT, setG, sAB.down, D.int_i, D.tr_b, Nat.reduceEqDiff, reduceIte] at h28
                              have := lt_max B12 h26
                              have rh15 := rows_allI (by omega) h15 h14
                              refine ⟨?_, trivial⟩
                              show (denT _ _).tr = false
                              rw [Bool.eq_false_iff]
                              intro hc
                              simp only [denT, setG, sAB.down, D.int_i, D.tr_b, Nat.reduceEqDiff, reduceIte] at hc
                              obtain ⟨c0, c1, c2, c3, c4, c5, c6, c7, c8, c9, c10, c11, c12, c13, c14, c15⟩ := hc
                              have l11 := rows_length c11
                              have l12 := rows_length c12
                              have l13 := rows_length c13
                              have l14 := rows_length c14
                              have l15 := rows_length c15
                              have e := rows_at (i := _) c12 (by omega) h26 (by omega)
                              simp only [rowW, lk, viewKs, lk_s, lk_i, lk_w, rowD, singleB, List.cons.injEq, W.s.injEq, W.i.injEq, and_true, rows_view, Nat.reduceAdd] at e
                              first
                                | (simp_all [lk]; done)
                                | (obtain ⟨e0, e1, e2⟩ := e; have := rows_length e2; omega)
                            · simp only [denT, setG, sAB.down, D.int_i, D.tr_b, Nat.reduceEqDiff, reduceIte] at h28
                              refine vcT_fork (fun h29 => ?_) (fun h29 => ?_)
                              · simp only [denT, setG, sAB.down, D.int_i, D.tr_b, Nat.reduceEqDiff, reduceIte] at h29
                                have := lt_max B12 h26
                                have rh15 := rows_allI (by omega) h15 h14
                                refine ⟨?_, trivial⟩
                                show (denT _ _).tr = false
                                rw [Bool.eq_false_iff]
                                intro hc
                                simp only [denT, setG, sAB.down, D.int_i, D.tr_b, Nat.reduceEqDiff, reduceIte] at hc
                                obtain ⟨c0, c1, c2, c3, c4, c5, c6, c7, c8, c9, c10, c11, c12, c13, c14, c15⟩ := hc
                                have l11 := rows_length c11
                                have l12 := rows_length c12
                                have l13 := rows_length c13
                                have l14 := rows_length c14
                                have l15 := rows_length c15
                                have e := rows_at (i := _) c12 (by omega) h26 (by omega)
                                simp only [rowW, lk, viewKs, lk_s, lk_i, lk_w, rowD, singleB, List.cons.injEq, W.s.injEq, W.i.injEq, and_true, rows_view, Nat.reduceAdd] at e
                                first
                                  | (simp_all [lk]; done)
                                  | (obtain ⟨e0, e1, e2⟩ := e; have := rows_length e2; omega)
                              · simp only [denT, setG, sAB.down, D.int_i, D.tr_b, Nat.reduceEqDiff, reduceIte] at h29
                                refine vcT_need ?_ ?_
                                · have := lt_max B12 h26
                                  simp only [denT, setG, sAB.down, D.int_i, D.tr_b, Nat.reduceEqDiff, reduceIte]
                                  first
                                    | omega
                                    | (simp (disch := omega) only [wrap64] <;> omega)
                                refine vcT_need ?_ ?_
                                · exact e1_4.2 rfl
                                refine vcT_any fun d30 => ?_
                                refine vcT_fork (fun h31 => ?_) (fun _ => trivial)
                                simp only [denT, setG, sAB.down, D.int_i, D.tr_b, Nat.reduceEqDiff, reduceIte] at h31
                                refine vcT_fork (fun h32 => ?_) (fun _ => trivial)
                                simp only [denT, setG, sAB.down, D.int_i, D.tr_b, Nat.reduceEqDiff, reduceIte] at h32
                                refine vcT_fork (fun h33 => ?_) (fun _ => trivial)
                                simp only [denT, setG, sAB.down, D.int_i, D.tr_b, Nat.reduceEqDiff, reduceIte] at h33
                                refine vcT_fork (fun h34 => ?_) (fun h34 => ?_)
                                · simp only [denT, setG, sAB.down, D.int_i, D.tr_b, Nat.reduceEqDiff, reduceIte] at h34
                                  refine vcT_need ?_ ?_
                                  · have := lt_max B12 h26
                                    have := lt_max (BN _) h34
                                    simp only [denT, setG, sAB.down, D.int_i, D.tr_b, Nat.reduceEqDiff, reduceIte]
                                    first
                                      | omega
                                      | (simp (disch := omega) only [wrap64] <;> omega)
                                  refine vcT_fork (fun h35 => ?_) (fun h35 => ?_)
                                  · simp only [denT, setG, sAB.down, D.int_i, D.tr_b, Nat.reduceEqDiff, reduceIte] at h35
                                    have := lt_max B12 h26
                                    have := lt_max (BN _) h34
                                    have rh15 := rows_allI (by omega) h15 h14
                                    refine ⟨?_, trivial⟩
                                    show (denT _ _).tr = false
                                    rw [Bool.eq_false_iff]
                                    intro hc
                                    simp only [denT, setG, sAB.down, D.int_i, D.tr_b, Nat.reduceEqDiff, reduceIte] at hc
                                    obtain ⟨c0, c1, c2, c3, c4, c5, c6, c7, c8, c9, c10, c11, c12, c13, c14, c15⟩ := hc
                                    have l11 := rows_length c11
                                    have l12 := rows_length c12
                                    have l13 := rows_length c13
                                    have l14 := rows_length c14
                                    have l15 := rows_length c15
                                    have e := rows_at (i := _) c12 (by omega) h26 (by omega)
                                    simp only [rowW, lk, viewKs, lk_s, lk_i, lk_w, rowD, singleB, List.cons.injEq, W.s.injEq, W.i.injEq, and_true, rows_view, Nat.reduceAdd] at e
                                    obtain ⟨e0, e1, e2⟩ := e
                                    have f := rows_at (i := _) e2 (by omega) h34 (by omega)
                                    simp only [rowW, lk, viewKs, lk_s, lk_i, lk_w, rowD, singleB, List.cons.injEq, W.s.injEq, W.i.injEq, and_true, rows_view, Nat.reduceAdd] at f
                                    simp_all [lk]
                                  · simp only [denT, setG, sAB.down, D.int_i, D.tr_b, Nat.reduceEqDiff, reduceIte] at h35
                                    refine vcT_need ?_ ?_
                                    · have := lt_max B12 h26
                                      have := lt_max (BN _) h34
                                      simp only [denT, setG, sAB.down, D.int_i, D.tr_b, Nat.reduceEqDiff, reduceIte]
                                      first
                                        | omega
                                        | (simp (disch := omega) only [wrap64] <;> omega)
                                    refine vcT_need ?_ ?_
                                    · have := lt_max B12 h26
                                      have := lt_max (BN _) h34
                                      simp only [denT, setG, sAB.down, D.int_i, D.tr_b, Nat.reduceEqDiff, reduceIte]
                                      first
                                        | omega
                                        | (simp (disch := omega) only [wrap64] <;> omega)
                                    refine vcT_need ?_ ?_
                                    · have := lt_max B12 h26
                                      have := lt_max (BN _) h34
                                      simp only [denT, setG, sAB.down, D.int_i, D.tr_b, Nat.reduceEqDiff, reduceIte]
                                      first
                                        | omega
                                        | (simp (disch := omega) only [wrap64] <;> omega)
                                    refine vcT_need ?_ ?_
                                    · have := lt_max B12 h26
                                      have := lt_max (BN _) h34
                                      simp only [denT, setG, sAB.down, D.int_i, D.tr_b, Nat.reduceEqDiff, reduceIte]
                                      first
                                        | omega
                                        | (simp (disch := omega) only [wrap64] <;> omega)
                                    refine vcT_need ?_ ?_
                                    · have := lt_max B12 h26
                                      have := lt_max (BN _) h34
                                      have rh15 := rows_allI (by omega) h15 h14
                                      simp only [denT, setG, sAB.down, D.int_i, D.tr_b, Nat.reduceEqDiff, reduceIte]
                                      rw [wrap64 (n := d30.int + 1) (by omega) (by omega)]
                                      refine take_step (by omega) h34 (by omega) ?_ h33
                                      simp only [rowW, lk, viewKs, lk_s, lk_i, lk_w, rowD, singleB, List.cons.injEq, W.s.injEq, W.i.injEq, and_true, rows_view, Nat.reduceAdd]
                                      simp_all [lk]
                                    exact trivial
                                · simp only [denT, setG, sAB.down, D.int_i, D.tr_b, Nat.reduceEqDiff, reduceIte] at h34
                                  refine vcT_need ?_ ?_
                                  · have := lt_max B12 h26
                                    simp only [denT, setG, sAB.down, D.int_i, D.tr_b, Nat.reduceEqDiff, reduceIte]
                                    first
                                      | omega
                                      | (simp (disch := omega) only [wrap64] <;> omega)
                                  refine vcT_need ?_ ?_
                                  · have := lt_max B12 h26
                                    simp only [denT, setG, sAB.down, D.int_i, D.tr_b, Nat.reduceEqDiff, reduceIte]
                                    first
                                      | omega
                                      | (simp (disch := omega) only [wrap64] <;> omega)
                                  refine vcT_need ?_ ?_
                                  · have := lt_max B12 h26
                                    simp only [denT, setG, sAB.down, D.int_i, D.tr_b, Nat.reduceEqDiff, reduceIte]
                                    first
                                      | omega
                                      | (simp (disch := omega) only [wrap64] <;> omega)
                                  refine vcT_need ?_ ?_
                                  · have := lt_max B12 h26
                                    simp only [denT, setG, sAB.down, D.int_i, D.tr_b, Nat.reduceEqDiff, reduceIte]
                                    first
                                      | omega
                                      | (simp (disch := omega) only [wrap64] <;> omega)
                                  refine vcT_need ?_ ?_
                                  · have := lt_max B12 h26
                                    have rh15 := rows_allI (by omega) h15 h14
                                    have rh34 := rows_allI (by omega) h34 h33
                                    simp only [denT, setG, sAB.down, D.int_i, D.tr_b, Nat.reduceEqDiff, reduceIte]
                                    rw [wrap64 (n := d22.int + 1) (by omega) (by omega)]
                                    refine take_step (by omega) h26 (by omega) ?_ h25
                                    simp only [rowW, lk, viewKs, lk_s, lk_i, lk_w, rowD, singleB, List.cons.injEq, W.s.injEq, W.i.injEq, and_true, rows_view, Nat.reduceAdd]
                                    simp_all [lk]
                                  exact trivial
                        · simp only [denT, setG, sAB.down, D.int_i, D.tr_b, Nat.reduceEqDiff, reduceIte] at h26
                          refine vcT_need ?_ ?_
                          · simp only [denT, setG, sAB.down, D.int_i, D.tr_b, Nat.reduceEqDiff, reduceIte]
                            first
                              | omega
                              | (simp (disch := omega) only [wrap64] <;> omega)
                          refine vcT_need ?_ ?_
                          · exact e1_3.2 rfl
                          refine vcT_any fun d36 => ?_
                          refine vcT_fork (fun h37 => ?_) (fun _ => trivial)
                          simp only [denT, setG, sAB.down, D.int_i, D.tr_b, Nat.reduceEqDiff, reduceIte] at h37
                          refine vcT_fork (fun h38 => ?_) (fun _ => trivial)
                          simp only [denT, setG, sAB.down, D.int_i, D.tr_b, Nat.reduceEqDiff, reduceIte] at h38
                          refine vcT_fork (fun h39 => ?_) (fun _ => trivial)
                          simp only [denT, setG, sAB.down, D.int_i, D.tr_b, Nat.reduceEqDiff, reduceIte] at h39
                          refine vcT_fork (fun h40 => ?_) (fun h40 => ?_)
                          · simp only [denT, setG, sAB.down, D.int_i, D.tr_b, Nat.reduceEqDiff, reduceIte] at h40
                            refine vcT_need ?_ ?_
                            · have := lt_max B13 h40
                              simp only [denT, setG, sAB.down, D.int_i, D.tr_b, Nat.reduceEqDiff, reduceIte]
                              first
                                | omega
                                | (simp (disch := omega) only [wrap64] <;> omega)
                            refine vcT_fork (fun h41 => ?_) (fun h41 => ?_)
                            · simp only [denT, setG, sAB.down, D.int_i, D.tr_b, Nat.reduceEqDiff, reduceIte] at h41
                              have := lt_max B13 h40
                              have rh15 := rows_allI (by omega) h15 h14
                              have rh26 := rows_allI (by omega) h26 h25
                              refine ⟨?_, trivial⟩
                              show (denT _ _).tr = false
                              rw [Bool.eq_false_iff]
                              intro hc
                              simp only [denT, setG, sAB.down, D.int_i, D.tr_b, Nat.reduceEqDiff, reduceIte] at hc
                              obtain ⟨c0, c1, c2, c3, c4, c5, c6, c7, c8, c9, c10, c11, c12, c13, c14, c15⟩ := hc
                              have l11 := rows_length c11
                              have l12 := rows_length c12
                              have l13 := rows_length c13
                              have l14 := rows_length c14
                              have l15 := rows_length c15
                              have e := rows_at (i := _) c13 (by omega) h40 (by omega)
                              simp only [rowW, lk, viewKs, lk_s, lk_i, lk_w, rowD, singleB, List.cons.injEq, W.s.injEq, W.i.injEq, and_true, rows_view, Nat.reduceAdd] at e
                              first
                                | (simp_all [lk]; done)
                                | (obtain ⟨e0, e1, e2⟩ := e; have := rows_length e2; omega)
                            · simp only [denT, setG, sAB.down, D.int_i, D.tr_b, Nat.reduceEqDiff, reduceIte] at h41
                              refine vcT_need ?_ ?_
                              · have := lt_max B13 h40
                                simp only [denT, setG, sAB.down, D.int_i, D.tr_b, Nat.reduceEqDiff, reduceIte]
                                first
                                  | omega
                                  | (simp (disch := omega) only [wrap64] <;> omega)
                              refine vcT_need ?_ ?_
                              · have := lt_max B13 h40
                                simp only [denT, setG, sAB.down, D.int_i, D.tr_b, Nat.reduceEqDiff, reduceIte]
                                first
                                  | omega
                                  | (simp (disch := omega) only [wrap64] <;> omega)
                              refine vcT_need ?_ ?_
                              · have := lt_max B13 h40
                                simp only [denT, setG, sAB.down, D.int_i, D.tr_b, Nat.reduceEqDiff, reduceIte]
                                first
                                  | omega
                                  | (simp (disch := omega) only [wrap64] <;> omega)
                              refine vcT_need ?_ ?_
                              · have := lt_max B13 h40
                                simp only [denT, setG, sAB.down, D.int_i, D.tr_b, Nat.reduceEqDiff, reduceIte]
                                first
                                  | omega
                                  | (simp (disch := omega) only [wrap64] <;> omega)
                              refine vcT_need ?_ ?_
                              · have := lt_max B13 h40
                                have rh15 := rows_allI (by omega) h15 h14
                                have rh26 := rows_allI (by omega) h26 h25
                                simp only [denT, setG, sAB.down, D.int_i, D.tr_b, Nat.reduceEqDiff, reduceIte]
                                rw [wrap64 (n := d36.int + 1) (by omega) (by omega)]
                                refine take_step (by omega) h40 (by omega) ?_ h39
                                simp only [rowW, lk, viewKs, lk_s, lk_i, lk_w, rowD, singleB, List.cons.injEq, W.s.injEq, W.i.injEq, and_true, rows_view, Nat.reduceAdd]
                                simp_all [lk]
                              exact trivial
                          · simp only [denT, setG, sAB.down, D.int_i, D.tr_b, Nat.reduceEqDiff, reduceIte] at h40
                            refine vcT_need ?_ ?_
                            · simp only [denT, setG, sAB.down, D.int_i, D.tr_b, Nat.reduceEqDiff, reduceIte]
                              first
                                | omega
                                | (simp (disch := omega) only [wrap64] <;> omega)
                            refine vcT_need ?_ ?_
                            · exact e1_2.2 rfl
                            refine vcT_any fun d42 => ?_
                            refine vcT_fork (fun h43 => ?_) (fun _ => trivial)
                            simp only [denT, setG, sAB.down, D.int_i, D.tr_b, Nat.reduceEqDiff, reduceIte] at h43
                            refine vcT_fork (fun h44 => ?_) (fun _ => trivial)
                            simp only [denT, setG, sAB.down, D.int_i, D.tr_b, Nat.reduceEqDiff, reduceIte] at h44
                            refine vcT_fork (fun h45 => ?_) (fun _ => trivial)
                            simp only [denT, setG, sAB.down, D.int_i, D.tr_b, Nat.reduceEqDiff, reduceIte] at h45
                            refine vcT_fork (fun h46 => ?_) (fun h46 => ?_)
                            · simp only [denT, setG, sAB.down, D.int_i, D.tr_b, Nat.reduceEqDiff, reduceIte] at h46
                              refine vcT_need ?_ ?_
                              · have := lt_max B14 h46
                                simp only [denT, setG, sAB.down, D.int_i, D.tr_b, Nat.reduceEqDiff, reduceIte]
                                first
                                  | omega
                                  | (simp (disch := omega) only [wrap64] <;> omega)
                              refine vcT_fork (fun h47 => ?_) (fun h47 => ?_)
                              · simp only [denT, setG, sAB.down, D.int_i, D.tr_b, Nat.reduceEqDiff, reduceIte] at h47
                                have := lt_max B14 h46
                                have rh15 := rows_allI (by omega) h15 h14
                                have rh26 := rows_allI (by omega) h26 h25
                                have rh40 := rows_allI (by omega) h40 h39
                                refine ⟨?_, trivial⟩
                                show (denT _ _).tr = false
                                rw [Bool.eq_false_iff]
                                intro hc
                                simp only [denT, setG, sAB.down, D.int_i, D.tr_b, Nat.reduceEqDiff, reduceIte] at hc
                                obtain ⟨c0, c1, c2, c3, c4, c5, c6, c7, c8, c9, c10, c11, c12, c13, c14, c15⟩ := hc
                                have l11 := rows_length c11
                                have l12 := rows_length c12
                                have l13 := rows_length c13
                                have l14 := rows_length c14
                                have l15 := rows_length c15
                                have e := rows_at (i := _) c14 (by omega) h46 (by omega)
                                simp only [rowW, lk, viewKs, lk_s, lk_i, lk_w, rowD, singleB, List.cons.injEq, W.s.injEq, W.i.injEq, and_true, rows_view, Nat.reduceAdd] at e
                                first
                                  | (simp_all [lk]; done)
                                  | (obtain ⟨e0, e1, e2⟩ := e; have := rows_length e2; omega)
                              · simp only [denT, setG, sAB.down, D.int_i, D.tr_b, Nat.reduceEqDiff, reduceIte] at h47
                                refine vcT_need ?_ ?_
                                · have := lt_max B14 h46
                                  simp only [denT, setG, sAB.down, D.int_i, D.tr_b, Nat.reduceEqDiff, reduceIte]
                                  first
                                    | omega
                                    | (simp (disch := omega) only [wrap64] <;> omega)
                                refine vcT_need ?_ ?_
                                · have := lt_max B14 h46
                                  simp only [denT, setG, sAB.down, D.int_i, D.tr_b, Nat.reduceEqDiff, reduceIte]
                                  first
                                    | omega
                                    | (simp (disch := omega) only [wrap64] <;> omega)
                                refine vcT_need ?_ ?_
                                · have := lt_max B14 h46
                                  simp only [denT, setG, sAB.down, D.int_i, D.tr_b, Nat.reduceEqDiff, reduceIte]
                                  first
                                    | omega
                                    | (simp (disch := omega) only [wrap64] <;> omega)
                                refine vcT_need ?_ ?_
                                · have := lt_max B14 h46
                                  simp only [denT, setG, sAB.down, D.int_i, D.tr_b, Nat.reduceEqDiff, reduceIte]
                                  first
                                    | omega
                                    | (simp (disch := omega) only [wrap64] <;> omega)
                                refine vcT_need ?_ ?_
                                · have := lt_max B14 h46
                                  have rh15 := rows_allI (by omega) h15 h14
                                  have rh26 := rows_allI (by omega) h26 h25
                                  have rh40 := rows_allI (by omega) h40 h39
                                  simp only [denT, setG, sAB.down, D.int_i, D.tr_b, Nat.reduceEqDiff, reduceIte]
                                  rw [wrap64 (n := d42.int + 1) (by omega) (by omega)]
                                  refine take_step (by omega) h46 (by omega) ?_ h45
                                  simp only [rowW, lk, viewKs, lk_s, lk_i, lk_w, rowD, singleB, List.cons.injEq, W.s.injEq, W.i.injEq, and_true, rows_view, Nat.reduceAdd]
                                  simp_all [lk]
                                exact trivial
                            · simp only [denT, setG, sAB.down, D.int_i, D.tr_b, Nat.reduceEqDiff, reduceIte] at h46
                              refine vcT_need ?_ ?_
                              · simp only [denT, setG, sAB.down, D.int_i, D.tr_b, Nat.reduceEqDiff, reduceIte]
                                first
                                  | omega
                                  | (simp (disch := omega) only [wrap64] <;> omega)
                              refine vcT_need ?_ ?_
                              · exact e1_1.2 rfl
                              refine vcT_any fun d48 => ?_
                              refine vcT_fork (fun h49 => ?_) (fun _ => trivial)
                              simp only [denT, setG, sAB.down, D.int_i, D.tr_b, Nat.reduceEqDiff, reduceIte] at h49
                              refine vcT_fork (fun h50 => ?_) (fun _ => trivial)
                              simp only [denT, setG, sAB.down, D.int_i, D.tr_b, Nat.reduceEqDiff, reduceIte] at h50
                              refine vcT_fork (fun h51 => ?_) (fun _ => trivial)
                              simp only [denT, setG, sAB.down, D.int_i, D.tr_b, Nat.reduceEqDiff, reduceIte] at h51
                              refine vcT_fork (fun h52 => ?_) (fun h52 => ?_)
                              · simp only [denT, setG, sAB.down, D.int_i, D.tr_b, Nat.reduceEqDiff, reduceIte] at h52
                                refine vcT_need ?_ ?_
                                · have := lt_max B15 h52
                                  simp only [denT, setG, sAB.down, D.int_i, D.tr_b, Nat.reduceEqDiff, reduceIte]
                                  first
                                    | omega
                                    | (simp (disch := omega) only [wrap64] <;> omega)
                                refine vcT_fork (fun h53 => ?_) (fun h53 => ?_)
                                · simp only [denT, setG, sAB.down, D.int_i, D.tr_b, Nat.reduceEqDiff, reduceIte] at h53
                                  have := lt_max B15 h52
                                  have rh15 := rows_allI (by omega) h15 h14
                                  have rh26 := rows_allI (by omega) h26 h25
                                  have rh40 := rows_allI (by omega) h40 h39
                                  have rh46 := rows_allI (by omega) h46 h45
                                  refine ⟨?_, trivial⟩
                                  show (denT _ _).tr = false
                                  rw [Bool.eq_false_iff]
                                  intro hc
                                  simp only [denT, setG, sAB.down, D.int_i, D.tr_b, Nat.reduceEqDiff, reduceIte] at hc
                                  obtain ⟨c0, c1, c2, c3, c4, c5, c6, c7, c8, c9, c10, c11, c12, c13, c14, c15⟩ := hc
                                  have l11 := rows_length c11
                                  have l12 := rows_length c12
                                  have l13 := rows_length c13
                                  have l14 := rows_length c14
                                  have l15 := rows_length c15
                                  have e := rows_at (i := _) c15 (by omega) h52 (by omega)
                                  simp only [rowW, lk, viewKs, lk_s, lk_i, lk_w, rowD, singleB, List.cons.injEq, W.s.injEq, W.i.injEq, and_true, rows_view, Nat.reduceAdd] at e
                                  first
                                    | (simp_all [lk]; done)
                                    | (obtain ⟨e0, e1, e2⟩ := e; have := rows_length e2; omega)
                                · simp only [denT, setG, sAB.down, D.int_i, D.tr_b, Nat.reduceEqDiff, reduceIte] at h53
                                  refine vcT_need ?_ ?_
                                  · have := lt_max B15 h52
                                    simp only [denT, setG, sAB.down, D.int_i, D.tr_b, Nat.reduceEqDiff, reduceIte]
                                    first
                                      | omega
                                      | (simp (disch := omega) only [wrap64] <;> omega)
                                  refine vcT_need ?_ ?_
                                  · have := lt_max B15 h52
                                    simp only [denT, setG, sAB.down, D.int_i, D.tr_b, Nat.reduceEqDiff, reduceIte]
                                    first
                                      | omega
                                      | (simp (disch := omega) only [wrap64] <;> omega)
                                  refine vcT_need ?_ ?_
                                  · have := lt_max B15 h52
                                    simp only [denT, setG, sAB.down, D.int_i, D.tr_b, Nat.reduceEqDiff, reduceIte]
                                    first
                                      | omega
                                      | (simp (disch := omega) only [wrap64] <;> omega)
                                  refine vcT_need ?_ ?_
                                  · have := lt_max B15 h52
                                    simp only [denT, setG, sAB.down, D.int_i, D.tr_b, Nat.reduceEqDiff, reduceIte]
                                    first
                                      | omega
                                      | (simp (disch := omega) only [wrap64] <;> omega)
                                  refine vcT_need ?_ ?_
                                  · have := lt_max B15 h52
                                    have rh15 := rows_allI (by omega) h15 h14
                                    have rh26 := rows_allI (by omega) h26 h25
                                    have rh40 := rows_allI (by omega) h40 h39
                                    have rh46 := rows_allI (by omega) h46 h45
                                    simp only [denT, setG, sAB.down, D.int_i, D.tr_b, Nat.reduceEqDiff, reduceIte]
                                    rw [wrap64 (n := d48.int + 1) (by omega) (by omega)]
                                    refine take_step (by omega) h52 (by omega) ?_ h51
                                    simp only [rowW, lk, viewKs, lk_s, lk_i, lk_w, rowD, singleB, List.cons.injEq, W.s.injEq, W.i.injEq, and_true, rows_view, Nat.reduceAdd]
                                    simp_all [lk]
                                  exact trivial
                              · simp only [denT, setG, sAB.down, D.int_i, D.tr_b, Nat.reduceEqDiff, reduceIte] at h52
                                have rh15 := rows_allI (by omega) h15 h14
                                have rh26 := rows_allI (by omega) h26 h25
                                have rh40 := rows_allI (by omega) h40 h39
                                have rh46 := rows_allI (by omega) h46 h45
                                have rh52 := rows_allI (by omega) h52 h51
                                refine ⟨?_, trivial⟩
                                show (denT _ _).tr = true
                                simp only [denT, setG, sAB.down, D.int_i, D.tr_b, Nat.reduceEqDiff, reduceIte]
                                simp_all
theorem c10_ok : CtrOK Unit Tryz.prog lo c10 := ctr_run hb (orExt_ok (call_ok (c25_ok hb)) noExt_ok) (by decide +kernel) c10_run (by decide +kernel) (by decide +kernel) fun g ht _ => c10_vc g ht
end
end Go.Proofs.YtbjomeonjlialaaGreat.V.S
