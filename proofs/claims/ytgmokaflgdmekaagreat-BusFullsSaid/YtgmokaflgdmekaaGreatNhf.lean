/-
  What the command of a purge is, as far as the hub asks: whether there is one. No condition.
-/
import Derived.Test.YtgmokaflgdmekaaGreatFg
import Derived.Test.YtgmokaflgdmekaaGreatPl
namespace Go.Proofs.YtgmokaflgdmekaaGreat.V

/-- The kinds of a purge, by what they are compared with. -/
def kF : Nat → List (BinOp × Int × Bool)
  | 1 => [(.eql, 1, true), (.eql, 2, false), (.eql, 3, false), (.eql, 4, false)]
  | 2 => [(.eql, 1, false), (.eql, 2, true), (.eql, 3, false), (.eql, 4, false)]
  | 3 => [(.eql, 1, false), (.eql, 2, false), (.eql, 3, true), (.eql, 4, false)]
  | 4 => [(.eql, 1, false), (.eql, 2, false), (.eql, 3, false), (.eql, 4, true)]
  | _ => [(.eql, 1, false), (.eql, 2, false), (.eql, 3, false), (.eql, 4, false)]
/-- The lengths of a name, by what they are compared with. -/
def lF : Nat → List (BinOp × Int × Bool)
  | 0 => [(.gtr, 0, false), (.leq, 64, true), (.leq, 250, true), (.geq, 1, false), (.eql, 0, true)]
  | 1 => [(.gtr, 0, true), (.leq, 64, true), (.leq, 250, true), (.geq, 1, true), (.eql, 0, false)]
  | 2 => [(.gtr, 0, true), (.leq, 64, false), (.leq, 250, true), (.geq, 1, true), (.eql, 0, false)]
  | _ => [(.gtr, 0, true), (.leq, 64, false), (.leq, 250, false), (.geq, 1, true), (.eql, 0, false)]
/-- Whether a purge has a command. -/
def okP (k : Int) (n : Nat) : Bool := (decide (k = 1) || decide (k = 2)) && (decide (1 ≤ n) && decide (n ≤ 64)) || (decide (k = 3) && decide (n ≤ 250) || decide (k = 4) && decide (n = 0))
def okJ (j m : Nat) : Bool := match j, m with
  | 1, 1 => true
  | 2, 1 => true
  | 3, 0 => true
  | 3, 1 => true
  | 3, 2 => true
  | 4, 0 => true
  | _, _ => false
theorem kl_all (k : Int) (n : Nat) : ∃ j m, j < 5 ∧ m < 4 ∧ (∀ x ∈ kF j, cmpI x.1 k x.2.1 = some x.2.2) ∧ (∀ x ∈ lF m, cmpI x.1 n x.2.1 = some x.2.2) ∧ okP k n = okJ j m := by
  have hk : k = 1 ∨ k = 2 ∨ k = 3 ∨ k = 4 ∨ (k ≠ 1 ∧ k ≠ 2 ∧ k ≠ 3 ∧ k ≠ 4) := by omega
  have hn : n = 0 ∨ (1 ≤ n ∧ n ≤ 64) ∨ (65 ≤ n ∧ n ≤ 250) ∨ 251 ≤ n := by omega
  have h1 : ∃ m, m < 4 ∧ (∀ x ∈ lF m, cmpI x.1 n x.2.1 = some x.2.2) ∧ (m = 0 ↔ n = 0) ∧ (m = 1 ↔ 1 ≤ n ∧ n ≤ 64) ∧ (m ≤ 2 ↔ n ≤ 250) := by
    rcases hn with h | h | h | h
    · exact ⟨0, by decide, by subst h; simp [lF, cmpI], by omega, by omega, by omega⟩
    · exact ⟨1, by decide, by simp [lF, cmpI]; omega, by omega, by omega, by omega⟩
    · exact ⟨2, by decide, by simp [lF, cmpI]; omega, by omega, by omega, by omega⟩
    · exact ⟨3, by decide, by simp [lF, cmpI]; omega, by omega, by omega, by omega⟩
  obtain ⟨m, hm, hmf, e0, e1, e2⟩ := h1
  have key : ∀ j, j < 5 → (∀ x ∈ kF j, cmpI x.1 k x.2.1 = some x.2.2) → okP k n = okJ j m → ∃ j m, j < 5 ∧ m < 4 ∧ (∀ x ∈ kF j, cmpI x.1 k x.2.1 = some x.2.2) ∧ (∀ x ∈ lF m, cmpI x.1 n x.2.1 = some x.2.2) ∧ okP k n = okJ j m := fun j hj hkf he => ⟨j, m, hj, hm, hkf, hmf, he⟩
  have h4 : m = 0 ∨ m = 1 ∨ m = 2 ∨ m = 3 := by omega
  rcases hk with h | h | h | h | ⟨n1, n2, n3, n4⟩
  · subst h
    refine key 1 (by decide) (by simp [kF, cmpI]) ?_
    rcases h4 with rfl | rfl | rfl | rfl <;> simp [okP, okJ] at * <;> omega
  · subst h
    refine key 2 (by decide) (by simp [kF, cmpI]) ?_
    rcases h4 with rfl | rfl | rfl | rfl <;> simp [okP, okJ] at * <;> omega
  · subst h
    refine key 3 (by decide) (by simp [kF, cmpI]) ?_
    rcases h4 with rfl | rfl | rfl | rfl <;> simp [okP, okJ] at * <;> omega
  · subst h
    refine key 4 (by decide) (by simp [kF, cmpI]) ?_
    rcases h4 with rfl | rfl | rfl | rfl <;> simp [okP, okJ] at * <;> omega
  · refine key 0 (by decide) (by simp [kF, cmpI, n1, n2, n3, n4]) ?_
    rcases h4 with rfl | rfl | rfl | rfl <;> simp [okP, okJ, n1, n2, n3, n4]

def noE : CallA := fun _ _ _ => none
theorem noE_ok [Sig] {P : Program} {lo : Nat} : CallOK P lo noE := fun _ _ _ _ _ h => by cases h
def purA (j m : Nat) : List AV := [.g [.oi 0 .i64 (kF j), .os 1 (lF m)]]
/-- The error of the command. -/
def errOf (z : Option (AV × ST)) (b : Bool) : Bool := match z with
  | some (.t [.g l, .i .i64 e], _) => (match Nat.beq l.length 10, ones l with | true, true => intEq e (match b with | true => 0 | false => 2) | _, _ => false)
  | _ => false
/-- Whether the document has a command. -/
def isOf (z : Option (AV × ST)) (b : Bool) : Bool := match z with
  | some (.t [.g l, .b x], _) => (match Nat.beq l.length 10, ones l, x, b with | true, true, true, true => true | true, true, false, false => true | _, _, _, _ => false)
  | _ => false
theorem cmd_runs : ((List.range 5).all fun j => (List.range 4).all fun m => errOf (evText Tryz.prog (plansIn plTbl) noE 20000 24 (purA j m) ⟨.e, .e, 0, []⟩) (okJ j m)) = true := by decide +kernel
theorem doc_runs : ((List.range 5).all fun j => (List.range 4).all fun m => isOf (evText Tryz.prog (plansIn plTbl) noE 20000 13 (purA j m) ⟨.e, .e, 0, []⟩) (okJ j m)) = true := by decide +kernel

section
variable (k : Int) (nm : List UInt8) (w : World)
theorem pur_rel {j m : Nat} (hj : ∀ x ∈ kF j, cmpI x.1 k x.2.1 = some x.2.2) (hm : ∀ x ∈ lF m, cmpI x.1 nm.length x.2.1 = some x.2.2) :
    letI : Sig := sigOf (plansIn plTbl) [.int .i64 k, str nm] (by simp [Value.oneCell', str]) w
    RelL (fun _ => none) (purA j m) [.agg [.int .i64 k, str nm].toArray] := by
  letI : Sig := sigOf (plansIn plTbl) [.int .i64 k, str nm] (by simp [Value.oneCell', str]) w
  refine RelL.cons (rel_agg (RelL.cons ?_ (RelL.cons ?_ (RelL.nil _)))) (RelL.nil _)
  · unfold Rel
    exact ⟨rfl, k, rfl, hj⟩
  · unfold Rel
    exact ⟨rfl, nm, rfl, hm⟩
theorem cmd_ret : Ret Tryz.prog 24 [.agg [.int .i64 k, str nm].toArray].toArray w fun v w' => (∃ L : List Value, L.length = 10 ∧ (∀ u ∈ L, u.oneCell' = true) ∧ v = .tuple #[.agg L.toArray, .int .i64 (if okP k nm.length = true then 0 else 2)]) ∧ Ext w w' := by
  obtain ⟨j, m, hj, hm, hjf, hmf, hok⟩ := kl_all k nm.length
  letI : Sig := sigOf (plansIn plTbl) [.int .i64 k, str nm] (by simp [Value.oneCell', str]) w
  have hrun := List.all_eq_true.1 (List.all_eq_true.1 cmd_runs j (List.mem_range.2 hj)) m (List.mem_range.2 hm)
  unfold errOf at hrun
  split at hrun
  · rename_i a e st' he
    split at hrun
    rotate_left
    · cases hrun
    rename_i hl10 ho
    refine ((base_ok _ _ _).call noE_ok 20000 _ _ _ _ _ he (fun _ => none) w _ (pur_rel k nm w hjf hmf) (Sat.begin w rfl)).mono ?_
    rintro V w' ⟨r', _, hV, _, hM⟩
    unfold Rel at hV
    obtain ⟨L, rfl, hL⟩ := hV
    obtain ⟨A, M, rfl, hA, hM1⟩ := hL.of_cons
    obtain ⟨K, rfl, hK⟩ := rel_g hA
    obtain ⟨B, M, rfl, hB, hM2⟩ := hM1.of_cons
    have := hM2.of_nil
    subst this
    have := rel_i hB
    subst this
    rw [intEq_eq] at hrun
    have hrun := of_decide_eq_true hrun
    refine ⟨⟨K, by rw [← hK.length]; exact Nat.eq_of_beq_eq_true hl10, ones_rel ho hK, ?_⟩, ⟨hM.os, hM.tape, hM.output, hM.size, fun k hk _ => hM.block k hk (Nat.not_le_of_lt hk)⟩⟩
    rw [hrun, hok]
    cases okJ j m <;> rfl
  · cases hrun
theorem doc_ret : Ret Tryz.prog 13 [.agg [.int .i64 k, str nm].toArray].toArray w fun v w' => (∃ L : List Value, L.length = 10 ∧ (∀ u ∈ L, u.oneCell' = true) ∧ v = .tuple #[.agg L.toArray, .bool (okP k nm.length)]) ∧ Ext w w' := by
  obtain ⟨j, m, hj, hm, hjf, hmf, hok⟩ := kl_all k nm.length
  letI : Sig := sigOf (plansIn plTbl) [.int .i64 k, str nm] (by simp [Value.oneCell', str]) w
  have hrun := List.all_eq_true.1 (List.all_eq_true.1 doc_runs j (List.mem_range.2 hj)) m (List.mem_range.2 hm)
  unfold isOf at hrun
  split at hrun
  · rename_i a x st' he
    have hh : Nat.beq a.length 10 = true ∧ ones a = true ∧ x = okJ j m := by
      revert hrun
      cases Nat.beq a.length 10 <;> cases ones a <;> cases x <;> cases okJ j m <;> simp
    obtain ⟨hl10, ho, rfl⟩ := hh
    refine ((base_ok _ _ _).call noE_ok 20000 _ _ _ _ _ he (fun _ => none) w _ (pur_rel k nm w hjf hmf) (Sat.begin w rfl)).mono ?_
    rintro V w' ⟨r', _, hV, _, hM⟩
    unfold Rel at hV
    obtain ⟨L, rfl, hL⟩ := hV
    obtain ⟨A, M, rfl, hA, hM1⟩ := hL.of_cons
    obtain ⟨K, rfl, hK⟩ := rel_g hA
    obtain ⟨B, M, rfl, hB, hM2⟩ := hM1.of_cons
    have := hM2.of_nil
    subst this
    have := rel_b hB
    subst this
    refine ⟨⟨K, by rw [← hK.length]; exact Nat.eq_of_beq_eq_true hl10, ones_rel ho hK, ?_⟩, ⟨hM.os, hM.tape, hM.output, hM.size, fun k hk _ => hM.block k hk (Nat.not_le_of_lt hk)⟩⟩
    rw [hok]
  · cases hrun
end
end Go.Proofs.YtgmokaflgdmekaaGreat.V
