/-
  What the law on the commands of purges computes. No condition.
-/
import Derived.Test.YtmhpkllajmepjaaGreatKn
import Derived.Test.YtmhpkllajmepjaaGreatFg
namespace Go.Proofs.YtmhpkllajmepjaaGreat.V

/-- The kinds of a purge, by what they are compared with. -/
def kF : Nat → List (BinOp × Int × Bool)
  | 1 => [(.eql, 1, true), (.eql, 2, false), (.eql, 3, false), (.eql, 4, false)]
  | 2 => [(.eql, 1, false), (.eql, 2, true), (.eql, 3, false), (.eql, 4, false)]
  | 3 => [(.eql, 1, false), (.eql, 2, false), (.eql, 3, true), (.eql, 4, false)]
  | 4 => [(.eql, 1, false), (.eql, 2, false), (.eql, 3, false), (.eql, 4, true)]
  | _ => [(.eql, 1, false), (.eql, 2, false), (.eql, 3, false), (.eql, 4, false)]
/-- The lengths of a name, by what they are compared with. -/
def lF : Nat → List (BinOp × Int × Bool)
  | 0 => [(.gtr, 300, false), (.gtr, 0, false), (.leq, 64, true), (.leq, 250, true), (.geq, 1, false), (.eql, 0, true)]
  | 1 => [(.gtr, 300, false), (.gtr, 0, true), (.leq, 64, true), (.leq, 250, true), (.geq, 1, true), (.eql, 0, false)]
  | 2 => [(.gtr, 300, false), (.gtr, 0, true), (.leq, 64, false), (.leq, 250, true), (.geq, 1, true), (.eql, 0, false)]
  | 3 => [(.gtr, 300, false), (.gtr, 0, true), (.leq, 64, false), (.leq, 250, false), (.geq, 1, true), (.eql, 0, false)]
  | _ => [(.gtr, 300, true), (.gtr, 0, true), (.leq, 64, false), (.leq, 250, false), (.geq, 1, true), (.eql, 0, false)]
theorem kF_all (k : Int) : ∃ j, (j < 5) ∧ ∀ x ∈ kF j, cmpI x.1 k x.2.1 = some x.2.2 := by
  by_cases h1 : k = 1
  · subst h1; exact ⟨1, by decide, by simp [kF, cmpI]⟩
  by_cases h2 : k = 2
  · subst h2; exact ⟨2, by decide, by simp [kF, cmpI]⟩
  by_cases h3 : k = 3
  · subst h3; exact ⟨3, by decide, by simp [kF, cmpI]⟩
  by_cases h4 : k = 4
  · subst h4; exact ⟨4, by decide, by simp [kF, cmpI]⟩
  exact ⟨0, by decide, by simp [kF, cmpI, h1, h2, h3, h4]⟩
theorem lF_all (n : Nat) : ∃ j, (j < 5) ∧ ∀ x ∈ lF j, cmpI x.1 n x.2.1 = some x.2.2 := by
  by_cases h0 : n = 0
  · subst h0; exact ⟨0, by decide, by simp [lF, cmpI]⟩
  by_cases h1 : n ≤ 64
  · exact ⟨1, by decide, by simp [lF, cmpI]; omega⟩
  by_cases h2 : n ≤ 250
  · exact ⟨2, by decide, by simp [lF, cmpI]; omega⟩
  by_cases h3 : n ≤ 300
  · exact ⟨3, by decide, by simp [lF, cmpI]; omega⟩
  · exact ⟨4, by decide, by simp [lF, cmpI]; omega⟩

def purA (j m : Nat) : List AV := [.g [.oi 0 .i64 (kF j), .os 1 (lF m)]]
def cmdExt : CallA := extAt 6 [] (.b true)
theorem cmds_run : ((List.range 5).all fun j => (List.range 5).all fun m => runsTo Tryz.prog (plansIn plTbl) cmdExt 20000 3 (purA j m) true) = true := by decide +kernel

theorem cmds_ret (k : Int) (nm : List UInt8) (w : World) : Ret Tryz.prog 3 #[.agg #[.int .i64 k, str nm]] w fun V w' => V = .bool true ∧ Ext w w' := by
  obtain ⟨j, hj, hjf⟩ := kF_all k
  obtain ⟨m, hm, hmf⟩ := lF_all nm.length
  letI : Sig := sigOf [.int .i64 k, str nm] (by simp [Value.oneCell', str]) w
  have hA : RelL (fun _ => none) (purA j m) [.agg [.int .i64 k, str nm].toArray] := by
    refine RelL.cons (rel_agg (RelL.cons ?_ (RelL.cons ?_ (RelL.nil _)))) (RelL.nil _)
    · unfold Rel
      exact ⟨rfl, k, rfl, hjf⟩
    · unfold Rel
      exact ⟨rfl, nm, rfl, hmf⟩
  have hrun := List.all_eq_true.1 (List.all_eq_true.1 cmds_run j (List.mem_range.2 hj)) m (List.mem_range.2 hm)
  exact run_bool (P := Tryz.prog) (plans := plansIn plTbl) (ext := cmdExt) (k := 20000) (args := purA j m) (Args := [.agg [.int .i64 k, str nm].toArray]) (w := w) (z := true) rfl mixed plans_ok (extTrue_ok known_ret) hA hrun
end Go.Proofs.YtmhpkllajmepjaaGreat.V
