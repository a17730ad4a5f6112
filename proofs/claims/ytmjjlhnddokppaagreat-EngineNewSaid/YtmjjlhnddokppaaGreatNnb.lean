/-
  What the law EngineNew computes. Condition: the numbers of the configuration are numbers of their types.
-/
import Derived.Test.YtmjjlhnddokppaaGreatNnf
import Derived.Test.YtmjjlhnddokppaaGreatKe
import Derived.Test.YtmjjlhnddokppaaGreatXt
namespace Go.Proofs.YtmjjlhnddokppaaGreat.engineNew
open Go.Proofs.YtmjjlhnddokppaaGreat.V

/-- What a number is compared with that lies in its bounds, below them, above them. -/
def okF (m : Int) : List (BinOp × Int × Bool) := [(.geq, 1, true), (.leq, m, true), (.lss, 1, false), (.gtr, m, false), (.lss, 0, false), (.leq, 0, false), (.eql, 0, false), (.neq, 0, true), (.gtr, 0, true), (.geq, 0, true)]
def lowF : List (BinOp × Int × Bool) := [(.geq, 1, false), (.lss, 1, true)]
def highF (m : Int) : List (BinOp × Int × Bool) := [(.geq, 1, true), (.leq, m, false), (.lss, 1, false), (.gtr, m, true)]
def okG : List (BinOp × Int × Bool) := [(.leq, 1099511627776, true), (.gtr, 1099511627776, false)]
def highG : List (BinOp × Int × Bool) := [(.leq, 1099511627776, false), (.gtr, 1099511627776, true)]
def seedF : List (BinOp × Int × Bool) := [(.geq, 0, true), (.lss, 18446744073709551616, true)]
theorem okF_spec {n m : Int} (h1 : ¬ n < 1) (h2 : ¬ m < n) : ∀ x ∈ okF m, cmpI x.1 n x.2.1 = some x.2.2 := by
  simp [okF, cmpI]; omega
theorem lowF_spec {n : Int} (h1 : n < 1) : ∀ x ∈ lowF, cmpI x.1 n x.2.1 = some x.2.2 := by
  simp [lowF, cmpI]; omega
theorem highF_spec {n m : Int} (h1 : ¬ n < 1) (h2 : m < n) : ∀ x ∈ highF m, cmpI x.1 n x.2.1 = some x.2.2 := by
  simp [highF, cmpI]; omega
theorem okG_spec {n : Int} (h : ¬ 1099511627776 < n) : ∀ x ∈ okG, cmpI x.1 n x.2.1 = some x.2.2 := by
  simp [okG, cmpI]; omega
theorem highG_spec {n : Int} (h : 1099511627776 < n) : ∀ x ∈ highG, cmpI x.1 n x.2.1 = some x.2.2 := by
  simp [highG, cmpI]; omega
theorem seedF_spec {n : Nat} (h : n < 18446744073709551616) : ∀ x ∈ seedF, cmpI x.1 (n : Int) x.2.1 = some x.2.2 := by
  simp [seedF, cmpI]; omega
theorem none_spec {n : Int} : ∀ x ∈ ([] : List (BinOp × Int × Bool)), cmpI x.1 n x.2.1 = some x.2.2 := by simp

abbrev FL := List (BinOp × Int × Bool)
def cfgA (f0 f1 f2 f3 f4 f5 : FL) : List AV := [.g [.oi 0 .i64 f0, .oi 1 .i64 f1, .oi 2 .i64 f2, .oi 3 .i64 f3, .oi 4 .i64 f4, .oi 5 .u64 f5, .oi 6 .u64 seedF]]
def newExt : CallA := orExt (extAt 9 [] (.b true)) (orExt (extTFind 395 6 7 [97]) extAll)
abbrev Goes (f0 f1 f2 f3 f4 f5 : FL) : Prop := runsTo Tryz.prog (plansIn plTbl) newExt 20000 3 (cfgA f0 f1 f2 f3 f4 f5) true = true
abbrev B0 : FL := okF 1099511627776
abbrev B1 : FL := okF 1048576
abbrev B2 : FL := okF 65536
theorem new_ok : Goes B0 B1 B2 B2 B2 okG := by decide +kernel
theorem new_g : Goes B0 B1 B2 B2 B2 highG := by decide +kernel
theorem new_l0 : Goes lowF [] [] [] [] [] := by decide +kernel
theorem new_h0 : Goes (highF 1099511627776) [] [] [] [] [] := by decide +kernel
theorem new_l1 : Goes B0 lowF [] [] [] [] := by decide +kernel
theorem new_h1 : Goes B0 (highF 1048576) [] [] [] [] := by decide +kernel
theorem new_l2 : Goes B0 B1 lowF [] [] [] := by decide +kernel
theorem new_h2 : Goes B0 B1 (highF 65536) [] [] [] := by decide +kernel
theorem new_l3 : Goes B0 B1 B2 lowF [] [] := by decide +kernel
theorem new_h3 : Goes B0 B1 B2 (highF 65536) [] [] := by decide +kernel
theorem new_l4 : Goes B0 B1 B2 B2 lowF [] := by decide +kernel
theorem new_h4 : Goes B0 B1 B2 B2 (highF 65536) [] := by decide +kernel

theorem new_ret (n0 n1 n2 n3 n4 g : Int) (s : Nat) (hs : s < 18446744073709551616) (w : World) :
    Ret Tryz.prog 3 [.agg [.int .i64 n0, .int .i64 n1, .int .i64 n2, .int .i64 n3, .int .i64 n4, .int .u64 g, .int .u64 s].toArray].toArray w fun V w' => V = .bool true ∧ Ext w w' := by
  letI : Sig := sigOf (plansIn plTbl) [.int .i64 n0, .int .i64 n1, .int .i64 n2, .int .i64 n3, .int .i64 n4, .int .u64 g, .int .u64 s, .int .i64 (sumF s [97] &&& 7 : Nat)] (by simp [Value.oneCell']) w
  have main : ∀ f0 f1 f2 f3 f4 f5 : FL, (∀ x ∈ f0, cmpI x.1 n0 x.2.1 = some x.2.2) → (∀ x ∈ f1, cmpI x.1 n1 x.2.1 = some x.2.2) → (∀ x ∈ f2, cmpI x.1 n2 x.2.1 = some x.2.2) → (∀ x ∈ f3, cmpI x.1 n3 x.2.1 = some x.2.2) → (∀ x ∈ f4, cmpI x.1 n4 x.2.1 = some x.2.2) → (∀ x ∈ f5, cmpI x.1 g x.2.1 = some x.2.2) →
      Goes f0 f1 f2 f3 f4 f5 → Ret Tryz.prog 3 [.agg [.int .i64 n0, .int .i64 n1, .int .i64 n2, .int .i64 n3, .int .i64 n4, .int .u64 g, .int .u64 s].toArray].toArray w fun V w' => V = .bool true ∧ Ext w w' := by
    intro f0 f1 f2 f3 f4 f5 h0 h1 h2 h3 h4 h5 hrun
    have hA : RelL (fun _ => none) (cfgA f0 f1 f2 f3 f4 f5) [.agg [.int .i64 n0, .int .i64 n1, .int .i64 n2, .int .i64 n3, .int .i64 n4, .int .u64 g, .int .u64 s].toArray] := by
      refine RelL.cons (rel_agg (RelL.cons ?_ (RelL.cons ?_ (RelL.cons ?_ (RelL.cons ?_ (RelL.cons ?_ (RelL.cons ?_ (RelL.cons ?_ (RelL.nil _))))))))) (RelL.nil _)
      · unfold Rel; exact ⟨rfl, n0, rfl, h0⟩
      · unfold Rel; exact ⟨rfl, n1, rfl, h1⟩
      · unfold Rel; exact ⟨rfl, n2, rfl, h2⟩
      · unfold Rel; exact ⟨rfl, n3, rfl, h3⟩
      · unfold Rel; exact ⟨rfl, n4, rfl, h4⟩
      · unfold Rel; exact ⟨rfl, g, rfl, h5⟩
      · unfold Rel; exact ⟨rfl, s, rfl, seedF_spec hs⟩
    exact run_bool (P := Tryz.prog) (plans := plansIn plTbl) (ext := newExt) (k := 20000) (args := cfgA f0 f1 f2 f3 f4 f5) (Args := [.agg [.int .i64 n0, .int .i64 n1, .int .i64 n2, .int .i64 n3, .int .i64 n4, .int .u64 g, .int .u64 s].toArray]) (w := w) (z := true) rfl (base_ok _ _ _)
      (orExt_ok (extTrue_ok engineNil.known_ret) (orExt_ok (extTFind_ok (s := s) hs rfl rfl (by decide) _) (extAll_ok _))) hA hrun
  by_cases a0 : n0 < 1
  · exact main _ _ _ _ _ _ (lowF_spec a0) none_spec none_spec none_spec none_spec none_spec new_l0
  by_cases b0 : 1099511627776 < n0
  · exact main _ _ _ _ _ _ (highF_spec a0 b0) none_spec none_spec none_spec none_spec none_spec new_h0
  by_cases a1 : n1 < 1
  · exact main _ _ _ _ _ _ (okF_spec a0 b0) (lowF_spec a1) none_spec none_spec none_spec none_spec new_l1
  by_cases b1 : 1048576 < n1
  · exact main _ _ _ _ _ _ (okF_spec a0 b0) (highF_spec a1 b1) none_spec none_spec none_spec none_spec new_h1
  by_cases a2 : n2 < 1
  · exact main _ _ _ _ _ _ (okF_spec a0 b0) (okF_spec a1 b1) (lowF_spec a2) none_spec none_spec none_spec new_l2
  by_cases b2 : 65536 < n2
  · exact main _ _ _ _ _ _ (okF_spec a0 b0) (okF_spec a1 b1) (highF_spec a2 b2) none_spec none_spec none_spec new_h2
  by_cases a3 : n3 < 1
  · exact main _ _ _ _ _ _ (okF_spec a0 b0) (okF_spec a1 b1) (okF_spec a2 b2) (lowF_spec a3) none_spec none_spec new_l3
  by_cases b3 : 65536 < n3
  · exact main _ _ _ _ _ _ (okF_spec a0 b0) (okF_spec a1 b1) (okF_spec a2 b2) (highF_spec a3 b3) none_spec none_spec new_h3
  by_cases a4 : n4 < 1
  · exact main _ _ _ _ _ _ (okF_spec a0 b0) (okF_spec a1 b1) (okF_spec a2 b2) (okF_spec a3 b3) (lowF_spec a4) none_spec new_l4
  by_cases b4 : 65536 < n4
  · exact main _ _ _ _ _ _ (okF_spec a0 b0) (okF_spec a1 b1) (okF_spec a2 b2) (okF_spec a3 b3) (highF_spec a4 b4) none_spec new_h4
  by_cases b5 : 1099511627776 < g
  · exact main _ _ _ _ _ _ (okF_spec a0 b0) (okF_spec a1 b1) (okF_spec a2 b2) (okF_spec a3 b3) (okF_spec a4 b4) (highG_spec b5) new_g
  · exact main _ _ _ _ _ _ (okF_spec a0 b0) (okF_spec a1 b1) (okF_spec a2 b2) (okF_spec a3 b3) (okF_spec a4 b4) (okG_spec b5) new_ok
end Go.Proofs.YtmjjlhnddokppaaGreat.engineNew
