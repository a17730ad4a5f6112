/-
  What the law DumpNone computes. Condition: the numbers are not negative.
-/
import Derived.Test.YtbjomeonjlialaaGreatKn
import Derived.Test.YtbjomeonjlialaaGreatXt
import Derived.Test.YtbjomeonjlialaaGreatFg
namespace Go.Proofs.YtbjomeonjlialaaGreat.dumpNone
open Go.Proofs.YtbjomeonjlialaaGreat.V

def noneExt : CallA := orExt (extAt 6 [] (.b true)) extAll
abbrev Goes (l : List AV) : Prop := runsTo Tryz.prog (plansIn plTbl) noneExt 20000 3 l true = true
theorem none_more : Goes [.oi 0 .u8 [(.gtr, 2, true)], .oi 1 .u8 []] := by decide +kernel
theorem none_less : Goes [.oi 0 .u8 [(.gtr, 2, false)], .oi 1 .u8 [(.gtr, 8, true)]] := by decide +kernel
theorem none_all : ((List.range 3).all fun j => (List.range 9).all fun m => runsTo Tryz.prog (plansIn plTbl) noneExt 20000 3 [.i .u8 (.ofNat j), .i .u8 (.ofNat m)] true) = true := by decide +kernel

theorem none_ret (a b : Int) (ha : 0 ≤ a) (hb : 0 ≤ b) (w : World) : Ret Tryz.prog 3 [.int .u8 a, .int .u8 b].toArray w fun V w' => V = .bool true ∧ Ext w w' := by
  letI : Sig := sigOf (plansIn plTbl) [.int .u8 a, .int .u8 b] (by simp [Value.oneCell']) w
  have main : ∀ l : List AV, RelL (fun _ => none) l [.int .u8 a, .int .u8 b] → Goes l → Ret Tryz.prog 3 [.int .u8 a, .int .u8 b].toArray w fun V w' => V = .bool true ∧ Ext w w' :=
    fun l hA hrun => run_bool (P := Tryz.prog) (plans := plansIn plTbl) (ext := noneExt) (k := 20000) (args := l) (Args := [.int .u8 a, .int .u8 b]) (w := w) (z := true) rfl (base_ok _ _ _) (orExt_ok (extTrue_ok known_ret) (extAll_ok _)) hA hrun
  by_cases h1 : 2 < a
  · refine main _ (RelL.cons ?_ (RelL.cons ?_ (RelL.nil _))) none_more
    · unfold Rel; exact ⟨rfl, a, rfl, by simp [cmpI, h1]⟩
    · unfold Rel; exact ⟨rfl, b, rfl, by simp⟩
  by_cases h2 : 8 < b
  · refine main _ (RelL.cons ?_ (RelL.cons ?_ (RelL.nil _))) none_less
    · unfold Rel; exact ⟨rfl, a, rfl, by simp [cmpI]; omega⟩
    · unfold Rel; exact ⟨rfl, b, rfl, by simp [cmpI, h2]⟩
  obtain ⟨j, rfl⟩ : ∃ j : Nat, a = j := ⟨a.toNat, by omega⟩
  obtain ⟨m, rfl⟩ : ∃ m : Nat, b = m := ⟨b.toNat, by omega⟩
  have hrun := List.all_eq_true.1 (List.all_eq_true.1 none_all j (List.mem_range.2 (by omega))) m (List.mem_range.2 (by omega))
  exact main _ (RelL.cons (mk_i _ _) (RelL.cons (mk_i _ _) (RelL.nil _))) hrun
end Go.Proofs.YtbjomeonjlialaaGreat.dumpNone
