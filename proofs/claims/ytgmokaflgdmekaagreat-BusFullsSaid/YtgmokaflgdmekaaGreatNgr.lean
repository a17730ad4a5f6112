/-
  What a new receiver makes of a first message and of one that is ahead, reckoned. No condition.
-/
import Derived.Test.YtgmokaflgdmekaaGreatNhf
namespace Go.Proofs.YtgmokaflgdmekaaGreat.busFulls
open Go.Proofs.YtgmokaflgdmekaaGreat.V

/-! ### The receiver's part, reckoned -/
def tagA : AV := .g [.i .i64 1, .s [116]]
def res (s : ST) : ST := ⟨.e, s.H, s.next, []⟩
/-- A new receiver, a first message, one that is ahead, up to where. -/
def chain (P : Program) (plans : Nat → Nat → Option Plan) (k f1 f2 f4 f7 : Nat) (n : Int) (b : Bool) (e : Int) : Bool := match evText P plans noE k f1 [] ⟨.e, .e, 0, []⟩ with
  | some (v1, s1) => match evText P plans noE k f2 [v1] (res s1) with
    | some (.t [.p pb po, .i .i64 (.ofNat 0)], s2) => match evText P plans noE k f4 [.p pb po, .i .u64 0, .i .i64 1, tagA, .b true, .i .i64 0] (res s2) with
      | some (.b true, s4) => match evText P plans noE k f4 [.p pb po, .i .u64 0, .i .i64 n, tagA, .b b, .i .i64 e] (res s4) with
        | some (.b true, s6) => match evText P plans noE k f7 [.p pb po] (res s6) with
          | some (.i .i64 (.ofNat 1), _) => true
          | _ => false
        | _ => false
      | _ => false
    | _ => false
  | none => false
theorem chain_spec {P : Program} {plans : Nat → Nat → Option Plan} {k f1 f2 f4 f7 : Nat} {n : Int} {b : Bool} {e : Int} (h : chain P plans k f1 f2 f4 f7 n b e = true) :
    ∃ v1 s1 pb po s2 s4 s6 s7, evText P plans noE k f1 [] ⟨.e, .e, 0, []⟩ = some (v1, s1) ∧ evText P plans noE k f2 [v1] (res s1) = some (.t [.p pb po, .i .i64 (.ofNat 0)], s2) ∧
      evText P plans noE k f4 [.p pb po, .i .u64 0, .i .i64 1, tagA, .b true, .i .i64 0] (res s2) = some (.b true, s4) ∧ evText P plans noE k f4 [.p pb po, .i .u64 0, .i .i64 n, tagA, .b b, .i .i64 e] (res s4) = some (.b true, s6) ∧
      evText P plans noE k f7 [.p pb po] (res s6) = some (.i .i64 (.ofNat 1), s7) := by
  unfold chain at h
  split at h
  · rename_i v1 s1 h1
    split at h
    · rename_i pb po s2 h2
      split at h
      · rename_i s4 h4
        split at h
        · rename_i s6 h6
          split at h
          · rename_i s7 h7
            exact ⟨v1, s1, pb, po, s2, s4, s6, s7, h1, h2, h4, h6, h7⟩
          · cases h
        · cases h
      · cases h
    · cases h
  · cases h
theorem run6a : chain Tryz.prog (plansIn plTbl) 20000 9 8 10 11 998 true 0 = true := by decide +kernel
theorem run6b : chain Tryz.prog (plansIn plTbl) 20000 9 8 10 11 999 true 0 = true := by decide +kernel
theorem run6c : chain Tryz.prog (plansIn plTbl) 20000 9 8 10 11 1000 true 0 = true := by decide +kernel
theorem run6d : chain Tryz.prog (plansIn plTbl) 20000 9 8 10 11 1001 true 0 = true := by decide +kernel
theorem run6e : chain Tryz.prog (plansIn plTbl) 20000 9 8 10 11 1002 false 3 = true := by decide +kernel
theorem run6f : chain Tryz.prog (plansIn plTbl) 20000 9 8 10 11 1003 false 3 = true := by decide +kernel
theorem run6 (n : Int) (h1 : 998 ≤ n) (h2 : n ≤ 1003) : chain Tryz.prog (plansIn plTbl) 20000 9 8 10 11 n (decide ((if 1001 < n then (3 : Int) else 0) = 0)) (if 1001 < n then 3 else 0) = true := by
  have h : n = 998 ∨ n = 999 ∨ n = 1000 ∨ n = 1001 ∨ n = 1002 ∨ n = 1003 := by omega
  rcases h with rfl | rfl | rfl | rfl | rfl | rfl
  · exact run6a
  · exact run6b
  · exact run6c
  · exact run6d
  · exact run6e
  · exact run6f
end Go.Proofs.YtgmokaflgdmekaaGreat.busFulls
