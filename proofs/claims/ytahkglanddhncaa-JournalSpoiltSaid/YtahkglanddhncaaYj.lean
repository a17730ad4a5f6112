/-
  The plain facts behind the law's examples. No condition.
-/
import Derived.Test.YtahkglanddhncaaYi
namespace Go.Proofs.Ytahkglanddhncaa.V

def getC : Cmd := ⟨4, [97], [], [], [], 0, 0, [], [], []⟩
def flushC : Cmd := bare 14
def wantL : List (Nat × Cmd) := [(5, getC), (300, flushC)]
def exJ1 : JS := plusJ zeroJ (5, getC)
def exJ2 : JS := plusJ exJ1 (300, flushC)
theorem ex_e1 : errJ zeroJ (5, getC) = 0 := by decide +kernel
theorem ex_e2 : errJ exJ1 (5, bare 0) = 2 := by decide +kernel
theorem ex_e3 : errJ exJ1 (300, flushC) = 0 := by decide +kernel
theorem ex_a1 : addJ zeroJ (5, getC) = exJ1 := by unfold addJ; rw [if_pos ex_e1]; rfl
theorem ex_a2 : addJ exJ1 (5, bare 0) = exJ1 := by unfold addJ; rw [if_neg (by rw [ex_e2]; decide)]
theorem ex_a3 : addJ exJ1 (300, flushC) = exJ2 := by unfold addJ; rw [if_pos ex_e3]; rfl
theorem ex_xs : exJ2.xs = wantL := rfl
theorem ex_xs1 : exJ1.xs = [(5, getC)] := rfl
theorem ex_ok : ∀ x ∈ exJ2.xs, OkC x.2 := by
  intro x hx
  rw [ex_xs] at hx
  simp [wantL] at hx
  rcases hx with rfl | rfl
  · exact ⟨by decide, by decide, by decide, by decide, by decide, by decide⟩
  · exact ⟨by decide, by decide, by decide, by decide, by decide, by decide⟩
theorem ex_len : exJ2.data.length = 17 := by decide +kernel
theorem ex_ends : exJ2.ends = [9, 17] := by decide +kernel
theorem ex_len1 : exJ1.data.length = 9 := by decide +kernel
theorem ex_ends1 : exJ1.ends = [9] := by decide +kernel
theorem ex_rec : (recAt exJ2 0).length = 9 ∧ (recAt exJ2 0).take 5 = [5, 3, 4, 1, 97] := by decide +kernel
def okStep (l : List UInt8) (j k : JS) : Bool :=
  match stepJ l j with
  | some m => decide (m.data = k.data) && decide (m.ends = k.ends) && decide (m.xs = k.xs)
  | none => false
theorem okStep_eq {l : List UInt8} {j k : JS} (h : okStep l j k = true) : stepJ l j = some k := by
  unfold okStep at h
  split at h
  · rename_i m hm
    rw [hm]
    obtain ⟨a, b, c⟩ := m
    obtain ⟨a', b', c'⟩ := k
    simp at h
    obtain ⟨⟨rfl, rfl⟩, rfl⟩ := h
    rfl
  · cases h
theorem ex_s1 : stepJ exJ2.data zeroJ = some exJ1 := okStep_eq (by decide +kernel)
theorem ex_s2 : stepJ exJ2.data exJ1 = some exJ2 := okStep_eq (by decide +kernel)
theorem ex_s3 : (stepJ exJ2.data exJ2).isNone = true := by decide +kernel
theorem ex_t1 : stepJ (exJ2.data.take 16) zeroJ = some exJ1 := okStep_eq (by decide +kernel)
theorem ex_t2 : (stepJ (exJ2.data.take 16) exJ1).isNone = true := by decide +kernel
theorem ex_n : (stepJ [] zeroJ).isNone = true := by decide +kernel
end Go.Proofs.Ytahkglanddhncaa.V
