/-
  The plain law behind the full journal. No condition.
-/
import Derived.Test.YtahkglanddhncaaYn
namespace Go.Proofs.Ytahkglanddhncaa.V

/-- The record that is added again and again. -/
def flX : Nat × Cmd := (0, flushC)
/-- The journal of so many of them, were there no bound. -/
def jf : Nat → JS
  | 0 => zeroJ
  | k + 1 => plusJ (jf k) flX
theorem fl_can : canR flX = true := by decide +kernel
theorem fl_head : recHead flX = [0, 1, 14] := by decide +kernel
theorem fl_rec (s : Nat) : recJ s flX = [0, 1, 14] ++ sumB (foldN s [0, 1, 14]) := by rw [recJ_can fl_can, fl_head]
theorem fl_len (s : Nat) : (recJ s flX).length = 7 := by rw [fl_rec]; rfl
theorem jf_data (k : Nat) : (jf (k + 1)).data = (jf k).data ++ recJ (sumOf (jf k).data) flX := rfl
theorem jf_len : ∀ k, (jf k).data.length = 7 * k
  | 0 => rfl
  | k + 1 => by rw [jf_data, List.length_append, fl_len, jf_len k]; omega
theorem jf_ends : ∀ k, (jf k).ends.length = k
  | 0 => rfl
  | k + 1 => by show ((jf k).ends ++ [_]).length = _; rw [List.length_append, jf_ends k]; rfl
theorem jf_xs : ∀ k, (jf k).xs = List.replicate k flX
  | 0 => rfl
  | k + 1 => by show (jf k).xs ++ [flX] = _; rw [jf_xs k, List.replicate_succ']
theorem jf_xlen (k : Nat) : (jf k).xs.length = k := by rw [jf_xs, List.length_replicate]
theorem jf_four (k : Nat) : (jf k).data.length = 0 ∨ 4 ≤ (jf k).data.length := by rw [jf_len]; omega
theorem jf_full (k : Nat) (hk : k ≤ 5000) (r : List UInt8) (hr : r.length < 1000) : fullJ (jf k) r ↔ 4096 ≤ k := by
  unfold fullJ
  rw [jf_ends, jf_len]
  omega
theorem jf_err (k : Nat) (hk : k ≤ 5000) : errJ (jf k) flX = if k < 4096 then 0 else 7 := by
  have h1 := jf_full k hk (recJ (sumOf (jf k).data) flX) (by rw [fl_len]; omega)
  unfold errJ
  rw [if_neg (by rw [fl_len]; decide)]
  by_cases hk2 : k < 4096
  · rw [if_neg (fun h => by have := h1.1 h; omega), if_pos hk2]
  · rw [if_pos (h1.2 (by omega)), if_neg hk2]
theorem jf_add (k : Nat) (hk : k ≤ 5000) : addJ (jf (min k 4096)) flX = jf (min (k + 1) 4096) := by
  unfold addJ
  rw [jf_err _ (by omega)]
  by_cases hk2 : k < 4096
  · rw [Nat.min_eq_left (by omega), if_pos hk2, if_pos rfl, Nat.min_eq_left (by omega)]; rfl
  · rw [Nat.min_eq_right (by omega), if_neg (by decide), Nat.min_eq_right (by omega)]
theorem jf_sum (k : Nat) : sumOf (jf (k + 1)).data = foldN (sumOf (jf k).data) (recHead flX) := sumOf_plus fl_can
theorem jf_prefix {k n : Nat} (h : k ≤ n) : (jf k).data <+: (jf n).data := by
  induction h with
  | refl => exact List.prefix_refl _
  | step _ ih => rw [jf_data]; exact ih.trans (List.prefix_append _ _)
theorem jf_drop {k n : Nat} (h : k < n) : ∃ t, (jf n).data.drop (jf k).data.length = recJ (sumOf (jf k).data) flX ++ t := by
  obtain ⟨t, ht⟩ := jf_prefix (k := k + 1) (n := n) h
  refine ⟨t, ?_⟩
  rw [← ht, jf_data, List.append_assoc, List.drop_left]
theorem fl_next (s : Nat) (t : List UInt8) : nextJ (recJ s flX ++ t) = some flX := by
  rw [fl_rec]
  generalize foldN s [0, 1, 14] = z
  obtain ⟨a, b, c, d, he⟩ : ∃ a b c d, sumB z = [a, b, c, d] := ⟨_, _, _, _, rfl⟩
  rw [he]
  have h1 : getN ([0, 1, 14] ++ [a, b, c, d] ++ t) = (0, 1, 0) := rfl
  have h2 : ([0, 1, 14] ++ [a, b, c, d] ++ t).drop 1 = 1 :: 14 :: a :: b :: c :: d :: t := rfl
  have h3 : getN (1 :: 14 :: a :: b :: c :: d :: t) = (1, 1, 0) := rfl
  have h4 : readF (1 :: 14 :: a :: b :: c :: d :: t) = (14, [], 2, 0) := by
    unfold readF
    rw [h3]
    dsimp only
    rw [if_neg (by decide), if_neg (by decide), if_neg (by decide), if_neg (by simp)]
    rfl
  unfold nextJ
  rw [h1]
  dsimp only
  rw [h2, h4]
  rfl
theorem jf_step {k n : Nat} (h : k < n) (hk : k < 4096) : stepJ (jf n).data (jf k) = some (jf (k + 1)) := by
  obtain ⟨t, ht⟩ := jf_drop h
  refine stepJ_yes (x := flX) (by rw [ht]; exact fl_next _ _) ⟨by rw [jf_err k (by omega), if_pos hk], ?_⟩
  rw [ht]
  exact List.prefix_append _ _
theorem jf_steps (n : Nat) : ∀ k, k ≤ n → k ≤ 4096 → Steps (jf n).data zeroJ (jf k)
  | 0, _, _ => .refl _
  | k + 1, h, h' => .step (jf_steps n k (by omega) (by omega)) (jf_step (by omega) (by omega))
theorem jf_stop (n : Nat) : stepJ (jf n).data (jf (min n 4096)) = none := by
  by_cases h : n ≤ 4096
  · rw [Nat.min_eq_left h]
    refine stepJ_next ?_
    rw [List.drop_length]
    rfl
  · rw [Nat.min_eq_right (by omega)]
    exact stepJ_full (by rw [jf_ends]; exact Nat.le_refl _)
theorem get_can : canR (0, getC) = true := by decide +kernel
theorem get_len (s : Nat) : (recJ s (0, getC)).length = 9 := by
  rw [recJ_can get_can, List.length_append]
  have : (recHead (0, getC)).length = 5 := by decide +kernel
  rw [this]
  rfl
theorem jf_errG (k : Nat) (hk : k ≤ 5000) : errJ (jf k) (0, getC) = if k < 4096 then 0 else 7 := by
  have h1 := jf_full k hk (recJ (sumOf (jf k).data) (0, getC)) (by rw [get_len]; omega)
  unfold errJ
  rw [if_neg (by rw [get_len]; decide)]
  by_cases hk2 : k < 4096
  · rw [if_neg (fun h => by have := h1.1 h; omega), if_pos hk2]
  · rw [if_pos (h1.2 (by omega)), if_neg hk2]
end Go.Proofs.Ytahkglanddhncaa.V
