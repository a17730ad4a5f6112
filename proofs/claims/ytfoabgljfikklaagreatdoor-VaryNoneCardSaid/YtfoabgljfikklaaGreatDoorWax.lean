/-
  What slices.Values hands out and slices.AppendSeq gathers, on strings. Conditions: the slice lies below what is new, and is short; and what follows from it.
-/
import Derived.Test.YtfoabgljfikklaaGreatDoorWaw
import Derived.RangeFuncBox
import Derived.RangeFuncLeaves
import Derived.RangeFuncWrites
import Derived.RangeFuncFrom
import Derived.Shelf.Abstract
import Derived.WalkKit
import Derived.OwnWalkIn
import Derived.TacticsInMore
import Derived.LoopNIn
import Derived.LoopIn
import Derived.Test.YtfoabgljfikklaaGreatDoorWae
import Derived.Shelf.SortM.Plain
import Derived.Shelf.SortM.SortNone
import Derived.Test.YtfoabgljfikklaaGreatDoorWas
import Derived.Sort.OwnSorted
set_option linter.unusedVariables false
set_option linter.unusedSimpArgs false
namespace Go.Proofs.YtfoabgljfikklaaGreatDoor.V.Ky
open Go.RowKit Go.Shelf
attribute [local irreducible] GX GO
attribute [local go_sem] Oper.semAt_some
def numV : Value → Int
  | .int _ x => x
  | _ => 0
def upto {α : Type} (f : Nat → α) (k : Nat) : List α := (List.range k).map f
theorem upto_succ {α : Type} (f : Nat → α) (k : Nat) : upto f (k + 1) = upto f k ++ [f k] := by simp [upto, List.range_succ]
theorem upto_length {α : Type} (f : Nat → α) (k : Nat) : (upto f k).length = k := by simp [upto]
theorem upto_all (zs : List Bs) : upto (fun j => zs[j]?.getD []) zs.length = zs := by
  apply List.ext_getElem
  · simp [upto]
  · intro i h1 h2
    simp [upto, h2]
theorem upto_take (zs : List Bs) {k : Nat} (hk : k ≤ zs.length) : upto (fun j => zs[j]?.getD []) k = zs.take k := by
  apply List.ext_getElem
  · simp [upto, hk]
  · intro i h1 h2
    have : i < zs.length := by simp [upto] at h1; omega
    simp [upto, this]
set_option maxRecDepth 100000 in
set_option maxHeartbeats 2000000 in
theorem values1_in (F : Fence) (n : Nat) (h7 : F.fn 61) (hro : F.round = none) (hn : 1 ≤ n) (l Bs' n₀ b off len cap : Nat) (zs : List Bs) (hreach : len * 16 ≤ 140737488351232) (hb : b < n₀) (J Jx : List Bs → World → Prop)
    (hY : ∀ pre x W, J pre W → pre.length < len → YieldAt F (n - 1) Tryz.prog l #[str x] W fun e W' =>
      (e = .returned (.bool true) ∧ J (pre ++ [x]) W' ∧ Below n₀ W W') ∨ (e = .returned (.bool false) ∧ Jx (pre ++ [x]) W'))
    (W : World) (hBs : W.cell? ⟨Bs', 0, none⟩ = some (.slice (some ⟨b, off, none⟩) len cap)) (hc : ∀ j, j < len → W.cell? ⟨b, off + j, none⟩ = some (str (zs[j]?.getD []))) (h0 : J [] W) :
    CallsIn F n Tryz.prog 61 #[.func (.yield l) #[] #[], .pointer (some ⟨Bs', 0, none⟩)] W fun e W' => (∃ v, e = .returned v) ∧
      ((∃ ys, ys = upto (fun j => zs[j]?.getD []) len ∧ J ys W') ∨ (∃ pre, (∃ k, k ≤ len ∧ pre = upto (fun j => zs[j]?.getD []) k) ∧ Jx pre W')) := by
  refine callsIn_of_wp Tryz.func61 rfl h7 ?_ hro
  simp only [Tryz.ntmps61, List.size_toArray, List.length_cons, List.length_nil, Nat.reduceAdd, Nat.reduceSub, Array.replicate_succ, Array.replicate_zero, List.push_toArray, List.append_toArray, List.nil_append, List.cons_append]
  gi_wp2
  gi_loopw [7] (fun i wr => ∃ k : Nat, k ≤ len ∧ i = .int .i64 k ∧ J (upto (fun j => zs[j]?.getD []) k) wr ∧ Below n₀ W wr)
    (fun i _ => len - (numV i).toNat)
  case atStart => exact ⟨0, Nat.zero_le _, rfl, h0, Below.refl _ _⟩
  case round =>
    obtain ⟨k, hk, rfl, hJs, hnx⟩ := hrel
    have hcx : k < len → wr.cell? ⟨b, off + k, none⟩ = some (str (zs[k]?.getD [])) := fun h => (hnx.cell (p := ⟨b, off + k, none⟩) hb).trans (hc k h)
    by_cases hlt : k < len
    · obtain ⟨fn, tmps, assign, body, hy, hR⟩ := hY _ (zs[k]?.getD []) wr hJs (by rw [upto_length]; exact hlt)
      have hcx' := hcx hlt
      gi_wp2
      refine hR.mono ?_
      rintro e W3 (⟨rfl, hJ3, hk3⟩ | ⟨rfl, hJx3⟩)
      · gi_wp2
        go_roundw
        case rel => exact ⟨k + 1, by omega, by simp, by rw [upto_succ]; exact hJ3, hnx.trans hk3⟩
        case measure => simp [numV]; omega
      · gi_wp2
        refine bodyPost_ret (results_none rfl _ _ _) rfl ?_
        exact ⟨⟨_, rfl⟩, .inr ⟨_, ⟨k + 1, by omega, (upto_succ _ _).symm⟩, hJx3⟩⟩
    · obtain rfl : k = len := by omega
      gi_wp2
      go_end0
      exact ⟨⟨_, rfl⟩, .inl ⟨_, rfl, hJs⟩⟩
set_option maxRecDepth 100000 in
set_option maxHeartbeats 1000000 in
theorem values1_nil_in (F : Fence) (n : Nat) (h7 : F.fn 61) (hro : F.round = none) (l Bs' cap : Nat) (a : Option Addr) (J : List Bs → World → Prop) (W : World) (hBs : W.cell? ⟨Bs', 0, none⟩ = some (.slice a 0 cap)) (h0 : J [] W) :
    CallsIn F n Tryz.prog 61 #[.func (.yield l) #[] #[], .pointer (some ⟨Bs', 0, none⟩)] W fun e W' => (∃ v, e = .returned v) ∧ J [] W' := by
  refine callsIn_of_wp Tryz.func61 rfl h7 ?_ hro
  simp only [Tryz.ntmps61, List.size_toArray, List.length_cons, List.length_nil, Nat.reduceAdd, Nat.reduceSub, Array.replicate_succ, Array.replicate_zero, List.push_toArray, List.append_toArray, List.nil_append, List.cons_append]
  gi_wp2
  gi_loopw [7] (fun i wr => i = .int .i64 0 ∧ J [] wr) (fun _ _ => 0)
  case atStart => exact ⟨rfl, h0⟩
  case round =>
    obtain ⟨rfl, hJs⟩ := hrel
    gi_wp2
    go_end0
    exact ⟨⟨_, rfl⟩, hJs⟩
def StrIn (n₀ : Nat) (W : World) (a : Option Addr) (zs : List Bs) : Prop :=
  zs = [] ∨ ∃ b off, a = some ⟨b, off, none⟩ ∧ b < n₀ ∧ ∀ j, j < zs.length → W.cell? ⟨b, off + j, none⟩ = some (str (zs[j]?.getD []))
theorem StrIn.below {n₀ : Nat} {A B : World} (h : Below n₀ A B) {a : Option Addr} {zs : List Bs} : StrIn n₀ A a zs → StrIn n₀ B a zs
  | .inl e => .inl e
  | .inr ⟨b, off, e, hb, hc⟩ => .inr ⟨b, off, e, hb, fun j hj => (h.cell (p := ⟨b, off + j, none⟩) hb).trans (hc j hj)⟩
theorem values_stops (F : Fence) (n : Nat) (h7 : F.fn 61) (hro : F.round = none) (hn : 1 ≤ n) (Bs' n₀ cap : Nat) (a : Option Addr) (zs : List Bs) (hreach : zs.length * 16 ≤ 140737488351232) (w : World) (hBs : Bs' < w.heap.size) (hn₀ : n₀ ≤ w.heap.size)
    (hc : w.cell? ⟨Bs', 0, none⟩ = some (.slice a zs.length cap)) (hI : StrIn n₀ w a zs) :
    SeqStopsK F n Tryz.prog 61 #[.pointer (some ⟨Bs', 0, none⟩)] (fun x : Bs => #[str x]) (Below n₀) (fun ys => ys = zs) (fun pre => pre <+: zs) zs.length w := fun l J Jx W hW _ _ hY h0 => by
  have hc' := (hW.cell (p := ⟨Bs', 0, none⟩) hBs).trans hc
  rcases hI.below (hW.mono hn₀) with rfl | ⟨b, off, rfl, hb, hcs⟩
  · exact (values1_nil_in F n h7 hro l Bs' cap a J W hc' h0).mono fun e W' ⟨he, hj⟩ => ⟨he, .inl ⟨_, rfl, hj⟩⟩
  · refine (values1_in F n h7 hro hn l Bs' n₀ b off zs.length cap zs hreach hb J Jx hY W hc' hcs h0).mono ?_
    rintro e W' ⟨he, ⟨ys, rfl, hj⟩ | ⟨pre, ⟨k, hk, rfl⟩, hj⟩⟩
    · exact ⟨he, .inl ⟨_, upto_all zs, hj⟩⟩
    · exact ⟨he, .inr ⟨_, by rw [upto_take zs hk]; exact List.take_prefix _ _, hj⟩⟩
end Go.Proofs.YtfoabgljfikklaaGreatDoor.V.Ky
namespace Go.Proofs.YtfoabgljfikklaaGreatDoor.V
open Go.Shelf
theorem zero_atx {P : Program} {t : TypeId} {z : Value} (h : (P.info? t).bind (·.zero) = some z) (w : World) : (zeroValue t).run P w = .ok z w := by
  cases hi : P.info? t with
  | none => rw [hi] at h; cases h
  | some i =>
    rw [hi] at h
    have hz : i.zero = some z := h
    simp [zeroValue, typeInfo, hi, hz]
def sortRenx : Ren := ⟨fun | 6 => 60 | 8 => 93 | 9 => 92 | 19 => 159 | 20 => 160 | 21 => 150 | 22 => 151 | 23 => 152 | 24 => 153 | 25 => 154 | 26 => 155 | 27 => 156 | 28 => 157 | 29 => 158 | 31 => 237 | 32 => 238 | 36 => 236 | 37 => 239 | 38 => 240 | 39 => 203 | 41 => 315 | _ => 0, fun | 0 => 0 | 3 => 3 | 4 => 4 | 5 => 5 | 9 => 9 | 26 => 22 | 27 => 22 | 29 => 9 | 32 => 162 | 35 => 254 | 36 => 255 | 41 => 259 | 44 => 262 | 46 => 30 | 53 => 358 | 57 => 361 | 63 => 415 | 64 => 288 | _ => 0, fun _ => 0⟩
theorem sortRenx_f6 : Bears Tryz.prog 60 (SlBodyM.n6 sortRenx) := ⟨"slices.Sort[[]string,string]", by decide, by kernel_rfl⟩
theorem sortRenx_f8 : (Tryz.prog).funcs[93]? = some (SlBodyM.n8 sortRenx) := by kernel_rfl
theorem sortRenx_f9 : Bears Tryz.prog 92 (SlBodyM.n9 sortRenx) := ⟨"slices.pdqsortOrdered[string]", by decide, by kernel_rfl⟩
theorem sortRenx_f19 : (Tryz.prog).funcs[159]? = some (SlBodyM.n19 sortRenx) := by kernel_rfl
theorem sortRenx_f20 : (Tryz.prog).funcs[160]? = some (SlBodyM.n20 sortRenx) := by kernel_rfl
theorem sortRenx_f21 : Bears Tryz.prog 150 (SlBodyM.n21 sortRenx) := ⟨"slices.insertionSortOrdered[string]", by decide, by kernel_rfl⟩
theorem sortRenx_f22 : Bears Tryz.prog 151 (SlBodyM.n22 sortRenx) := ⟨"slices.heapSortOrdered[string]", by decide, by kernel_rfl⟩
theorem sortRenx_f23 : Bears Tryz.prog 152 (SlBodyM.n23 sortRenx) := ⟨"slices.breakPatternsOrdered[string]", by decide, by kernel_rfl⟩
theorem sortRenx_f24 : Bears Tryz.prog 153 (SlBodyM.n24 sortRenx) := ⟨"slices.choosePivotOrdered[string]", by decide, by kernel_rfl⟩
theorem sortRenx_f25 : Bears Tryz.prog 154 (SlBodyM.n25 sortRenx) := ⟨"slices.reverseRangeOrdered[string]", by decide, by kernel_rfl⟩
theorem sortRenx_f26 : Bears Tryz.prog 155 (SlBodyM.n26 sortRenx) := ⟨"slices.partialInsertionSortOrdered[string]", by decide, by kernel_rfl⟩
theorem sortRenx_f27 : Bears Tryz.prog 156 (SlBodyM.n27 sortRenx) := ⟨"cmp.Less[string]", by decide, by kernel_rfl⟩
theorem sortRenx_f28 : Bears Tryz.prog 157 (SlBodyM.n28 sortRenx) := ⟨"slices.partitionEqualOrdered[string]", by decide, by kernel_rfl⟩
theorem sortRenx_f29 : Bears Tryz.prog 158 (SlBodyM.n29 sortRenx) := ⟨"slices.partitionOrdered[string]", by decide, by kernel_rfl⟩
theorem sortRenx_f31 : (Tryz.prog).funcs[237]? = some (SlBodyM.n31 sortRenx) := by kernel_rfl
theorem sortRenx_f32 : (Tryz.prog).funcs[238]? = some (SlBodyM.n32 sortRenx) := by kernel_rfl
theorem sortRenx_f36 : Bears Tryz.prog 236 (SlBodyM.n36 sortRenx) := ⟨"slices.siftDownOrdered[string]", by decide, by kernel_rfl⟩
theorem sortRenx_f37 : Bears Tryz.prog 239 (SlBodyM.n37 sortRenx) := ⟨"slices.medianAdjacentOrdered[string]", by decide, by kernel_rfl⟩
theorem sortRenx_f38 : Bears Tryz.prog 240 (SlBodyM.n38 sortRenx) := ⟨"slices.medianOrdered[string]", by decide, by kernel_rfl⟩
theorem sortRenx_f39 : Bears Tryz.prog 203 (SlBodyM.n39 sortRenx) := ⟨"cmp.isNaN[string]", by decide, by kernel_rfl⟩
theorem sortRenx_f41 : Bears Tryz.prog 315 (SlBodyM.n41 sortRenx) := ⟨"slices.order2Ordered[string]", by decide, by kernel_rfl⟩
theorem lay_xa0 : tyB Tryz.prog 0 = some (false, 1) := by kernel_rfl
theorem lay_xv0 : ((Tryz.prog).info? 0).bind (·.zero) = some ((Value.tuple #[])) := by kernel_rfl
theorem lay_xa1 : tyB Tryz.prog 3 = some (false, 1) := by kernel_rfl
theorem lay_xv1 : ((Tryz.prog).info? 3).bind (·.zero) = some ((Value.int IntKind.i64 0)) := by kernel_rfl
theorem lay_xa2 : tyB Tryz.prog 4 = some (false, 1) := by kernel_rfl
theorem lay_xv2 : ((Tryz.prog).info? 4).bind (·.zero) = some ((Value.bool false)) := by kernel_rfl
theorem lay_xa3 : tyB Tryz.prog 5 = some (false, 1) := by kernel_rfl
theorem lay_xv3 : ((Tryz.prog).info? 5).bind (·.zero) = some ((Value.int IntKind.u8 0)) := by kernel_rfl
theorem lay_xa4 : tyB Tryz.prog 9 = some (false, 1) := by kernel_rfl
theorem lay_xv4 : ((Tryz.prog).info? 9).bind (·.zero) = some ((Value.string { data := #[] })) := by kernel_rfl
theorem lay_xa5 : tyB Tryz.prog 22 = some (false, 1) := by kernel_rfl
theorem lay_xv5 : ((Tryz.prog).info? 22).bind (·.zero) = some ((Value.slice none 0 0)) := by kernel_rfl
theorem lay_xa6 : tyB Tryz.prog 162 = some (false, 1) := by kernel_rfl
theorem lay_xv6 : ((Tryz.prog).info? 162).bind (·.zero) = some ((Value.int IntKind.u64 0)) := by kernel_rfl
theorem lay_xa7 : tyB Tryz.prog 254 = some (false, 1) := by kernel_rfl
theorem lay_xv7 : ((Tryz.prog).info? 254).bind (·.zero) = some ((Value.int IntKind.i64 0)) := by kernel_rfl
theorem lay_xa8 : tyB Tryz.prog 255 = some (false, 1) := by kernel_rfl
theorem lay_xv8 : ((Tryz.prog).info? 255).bind (·.zero) = some ((Value.tuple #[Value.int IntKind.i64 0, Value.int IntKind.i64 0])) := by kernel_rfl
theorem lay_xa9 : tyB Tryz.prog 259 = some (false, 1) := by kernel_rfl
theorem lay_xv9 : ((Tryz.prog).info? 259).bind (·.zero) = some ((Value.tuple #[Value.int IntKind.i64 0, Value.bool false])) := by kernel_rfl
theorem lay_xa10 : tyB Tryz.prog 262 = some (false, 1) := by kernel_rfl
theorem lay_xv10 : ((Tryz.prog).info? 262).bind (·.zero) = some ((Value.int IntKind.u32 0)) := by kernel_rfl
theorem lay_xa11 : tyB Tryz.prog 30 = some (false, 1) := by kernel_rfl
theorem lay_xv11 : ((Tryz.prog).info? 30).bind (·.zero) = some ((Value.int IntKind.u64 0)) := by kernel_rfl
theorem lay_xa12 : tyB Tryz.prog 358 = some (false, 1) := by kernel_rfl
theorem lay_xv12 : ((Tryz.prog).info? 358).bind (·.zero) = some ((Value.int IntKind.u64 0)) := by kernel_rfl
theorem lay_xa13 : tyB Tryz.prog 361 = some (false, 1) := by kernel_rfl
theorem lay_xv13 : ((Tryz.prog).info? 361).bind (·.zero) = some ((Value.pointer none)) := by kernel_rfl
theorem lay_xa14 : tyB Tryz.prog 415 = some (false, 1) := by kernel_rfl
theorem lay_xv14 : ((Tryz.prog).info? 415).bind (·.zero) = some ((Value.pointer none)) := by kernel_rfl
theorem lay_xa15 : tyB Tryz.prog 288 = some (false, 1) := by kernel_rfl
theorem lay_xv15 : ((Tryz.prog).info? 288).bind (·.zero) = some ((Value.tuple #[Value.int IntKind.i64 0, Value.int IntKind.i64 0])) := by kernel_rfl
theorem sortRenx_lays : SlLaysM.n6 Tryz.prog sortRenx := { mixed := by kernel_rfl, f6 := sortRenx_f6, f8 := sortRenx_f8, f9 := sortRenx_f9, f19 := sortRenx_f19, f20 := sortRenx_f20, f21 := sortRenx_f21, f22 := sortRenx_f22, f23 := sortRenx_f23, f24 := sortRenx_f24, f25 := sortRenx_f25, f26 := sortRenx_f26, f27 := sortRenx_f27, f28 := sortRenx_f28, f29 := sortRenx_f29, f31 := sortRenx_f31, f32 := sortRenx_f32, f36 := sortRenx_f36, f37 := sortRenx_f37, f38 := sortRenx_f38, f39 := sortRenx_f39, f41 := sortRenx_f41, t0 := by kernel_rfl, a0 := fun w => (TyF.mk lay_xa0).isAgg w, z0 := fun w => (TyF.mk lay_xa0).sizeOf w, v0 := zero_atx lay_xv0, t3 := by kernel_rfl, a3 := fun w => (TyF.mk lay_xa1).isAgg w, z3 := fun w => (TyF.mk lay_xa1).sizeOf w, v3 := zero_atx lay_xv1, t4 := by kernel_rfl, a4 := fun w => (TyF.mk lay_xa2).isAgg w, z4 := fun w => (TyF.mk lay_xa2).sizeOf w, v4 := zero_atx lay_xv2, t5 := by kernel_rfl, a5 := fun w => (TyF.mk lay_xa3).isAgg w, z5 := fun w => (TyF.mk lay_xa3).sizeOf w, v5 := zero_atx lay_xv3, t9 := by kernel_rfl, a9 := fun w => (TyF.mk lay_xa4).isAgg w, z9 := fun w => (TyF.mk lay_xa4).sizeOf w, v9 := zero_atx lay_xv4, t26 := by kernel_rfl, a26 := fun w => (TyF.mk lay_xa5).isAgg w, z26 := fun w => (TyF.mk lay_xa5).sizeOf w, v26 := zero_atx lay_xv5, t27 := by kernel_rfl, a27 := fun w => (TyF.mk lay_xa5).isAgg w, z27 := fun w => (TyF.mk lay_xa5).sizeOf w, v27 := zero_atx lay_xv5, t29 := by kernel_rfl, a29 := fun w => (TyF.mk lay_xa4).isAgg w, z29 := fun w => (TyF.mk lay_xa4).sizeOf w, v29 := zero_atx lay_xv4, t32 := by kernel_rfl, a32 := fun w => (TyF.mk lay_xa6).isAgg w, z32 := fun w => (TyF.mk lay_xa6).sizeOf w, v32 := zero_atx lay_xv6, t35 := by kernel_rfl, a35 := fun w => (TyF.mk lay_xa7).isAgg w, z35 := fun w => (TyF.mk lay_xa7).sizeOf w, v35 := zero_atx lay_xv7, t36 := by kernel_rfl, a36 := fun w => (TyF.mk lay_xa8).isAgg w, z36 := fun w => (TyF.mk lay_xa8).sizeOf w, v36 := zero_atx lay_xv8, t41 := by kernel_rfl, a41 := fun w => (TyF.mk lay_xa9).isAgg w, z41 := fun w => (TyF.mk lay_xa9).sizeOf w, v41 := zero_atx lay_xv9, t44 := by kernel_rfl, a44 := fun w => (TyF.mk lay_xa10).isAgg w, z44 := fun w => (TyF.mk lay_xa10).sizeOf w, v44 := zero_atx lay_xv10, t46 := by kernel_rfl, a46 := fun w => (TyF.mk lay_xa11).isAgg w, z46 := fun w => (TyF.mk lay_xa11).sizeOf w, v46 := zero_atx lay_xv11, t53 := by kernel_rfl, a53 := fun w => (TyF.mk lay_xa12).isAgg w, z53 := fun w => (TyF.mk lay_xa12).sizeOf w, v53 := zero_atx lay_xv12, t57 := by kernel_rfl, a57 := fun w => (TyF.mk lay_xa13).isAgg w, z57 := fun w => (TyF.mk lay_xa13).sizeOf w, v57 := zero_atx lay_xv13, t63 := by kernel_rfl, a63 := fun w => (TyF.mk lay_xa14).isAgg w, z63 := fun w => (TyF.mk lay_xa14).sizeOf w, v63 := zero_atx lay_xv14, t64 := by kernel_rfl, a64 := fun w => (TyF.mk lay_xa15).isAgg w, z64 := fun w => (TyF.mk lay_xa15).sizeOf w, v64 := zero_atx lay_xv15 }
end Go.Proofs.YtfoabgljfikklaaGreatDoor.V
namespace Go.Proofs.YtfoabgljfikklaaGreatDoor.V.Ky
attribute [local irreducible] GX GO
theorem sortF_length (l : List Bs) : (sortF l).length = l.length := (sortF_perm l).length_eq
theorem strsV_oneC (l : List Bs) : ∀ u ∈ strsV l, u.oneCell' = true := by
  intro u hu
  simp only [strsV, List.mem_map] at hu
  obtain ⟨x, _, rfl⟩ := hu
  rfl
end Go.Proofs.YtfoabgljfikklaaGreatDoor.V.Ky
namespace Go.Proofs.YtfoabgljfikklaaGreatDoor.V.Ky
attribute [local irreducible] GX GO
theorem body_take (l : List Attr) {s : List Bs} {i : Nat} (h : i < s.length) : bodyF l (s.take (i + 1)) = bodyF l (s.take i) ++ (if 0 < i then [38] else []) ++ part l s[i] := by
  cases s with
  | nil => cases h
  | cons x r =>
    cases i with
    | zero => simp [bodyF, tailF]
    | succ i =>
      have h' : i < r.length := by simpa using h
      show part l x ++ tailF l (r.take (i + 1)) = part l x ++ tailF l (r.take i) ++ (if 0 < i + 1 then [38] else []) ++ part l r[i]
      rw [List.take_succ_eq_append_getElem h', tail_append, if_pos (by omega)]
      simp [tailF]
theorem val_len {l : List Attr} (h : ∀ x ∈ l, x.2.length ≤ 100) (n : Bs) : (valOf l n).length ≤ 301 := by
  unfold valOf
  split
  · rename_i a ha
    have h1 := escF_len a.2
    have h2 := h a (List.mem_of_find?_eq_some ha)
    simp only [List.length_cons]; omega
  · simp
theorem tail_len {l : List Attr} (h : ∀ x ∈ l, x.2.length ≤ 100) : ∀ (s : List Bs), (∀ x ∈ s, x.length ≤ 100) → (tailF l s).length ≤ s.length * 402
  | [], _ => by simp [tailF]
  | x :: s, hs => by
    have h1 := tail_len h s fun y hy => hs y (List.mem_cons_of_mem _ hy)
    have h2 := val_len h x
    have h3 := hs x List.mem_cons_self
    simp only [tailF, part, List.length_cons, List.length_append]
    omega
theorem body_len {l : List Attr} (h : ∀ x ∈ l, x.2.length ≤ 100) (s : List Bs) (hs : ∀ x ∈ s, x.length ≤ 100) : (bodyF l s).length ≤ s.length * 402 := by
  cases s with
  | nil => simp [bodyF]
  | cons x s =>
    have h1 := tail_len h s fun y hy => hs y (List.mem_cons_of_mem _ hy)
    have h2 := val_len h x
    have h3 := hs x List.mem_cons_self
    simp only [bodyF, part, List.length_cons, List.length_append]
    omega
end Go.Proofs.YtfoabgljfikklaaGreatDoor.V.Ky
namespace Go.Proofs.YtfoabgljfikklaaGreatDoor.V.Ky
open Go.RowKit Go.Shelf Go.Sort
attribute [local irreducible] GX GO
attribute [local go_sem] Oper.semAt_some
theorem cells_keep {A B : World} {row : Option Nat} (hg : A.grownBy B row) (hr : ∀ r, row = some r → ∃ o : Obj, A.heap[r]? = some o ∧ o.isCells = false) {k : Nat} {c : Array Value} {t : TypeId} {fz : Nat × Nat} (h : A.heap[k]? = some (.cells c t fz)) : some k ≠ row ∧ B.heap[k]? = some (.cells c t fz) := by
  have hne : some k ≠ row := fun e => by
    obtain ⟨o, h1, h2⟩ := hr k e.symm
    rw [h] at h1
    cases h1
    cases h2
  exact ⟨hne, (hg.block k (Array.getElem?_eq_some_iff.1 h).1 hne).trans h⟩
theorem own_row {w : World} {el sz b : Nat} {a : Option Addr} {len cap : Nat} {cs : List Value} (h : OwnS w el sz (some b) a len cap cs) :
    ∃ cur, w.heap[b]? = some (.cells cur el (0, 0)) ∧ len ≤ cap ∧ cap ≤ maxLen ∧ cur.size = cap * sz ∧ cur.toList.take (len * sz) = cs := by
  obtain ⟨_, ⟨h, _⟩ | ⟨b', hb, rfl, _, ⟨h, _⟩ | ⟨g, c, cur, h, _, hg, h1, h2, h3, h4⟩⟩⟩ := h
  · cases h
  · cases h
  · cases hb
    cases h
    exact ⟨cur, hg, h1, h2, h3, h4⟩
def ApI (w : World) (pre : List Bs) (W : World) : Prop :=
  (∃ ob a c, W.heap[w.heap.size]? = some (.cells #[.slice a pre.length c] 22 (0, 0)) ∧ OwnS W 9 1 ob a pre.length c (strsV pre) ∧ (∀ x, ob = some x → w.heap.size < x) ∧ (∀ x, a = some x → ob = some x.block)) ∧ Below w.heap.size w W
theorem apI_keep {w : World} {pre : List Bs} {A B : World} {row : Option Nat} (h : ApI w pre A) (hg : A.grownBy B row) (hr : ∀ r, row = some r → w.heap.size ≤ r ∧ ∃ o : Obj, A.heap[r]? = some o ∧ o.isCells = false) : ApI w pre B := by
  obtain ⟨⟨ob, a, c, h1, h2, h3, h4⟩, h5⟩ := h
  refine ⟨⟨ob, a, c, (cells_keep hg (fun r e => (hr r e).2) h1).2, h2.mod (Mod.of_grown hg) (fun x hx e => ?_), h3, h4⟩, h5.grown hg h5.size (fun k e => (hr k e).1)⟩
  have := h4 x hx
  subst this
  obtain ⟨cur, hc, _⟩ := own_row h2
  exact (cells_keep hg (fun r e => (hr r e).2) hc).1 e
theorem GC.inRound {l : Nat} {P : Program} {c : Code} {Q : Exit → Act → World → Prop} {tmps : Array Value} {n : Nat} {w : World} (hs : tmps.size = n) (h : @GC ⟨some l, []⟩ P c Q n (argE 0 tmps.toList) w) : c.wpIn (Fence.wide.inRound l) 0 P Q { tmps := tmps, defers := [] } w :=
  by unfold GC at h; exact h _ (slots_knows hs (some l))
set_option maxRecDepth 100000 in
set_option maxHeartbeats 4000000 in
theorem appendSeq_ret (Bx cap : Nat) (a : Option Addr) (zs : List Bs) (hz : zs.length ≤ 100000) (w : World) (hBx : w.cell? ⟨Bx, 0, none⟩ = some (.slice a zs.length cap)) (hlt : Bx < w.heap.size) (hI : StrIn w.heap.size w a zs) :
    Ret Tryz.prog 91 #[.slice none 0 0, .func (.func 61) #[] #[.pointer (some ⟨Bx, 0, none⟩)]] w fun v w' =>
      ∃ ob a' c', v = .slice a' zs.length c' ∧ OwnS w' 9 1 ob a' zs.length c' (strsV zs) ∧ (∀ x, ob = some x → w.heap.size < x) ∧ (∀ x, a' = some x → ob = some x.block) ∧ Ext w w' := by
  refine Ret.of_calls (callsIn_wide (n := 2) |>.1 ?_)
  refine callsIn_of_wp_marks Tryz.func91 rfl trivial ?_ rfl
  simp only [Tryz.ntmps91, List.size_toArray, List.length_cons, List.length_nil, Nat.reduceAdd, Nat.reduceSub, Array.replicate_succ, Array.replicate_zero, List.push_toArray, List.append_toArray, List.nil_append, List.cons_append]
  gi_wp2
  have hb0 : Below w.heap.size w (w.alloc (.cells #[.slice none 0 0] 22)) := (Below.refl _ w).alloc (Nat.le_refl _) _
  refine wpIn_rangeFunc_ownG (F := Fence.wide) (n := 2) rfl (by omega) (gf := 61) (lb := #[.pointer (some ⟨Bx, 0, none⟩)]) rfl trivial (enters_of Tryz.func61 (by kernel_rfl) rfl)
    (values_stops Fence.wide 1 trivial rfl (by omega) Bx w.heap.size cap a zs (by omega) (w.alloc (.cells #[.slice none 0 0] 22)) (by simp; omega) (by simp) ((hb0.cell (p := ⟨Bx, 0, none⟩) hlt).trans hBx) (hI.below hb0)) belowK_t (belowK_b (by simp)) (Below.refl _ _) (fun _ => rfl)
    (ApI w) (fun _ _ _ => False)
    (fun pre A B row hs hg hr => apI_keep hs hg (fun r e => ⟨by have := (hr r e).1; simp at this; omega, (hr r e).2⟩))
    (fun _ _ _ _ _ hs _ _ => hs)
    ⟨⟨none, none, 0, World.alloc_heap_new w _, OwnS.nil _ _ _, fun _ h => (by cases h), fun _ h => (by cases h)⟩, hb0⟩
    (fun x => { tmps := #[.slice none 0 0, .func (.func 61) #[] #[.pointer (some ⟨Bx, 0, none⟩)], .pointer (some ⟨w.heap.size, 0, none⟩), undef, .slice none 0 0, str x, .func (.func 61) #[] #[.pointer (some ⟨Bx, 0, none⟩)], str x, undef, undef, undef, undef, undef], defers := [] }) ?assign ?body ?done ?stop
  case assign =>
    intro l x W K hK
    gi_wp2
    exact hK
  case body =>
    rintro l pre x W ⟨⟨ob, a', c', hbox, hO, hob, hab⟩, hBl⟩ hlen
    refine GC.inRound (n := 13) rfl ?_
    letI : Fr := ⟨some l, []⟩
    have hat : At W w.heap.size 0 [.slice a' pre.length c'] := fun i v hv => by
      match i, hv with
      | 0, hv => cases hv; simp [World.cell?, hbox]
    refine GC.pick [2, 5] rfl ?_
    (repeat (first | refine GX.doneD ?_ | refine GX.done ?_ | refine GQ.goNormal ?_ | refine GC.seq ?_ | refine GC.skip ?_ | refine GC.block ?_ | refine GC.exit ?_ | refine GC.ret ?_ | refine GQ.goExit ?_ | refine GQ.goRet ?_ | refine GQ.inNormal ?_ | refine GQ.inExit ?_ | refine GQ.inExitNe rfl ?_ | refine GQ.inRet ?_ | refine GQ.loopExit ?_ | refine GQ.loopRet ?_ | refine GQ.cutExit ?_ | refine GQ.cutRet ?_))
    refine GC.region (.eff 0 (.pure 1 (.eff 2 (.eff 3 (.eff 4 .done))))) rfl ?_
    (first | (refine GX.eff rfl ?_; first | refine GO.load1 (hat) rfl rfl rfl ?_ | refine GO.loadN (hat) rfl rfl rfl rfl ?_) | (refine GX.read rfl ?_; first | refine GO.load1R (by assumption) (fun _ hS_ => At.mod (hat) hS_ (by simp)) rfl rfl rfl ?_ | refine GO.loadNR (by assumption) (fun _ hS_ => At.mod (hat) hS_ (by simp)) rfl rfl rfl rfl ?_))
    (repeat (refine GX.pure rfl ?_; refine GO.move rfl rfl rfl rfl ?_))
    refine GX.eff rfl ?_
    refine GO.buildSlice (out := [str x]) (by kernel_rfl) ⟨by omega, by unfold maxLen; omega⟩ rfl rfl rfl rfl rfl fun b4 w4 hb4 hO4 hE4 => ?_
    refine ⟨fun _ h => by first | trivial | exact Mod.trans h (Ext.mod (by assumption)), ?_⟩
    (repeat (refine GX.pure rfl ?_; refine GO.move rfl rfl rfl rfl ?_))
    refine GX.eff rfl ?_
    refine GO.append (hO.ext hE4) hO4.sla rfl (strsV_oneC [x]) (by omega) (by omega) rfl rfl rfl rfl rfl fun ro ra rc w5 hR5 hM5 hB5 hA5 => ?_
    refine ⟨fun _ h => by first | trivial | exact Mod.trans h (Ext.mod (by assumption)), ?_⟩
    (repeat (refine GX.pure rfl ?_; refine GO.move rfl rfl rfl rfl ?_))
    have hbox5 := hM5.row (hE4.row hbox id) (fun e => by have := hob _ e.symm; omega)
    refine GX.eff rfl ?_
    have hW5 : Wr w5 w.heap.size 0 1 := ⟨_, _, _, hbox5, by simp, by intro j hj; simp⟩
    have h15 : ∀ u ∈ [Value.slice ra (pre.length + 1) rc], u.oneCell' = true := fun u hu => by simp at hu; subst hu; rfl
    refine GO.store (sz := 1) (v := .slice ra (pre.length + 1) rc) (vs := [.slice ra (pre.length + 1) rc]) hW5 rfl rfl h15 rfl rfl rfl fun w6 hP6 => ?_
    refine ⟨fun _ h => by first | trivial | exact Mod.trans h (Ext.mod (by assumption)), ?_⟩
    (repeat (refine GX.pure rfl ?_; refine GO.move rfl rfl rfl rfl ?_))
    (repeat (first | refine GX.doneD ?_ | refine GX.done ?_ | refine GQ.goNormal ?_ | refine GC.seq ?_ | refine GC.skip ?_ | refine GC.block ?_ | refine GC.exit ?_ | refine GC.ret ?_ | refine GQ.goExit ?_ | refine GQ.goRet ?_ | refine GQ.inNormal ?_ | refine GQ.inExit ?_ | refine GQ.inExitNe rfl ?_ | refine GQ.inRet ?_ | refine GQ.loopExit ?_ | refine GQ.loopRet ?_ | refine GQ.cutExit ?_ | refine GQ.cutRet ?_))
    unfold GQ
    intro ac _
    have hbox6 := hP6.here _ _ _ hbox5
    have hne : ∀ x, ro = some x → w.heap.size < x := fun x hx => by
      rcases hB5 x hx with h | h
      · exact hob x h
      · have := hE4.size; have := (Array.getElem?_eq_some_iff.1 hbox).1; omega
    have hra : ∀ x, ra = some x → ro = some x.block := fun x hx => by
      rcases hA5 x hx with h | ⟨h, h'⟩
      · exact h
      · rw [h']; exact hab x h
    have hsz : W.heap.size ≤ w6.heap.size := Nat.le_trans hE4.size (Nat.le_trans hM5.size hP6.mod.size)
    have hblk : ∀ k, k < W.heap.size → some k ≠ ob → k ≠ w.heap.size → w6.heap[k]? = W.heap[k]? := fun k hk h1 h2 =>
      (hP6.other k h2).trans ((hM5.block k (Nat.lt_of_lt_of_le hk hE4.size) h1).trans (hE4.block k hk id))
    refine ⟨⟨hsz, fun k o _ hk ho => (hblk k (Array.getElem?_eq_some_iff.1 hk).1 (fun e => ?_) (fun e => ?_)).trans hk⟩, ?_, ?_, ?_⟩
    · subst e
      obtain ⟨cur, hcur, _⟩ := own_row hO
      rw [hcur] at hk
      cases hk
      cases ho
    · subst e
      rw [hbox] at hk
      cases hk
      cases ho
    · exact ⟨hP6.os.trans (hM5.os.trans hE4.os), hP6.tape.trans (hM5.tape.trans hE4.tape), hP6.output.trans (hM5.output.trans hE4.output), hsz, fun k hk => hblk k (by have := (Array.getElem?_eq_some_iff.1 hbox).1; omega) (fun e => by have := hob k e.symm; omega) (by omega)⟩
    · refine ⟨ro, ra, rc, ?_, ?_, hne, hra⟩
      · simpa using hbox6
      · have := hR5.mod hP6.mod (fun x hx e => by have := hne _ (hra x hx); omega)
        simpa [strsV] using this
    · exact hBl.trans ⟨hP6.os.trans (hM5.os.trans hE4.os), hP6.tape.trans (hM5.tape.trans hE4.tape), hP6.output.trans (hM5.output.trans hE4.output), hsz, fun k hk => hblk k (by have := (Array.getElem?_eq_some_iff.1 hbox).1; omega) (fun e => by have := hob k e.symm; omega) (by omega)⟩
  case done =>
    rintro D ys W hD rfl ⟨⟨ob, a', c', hbox, hO, hob, hab⟩, hBl⟩ hK
    have hc : W.cell? ⟨w.heap.size, 0, none⟩ = some (.slice a' ys.length c') := by simp [World.cell?, hbox]
    gi_wp2
    refine ⟨by simp, .inl ⟨_, _, rfl, run_takeDeferred hK, ?_⟩⟩
    refine ⟨_, results_tmp rfl _ _ _, _, rfl, ob, a', c', rfl, ?_, hob, hab, ?_⟩
    · refine hO.mod (S := (· = D)) (mod_put _ _ _) (fun x hx e => ?_)
      have := hab x hx
      subst this
      obtain ⟨cur, hcur, _⟩ := own_row hO
      rw [e, hK] at hcur
      cases hcur
    · have := hBl.trans (belowK_b (w := w) (Nat.le_refl _) W D _ (.deferred none) (by simp at hD; omega) hK rfl rfl)
      exact ⟨this.os, this.tape, this.output, this.size, fun k hk _ => this.block k hk⟩
  case stop =>
    rintro D c pre W _ _ h _
    exact h.elim
set_option maxHeartbeats 1000000 in
theorem collect_ret (Bx cap : Nat) (a : Option Addr) (zs : List Bs) (hz : zs.length ≤ 100000) (w : World) (hBx : w.cell? ⟨Bx, 0, none⟩ = some (.slice a zs.length cap)) (hlt : Bx < w.heap.size) (hI : StrIn w.heap.size w a zs) :
    Ret Tryz.prog 59 [.func (.func 61) #[] #[.pointer (some ⟨Bx, 0, none⟩)]].toArray w fun v w' =>
      ∃ ob a' c', v = .slice a' zs.length c' ∧ OwnS w' 9 1 ob a' zs.length c' (strsV zs) ∧ (∀ x, ob = some x → w.heap.size < x) ∧ (∀ x, a' = some x → ob = some x.block) ∧ Ext w w' := by
  refine Ret.enter Tryz.func59 rfl Tryz.ntmps59 rfl ?_
  (repeat (first | refine GX.doneD ?_ | refine GX.done ?_ | refine GQ.goNormal ?_ | refine GC.seq ?_ | refine GC.skip ?_ | refine GC.block ?_ | refine GC.exit ?_ | refine GC.ret ?_ | refine GQ.goExit ?_ | refine GQ.goRet ?_ | refine GQ.inNormal ?_ | refine GQ.inExit ?_ | refine GQ.inExitNe rfl ?_ | refine GQ.inRet ?_ | refine GQ.loopExit ?_ | refine GQ.loopRet ?_ | refine GQ.cutExit ?_ | refine GQ.cutRet ?_))
  refine GC.region (.pure 0 .done) rfl ?_
  (repeat (refine GX.pure rfl ?_; refine GO.assign rfl rfl rfl rfl ?_))
  (repeat (first | refine GX.doneD ?_ | refine GX.done ?_ | refine GQ.goNormal ?_ | refine GC.seq ?_ | refine GC.skip ?_ | refine GC.block ?_ | refine GC.exit ?_ | refine GC.ret ?_ | refine GQ.goExit ?_ | refine GQ.goRet ?_ | refine GQ.inNormal ?_ | refine GQ.inExit ?_ | refine GQ.inExitNe rfl ?_ | refine GQ.inRet ?_ | refine GQ.loopExit ?_ | refine GQ.loopRet ?_ | refine GQ.cutExit ?_ | refine GQ.cutRet ?_))
  refine GC.region (.pure 0 (.eff 1 (.pure 2 .done))) rfl ?_
  (repeat (refine GX.pure rfl ?_; first | refine GO.move rfl rfl rfl rfl ?_ | refine GO.assign rfl rfl rfl rfl ?_))
  (refine GX.eff rfl ?_; refine GO.callL rfl rfl rfl rfl rfl (appendSeq_ret Bx cap a zs hz _ hBx hlt hI) ?_)
  rintro v w1 ⟨ob, a', c', rfl, h1, h2, h3, h4⟩
  refine ⟨fun _ h => by first | trivial | exact Mod.trans h (Ext.mod (by assumption)), ?_⟩
  (repeat (refine GX.pure rfl ?_; first | refine GO.move rfl rfl rfl rfl ?_ | refine GO.assign rfl rfl rfl rfl ?_))
  (repeat (first | refine GX.doneD ?_ | refine GX.done ?_ | refine GQ.goNormal ?_ | refine GC.seq ?_ | refine GC.skip ?_ | refine GC.block ?_ | refine GC.exit ?_ | refine GC.ret ?_ | refine GQ.goExit ?_ | refine GQ.goRet ?_ | refine GQ.inNormal ?_ | refine GQ.inExit ?_ | refine GQ.inExitNe rfl ?_ | refine GQ.inRet ?_ | refine GQ.loopExit ?_ | refine GQ.loopRet ?_ | refine GQ.cutExit ?_ | refine GQ.cutRet ?_))
  refine GQ.ret1 (by first | exact .inl rfl | exact .inr rfl) rfl rfl ?_
  exact ⟨ob, a', c', rfl, h1, h2, h3, h4⟩
set_option maxHeartbeats 1000000 in
theorem valuesFn_ret (a : Option Addr) (n cap : Nat) (w : World) :
    Ret Tryz.prog 27 [.slice a n cap].toArray w fun v w' => ∃ Bx, v = .func (.func 61) #[] #[.pointer (some ⟨Bx, 0, none⟩)] ∧ w'.cell? ⟨Bx, 0, none⟩ = some (.slice a n cap) ∧ Bx < w'.heap.size ∧ Ext w w' := by
  refine Ret.enter Tryz.func27 rfl Tryz.ntmps27 rfl ?_
  (repeat (first | refine GX.doneD ?_ | refine GX.done ?_ | refine GQ.goNormal ?_ | refine GC.seq ?_ | refine GC.skip ?_ | refine GC.block ?_ | refine GC.exit ?_ | refine GC.ret ?_ | refine GQ.goExit ?_ | refine GQ.goRet ?_ | refine GQ.inNormal ?_ | refine GQ.inExit ?_ | refine GQ.inExitNe rfl ?_ | refine GQ.inRet ?_ | refine GQ.loopExit ?_ | refine GQ.loopRet ?_ | refine GQ.cutExit ?_ | refine GQ.cutRet ?_))
  refine GC.region (.eff 0 (.pure 1 .done)) rfl ?_
  refine GX.eff rfl ?_
  refine GO.box (l := [.slice a n cap]) rfl rfl rfl rfl fun b w1 hb hB hE1 => ?_
  refine ⟨fun _ h => by first | trivial | exact Mod.trans h (Ext.mod (by assumption)), ?_⟩
  (repeat (refine GX.pure rfl ?_; refine GO.assign rfl rfl rfl rfl ?_))
  (repeat (first | refine GX.doneD ?_ | refine GX.done ?_ | refine GQ.goNormal ?_ | refine GC.seq ?_ | refine GC.skip ?_ | refine GC.block ?_ | refine GC.exit ?_ | refine GC.ret ?_ | refine GQ.goExit ?_ | refine GQ.goRet ?_ | refine GQ.inNormal ?_ | refine GQ.inExit ?_ | refine GQ.inExitNe rfl ?_ | refine GQ.inRet ?_ | refine GQ.loopExit ?_ | refine GQ.loopRet ?_ | refine GQ.cutExit ?_ | refine GQ.cutRet ?_))
  refine GC.region (.pure 0 (.pure 1 .done)) rfl ?_
  (repeat (refine GX.pure rfl ?_; first | refine GO.assign rfl rfl rfl rfl ?_ | refine GO.makeFunc rfl rfl rfl rfl rfl ?_))
  (repeat (first | refine GX.doneD ?_ | refine GX.done ?_ | refine GQ.goNormal ?_ | refine GC.seq ?_ | refine GC.skip ?_ | refine GC.block ?_ | refine GC.exit ?_ | refine GC.ret ?_ | refine GQ.goExit ?_ | refine GQ.goRet ?_ | refine GQ.inNormal ?_ | refine GQ.inExit ?_ | refine GQ.inExitNe rfl ?_ | refine GQ.inRet ?_ | refine GQ.loopExit ?_ | refine GQ.loopRet ?_ | refine GQ.cutExit ?_ | refine GQ.cutRet ?_))
  refine GQ.ret1 (by first | exact .inl rfl | exact .inr rfl) rfl rfl ?_
  exact ⟨b, rfl, by simpa using hB.at 0 _ rfl, hB.lt, hE1⟩
def SrtAt (w0 w : World) (a : Option Addr) (l : List Bs) : Prop := l = [] ∨ ∃ x, a = some ⟨x, 0, none⟩ ∧ w0.heap.size ≤ x ∧ Rw w x (strsV l)
theorem SrtAt.kept {w0 w w' : World} {a : Option Addr} {l : List Bs} {B b : Nat} (h : SrtAt w0 w a l) (hk : BuK B b w w') (hb : b < w0.heap.size) : SrtAt w0 w' a l := by
  rcases h with h | ⟨x, h1, h2, h3⟩
  · exact .inl h
  · exact .inr ⟨x, h1, h2, h3.kept hk (by omega)⟩
theorem SrtAt.ext {w0 w w' : World} {a : Option Addr} {l : List Bs} (h : SrtAt w0 w a l) (hE : Ext w w') : SrtAt w0 w' a l := by
  rcases h with h | ⟨x, h1, h2, h3⟩
  · exact .inl h
  · exact .inr ⟨x, h1, h2, h3.ext hE⟩
set_option maxHeartbeats 1000000 in
theorem sort_ret (g cap : Nat) (zs : List Bs) (w : World) (hO : OwnS w 9 1 (some g) (some ⟨g, 0, none⟩) zs.length cap (strsV zs)) (hz : zs.length ≤ 100000) :
    Ret Tryz.prog 60 [.slice (some ⟨g, 0, none⟩) zs.length cap].toArray w fun _ w' => Rw w' g (strsV (sortF zs)) ∧ Mod (· = g) w w' := by
  obtain ⟨cur, hg, r1, r2, r3, r4⟩ := own_row hO
  have hH := holds_of_block (ss := zs) hg (by rw [Nat.mul_one] at r4; exact r4)
  refine Ret.of_calls ((AnyM.slices_Sort_string (ρ := sortRenx) sortRenx_lays g 0 cap zs w hH (Array.getElem?_eq_some_iff.1 hg).1 (by omega)).mono ?_)
  rintro e w' ⟨rfl, n, os, rfl⟩
  refine ⟨_, rfl, ?_, ?_⟩
  · have h := ownsRow_sorted (n := n) (os := os) (ts := zs.mergeSort fun x y => decide (x ≤ y)) (ss := zs) (base := 0) (by simp) (Nat.zero_le _) hg r1 r2 (by simpa using r3)
    rw [sorted_eq] at h ⊢
    rcases h.2 with ⟨h, _⟩ | ⟨g', c', cur', h, _, hg', _, _, _, ht⟩
    · cases h
    · cases h
      refine ⟨cur', _, _, hg', by decide, fun i v hv => ?_⟩
      have ht' : cur'.toList.take (zs.length * 1) = strsV (sortF zs) := ht
      rw [← ht', List.getElem?_take] at hv
      split at hv
      · simpa using hv
      · cases hv
  · exact (Mod.of_grown (grownBy_sorted _)).weaken fun k _ hk => by cases hk; rfl
set_option maxHeartbeats 1000000 in
theorem sortNone_ret (a : Option Addr) (cap : Nat) (w : World) : Ret Tryz.prog 60 [.slice a (0 : Nat) cap].toArray w fun _ w' => w' = w := by
  refine Ret.of_calls ((AnyM.slices_Sort_string_none (ρ := sortRenx) sortRenx_lays a cap w).mono ?_)
  rintro e w' ⟨rfl, rfl⟩
  exact ⟨_, rfl, rfl⟩
set_option maxHeartbeats 1000000 in
theorem sortedV_ret (Bx cap : Nat) (a : Option Addr) (zs : List Bs) (n : Nat) (hn : zs.length = n) (hz : n ≤ 100000) (w : World) (hBx : w.cell? ⟨Bx, 0, none⟩ = some (.slice a n cap)) (hlt : Bx < w.heap.size) (hI : StrIn w.heap.size w a zs) :
    Ret Tryz.prog 26 [.func (.func 61) #[] #[.pointer (some ⟨Bx, 0, none⟩)]].toArray w fun v w' =>
      ∃ a' c', v = .slice a' n c' ∧ SrtAt w w' a' (sortF zs) ∧ Ext w w' := by
  subst hn
  refine Ret.enter Tryz.func26 rfl Tryz.ntmps26 rfl ?_
  (repeat (first | refine GX.doneD ?_ | refine GX.done ?_ | refine GQ.goNormal ?_ | refine GC.seq ?_ | refine GC.skip ?_ | refine GC.block ?_ | refine GC.exit ?_ | refine GC.ret ?_ | refine GQ.goExit ?_ | refine GQ.goRet ?_ | refine GQ.inNormal ?_ | refine GQ.inExit ?_ | refine GQ.inExitNe rfl ?_ | refine GQ.inRet ?_ | refine GQ.loopExit ?_ | refine GQ.loopRet ?_ | refine GQ.cutExit ?_ | refine GQ.cutRet ?_))
  refine GC.region (.pure 0 .done) rfl ?_
  (repeat (refine GX.pure rfl ?_; refine GO.assign rfl rfl rfl rfl ?_))
  (repeat (first | refine GX.doneD ?_ | refine GX.done ?_ | refine GQ.goNormal ?_ | refine GC.seq ?_ | refine GC.skip ?_ | refine GC.block ?_ | refine GC.exit ?_ | refine GC.ret ?_ | refine GQ.goExit ?_ | refine GQ.goRet ?_ | refine GQ.inNormal ?_ | refine GQ.inExit ?_ | refine GQ.inExitNe rfl ?_ | refine GQ.inRet ?_ | refine GQ.loopExit ?_ | refine GQ.loopRet ?_ | refine GQ.cutExit ?_ | refine GQ.cutRet ?_))
  refine GC.region (.pure 0 (.eff 1 (.pure 2 .done))) rfl ?_
  (repeat (refine GX.pure rfl ?_; first | refine GO.move rfl rfl rfl rfl ?_ | refine GO.assign rfl rfl rfl rfl ?_))
  (refine GX.eff rfl ?_; refine GO.callL rfl rfl rfl rfl rfl (collect_ret Bx cap a zs hz _ hBx hlt hI) ?_)
  rintro v w1 ⟨ob, a', c', rfl, h1, h2, h3, h4⟩
  refine ⟨fun _ h => by first | trivial | exact Mod.trans h (Ext.mod (by assumption)), ?_⟩
  (repeat (refine GX.pure rfl ?_; first | refine GO.move rfl rfl rfl rfl ?_ | refine GO.assign rfl rfl rfl rfl ?_))
  (repeat (first | refine GX.doneD ?_ | refine GX.done ?_ | refine GQ.goNormal ?_ | refine GC.seq ?_ | refine GC.skip ?_ | refine GC.block ?_ | refine GC.exit ?_ | refine GC.ret ?_ | refine GQ.goExit ?_ | refine GQ.goRet ?_ | refine GQ.inNormal ?_ | refine GQ.inExit ?_ | refine GQ.inExitNe rfl ?_ | refine GQ.inRet ?_ | refine GQ.loopExit ?_ | refine GQ.loopRet ?_ | refine GQ.cutExit ?_ | refine GQ.cutRet ?_))
  refine GC.region (.pure 0 (.eff 1 .done)) rfl ?_
  (repeat (refine GX.pure rfl ?_; refine GO.move rfl rfl rfl rfl ?_))
  by_cases h0 : zs = []
  · subst h0
    (refine GX.eff rfl ?_; refine GO.callL rfl rfl rfl rfl rfl (sortNone_ret a' c' _) ?_)
    rintro v w2 rfl
    refine ⟨fun _ h => by first | trivial | exact Mod.trans h (Ext.mod (by assumption)), ?_⟩
    (repeat (refine GX.pure rfl ?_; refine GO.move rfl rfl rfl rfl ?_))
    (repeat (first | refine GX.doneD ?_ | refine GX.done ?_ | refine GQ.goNormal ?_ | refine GC.seq ?_ | refine GC.skip ?_ | refine GC.block ?_ | refine GC.exit ?_ | refine GC.ret ?_ | refine GQ.goExit ?_ | refine GQ.goRet ?_ | refine GQ.inNormal ?_ | refine GQ.inExit ?_ | refine GQ.inExitNe rfl ?_ | refine GQ.inRet ?_ | refine GQ.loopExit ?_ | refine GQ.loopRet ?_ | refine GQ.cutExit ?_ | refine GQ.cutRet ?_))
    refine GC.region (.pure 0 (.pure 1 .done)) rfl ?_
    (repeat (refine GX.pure rfl ?_; first | refine GO.move rfl rfl rfl rfl ?_ | refine GO.assign rfl rfl rfl rfl ?_))
    (repeat (first | refine GX.doneD ?_ | refine GX.done ?_ | refine GQ.goNormal ?_ | refine GC.seq ?_ | refine GC.skip ?_ | refine GC.block ?_ | refine GC.exit ?_ | refine GC.ret ?_ | refine GQ.goExit ?_ | refine GQ.goRet ?_ | refine GQ.inNormal ?_ | refine GQ.inExit ?_ | refine GQ.inExitNe rfl ?_ | refine GQ.inRet ?_ | refine GQ.loopExit ?_ | refine GQ.loopRet ?_ | refine GQ.cutExit ?_ | refine GQ.cutRet ?_))
    refine GQ.ret1 (by first | exact .inl rfl | exact .inr rfl) rfl rfl ?_
    exact ⟨a', c', rfl, .inl rfl, h4⟩
  · obtain ⟨g, rfl⟩ : ∃ g, ob = some g := by
      rcases h1.2 with ⟨rfl, _, h, hnil⟩ | ⟨g, h, _⟩
      · exfalso
        match a', h, h3, hnil with
        | none, _, _, hnil => exact h0 (List.eq_nil_of_length_eq_zero (hnil rfl))
        | some x, _, h3, _ => have := h3 x rfl; cases this
      · exact ⟨g, h⟩
    obtain ⟨rfl, _⟩ := h1.block
    (refine GX.eff rfl ?_; refine GO.callL rfl rfl rfl rfl rfl (sort_ret g c' zs _ h1 hz) ?_)
    rintro v w2 ⟨hR, hM⟩
    refine ⟨fun _ h => by first | trivial | exact Mod.trans h (Ext.mod (by assumption)), ?_⟩
    (repeat (refine GX.pure rfl ?_; refine GO.move rfl rfl rfl rfl ?_))
    (repeat (first | refine GX.doneD ?_ | refine GX.done ?_ | refine GQ.goNormal ?_ | refine GC.seq ?_ | refine GC.skip ?_ | refine GC.block ?_ | refine GC.exit ?_ | refine GC.ret ?_ | refine GQ.goExit ?_ | refine GQ.goRet ?_ | refine GQ.inNormal ?_ | refine GQ.inExit ?_ | refine GQ.inExitNe rfl ?_ | refine GQ.inRet ?_ | refine GQ.loopExit ?_ | refine GQ.loopRet ?_ | refine GQ.cutExit ?_ | refine GQ.cutRet ?_))
    refine GC.region (.pure 0 (.pure 1 .done)) rfl ?_
    (repeat (refine GX.pure rfl ?_; first | refine GO.move rfl rfl rfl rfl ?_ | refine GO.assign rfl rfl rfl rfl ?_))
    (repeat (first | refine GX.doneD ?_ | refine GX.done ?_ | refine GQ.goNormal ?_ | refine GC.seq ?_ | refine GC.skip ?_ | refine GC.block ?_ | refine GC.exit ?_ | refine GC.ret ?_ | refine GQ.goExit ?_ | refine GQ.goRet ?_ | refine GQ.inNormal ?_ | refine GQ.inExit ?_ | refine GQ.inExitNe rfl ?_ | refine GQ.inRet ?_ | refine GQ.loopExit ?_ | refine GQ.loopRet ?_ | refine GQ.cutExit ?_ | refine GQ.cutRet ?_))
    refine GQ.ret1 (by first | exact .inl rfl | exact .inr rfl) rfl rfl ?_
    exact ⟨_, c', rfl, .inr ⟨g, rfl, Nat.le_of_lt (h2 g rfl), hR⟩, h4.then hM (fun i hi e => by have := h2 g rfl; omega)⟩
end Go.Proofs.YtfoabgljfikklaaGreatDoor.V.Ky
