/-
  The program has functions of the library on sorted keys, numbered as the library wants it. No condition.
-/
import Derived.Test.YtnclbmfbegbbnaaGreatFj
import Derived.Shelf.SortM.Plain
import Derived.Shelf.SortM.SortNone
namespace Go.Proofs.YtnclbmfbegbbnaaGreat.V
open Go.Shelf
theorem zero_aty {P : Program} {t : TypeId} {z : Value} (h : (P.info? t).bind (·.zero) = some z) (w : World) : (zeroValue t).run P w = .ok z w := by
  cases hi : P.info? t with
  | none => rw [hi] at h; cases h
  | some i =>
    rw [hi] at h
    have hz : i.zero = some z := h
    simp [zeroValue, typeInfo, hi, hz]
def sortReny : Ren := ⟨fun | 5 => 55 | 7 => 101 | 8 => 102 | 10 => 177 | 11 => 178 | 12 => 179 | 13 => 180 | 14 => 181 | 15 => 182 | 16 => 183 | 17 => 184 | 18 => 185 | 19 => 186 | 20 => 187 | 30 => 267 | 31 => 268 | 32 => 269 | 33 => 270 | 34 => 271 | 35 => 272 | 40 => 324 | _ => 0, fun | 0 => 0 | 3 => 3 | 4 => 4 | 5 => 5 | 9 => 9 | 22 => 59 | 23 => 59 | 25 => 3 | 32 => 191 | 35 => 292 | 36 => 293 | 41 => 297 | 44 => 300 | 46 => 22 | 53 => 389 | 57 => 362 | 63 => 431 | 64 => 261 | _ => 0, fun _ => 0⟩
theorem sortReny_f5 : Bears Tryz.prog 55 (SlBodyM.n5 sortReny) := ⟨"slices.Sort[[]int,int]", by decide, by kernel_rfl⟩
theorem sortReny_f7 : Bears Tryz.prog 101 (SlBodyM.n7 sortReny) := ⟨"slices.pdqsortOrdered[int]", by decide, by kernel_rfl⟩
theorem sortReny_f8 : (Tryz.prog).funcs[102]? = some (SlBodyM.n8 sortReny) := by kernel_rfl
theorem sortReny_f10 : Bears Tryz.prog 177 (SlBodyM.n10 sortReny) := ⟨"slices.insertionSortOrdered[int]", by decide, by kernel_rfl⟩
theorem sortReny_f11 : Bears Tryz.prog 178 (SlBodyM.n11 sortReny) := ⟨"slices.heapSortOrdered[int]", by decide, by kernel_rfl⟩
theorem sortReny_f12 : Bears Tryz.prog 179 (SlBodyM.n12 sortReny) := ⟨"slices.breakPatternsOrdered[int]", by decide, by kernel_rfl⟩
theorem sortReny_f13 : Bears Tryz.prog 180 (SlBodyM.n13 sortReny) := ⟨"slices.choosePivotOrdered[int]", by decide, by kernel_rfl⟩
theorem sortReny_f14 : Bears Tryz.prog 181 (SlBodyM.n14 sortReny) := ⟨"slices.reverseRangeOrdered[int]", by decide, by kernel_rfl⟩
theorem sortReny_f15 : Bears Tryz.prog 182 (SlBodyM.n15 sortReny) := ⟨"slices.partialInsertionSortOrdered[int]", by decide, by kernel_rfl⟩
theorem sortReny_f16 : Bears Tryz.prog 183 (SlBodyM.n16 sortReny) := ⟨"cmp.Less[int]", by decide, by kernel_rfl⟩
theorem sortReny_f17 : Bears Tryz.prog 184 (SlBodyM.n17 sortReny) := ⟨"slices.partitionEqualOrdered[int]", by decide, by kernel_rfl⟩
theorem sortReny_f18 : Bears Tryz.prog 185 (SlBodyM.n18 sortReny) := ⟨"slices.partitionOrdered[int]", by decide, by kernel_rfl⟩
theorem sortReny_f19 : (Tryz.prog).funcs[186]? = some (SlBodyM.n19 sortReny) := by kernel_rfl
theorem sortReny_f20 : (Tryz.prog).funcs[187]? = some (SlBodyM.n20 sortReny) := by kernel_rfl
theorem sortReny_f30 : Bears Tryz.prog 267 (SlBodyM.n30 sortReny) := ⟨"slices.siftDownOrdered[int]", by decide, by kernel_rfl⟩
theorem sortReny_f31 : (Tryz.prog).funcs[268]? = some (SlBodyM.n31 sortReny) := by kernel_rfl
theorem sortReny_f32 : (Tryz.prog).funcs[269]? = some (SlBodyM.n32 sortReny) := by kernel_rfl
theorem sortReny_f33 : Bears Tryz.prog 270 (SlBodyM.n33 sortReny) := ⟨"slices.medianAdjacentOrdered[int]", by decide, by kernel_rfl⟩
theorem sortReny_f34 : Bears Tryz.prog 271 (SlBodyM.n34 sortReny) := ⟨"slices.medianOrdered[int]", by decide, by kernel_rfl⟩
theorem sortReny_f35 : Bears Tryz.prog 272 (SlBodyM.n35 sortReny) := ⟨"cmp.isNaN[int]", by decide, by kernel_rfl⟩
theorem sortReny_f40 : Bears Tryz.prog 324 (SlBodyM.n40 sortReny) := ⟨"slices.order2Ordered[int]", by decide, by kernel_rfl⟩
theorem lay_ya0 : tyB Tryz.prog 0 = some (false, 1) := by kernel_rfl
theorem lay_yv0 : ((Tryz.prog).info? 0).bind (·.zero) = some ((Value.tuple #[])) := by kernel_rfl
theorem lay_ya1 : tyB Tryz.prog 3 = some (false, 1) := by kernel_rfl
theorem lay_yv1 : ((Tryz.prog).info? 3).bind (·.zero) = some ((Value.int IntKind.i64 0)) := by kernel_rfl
theorem lay_ya2 : tyB Tryz.prog 4 = some (false, 1) := by kernel_rfl
theorem lay_yv2 : ((Tryz.prog).info? 4).bind (·.zero) = some ((Value.bool false)) := by kernel_rfl
theorem lay_ya3 : tyB Tryz.prog 5 = some (false, 1) := by kernel_rfl
theorem lay_yv3 : ((Tryz.prog).info? 5).bind (·.zero) = some ((Value.int IntKind.u8 0)) := by kernel_rfl
theorem lay_ya4 : tyB Tryz.prog 9 = some (false, 1) := by kernel_rfl
theorem lay_yv4 : ((Tryz.prog).info? 9).bind (·.zero) = some ((Value.string { data := #[] })) := by kernel_rfl
theorem lay_ya5 : tyB Tryz.prog 59 = some (false, 1) := by kernel_rfl
theorem lay_yv5 : ((Tryz.prog).info? 59).bind (·.zero) = some ((Value.slice none 0 0)) := by kernel_rfl
theorem lay_ya6 : tyB Tryz.prog 191 = some (false, 1) := by kernel_rfl
theorem lay_yv6 : ((Tryz.prog).info? 191).bind (·.zero) = some ((Value.int IntKind.u64 0)) := by kernel_rfl
theorem lay_ya7 : tyB Tryz.prog 292 = some (false, 1) := by kernel_rfl
theorem lay_yv7 : ((Tryz.prog).info? 292).bind (·.zero) = some ((Value.int IntKind.i64 0)) := by kernel_rfl
theorem lay_ya8 : tyB Tryz.prog 293 = some (false, 1) := by kernel_rfl
theorem lay_yv8 : ((Tryz.prog).info? 293).bind (·.zero) = some ((Value.tuple #[Value.int IntKind.i64 0, Value.int IntKind.i64 0])) := by kernel_rfl
theorem lay_ya9 : tyB Tryz.prog 297 = some (false, 1) := by kernel_rfl
theorem lay_yv9 : ((Tryz.prog).info? 297).bind (·.zero) = some ((Value.tuple #[Value.int IntKind.i64 0, Value.bool false])) := by kernel_rfl
theorem lay_ya10 : tyB Tryz.prog 300 = some (false, 1) := by kernel_rfl
theorem lay_yv10 : ((Tryz.prog).info? 300).bind (·.zero) = some ((Value.int IntKind.u32 0)) := by kernel_rfl
theorem lay_ya11 : tyB Tryz.prog 22 = some (false, 1) := by kernel_rfl
theorem lay_yv11 : ((Tryz.prog).info? 22).bind (·.zero) = some ((Value.int IntKind.u64 0)) := by kernel_rfl
theorem lay_ya12 : tyB Tryz.prog 389 = some (false, 1) := by kernel_rfl
theorem lay_yv12 : ((Tryz.prog).info? 389).bind (·.zero) = some ((Value.int IntKind.u64 0)) := by kernel_rfl
theorem lay_ya13 : tyB Tryz.prog 362 = some (false, 1) := by kernel_rfl
theorem lay_yv13 : ((Tryz.prog).info? 362).bind (·.zero) = some ((Value.pointer none)) := by kernel_rfl
theorem lay_ya14 : tyB Tryz.prog 431 = some (false, 1) := by kernel_rfl
theorem lay_yv14 : ((Tryz.prog).info? 431).bind (·.zero) = some ((Value.pointer none)) := by kernel_rfl
theorem lay_ya15 : tyB Tryz.prog 261 = some (false, 1) := by kernel_rfl
theorem lay_yv15 : ((Tryz.prog).info? 261).bind (·.zero) = some ((Value.tuple #[Value.int IntKind.i64 0, Value.int IntKind.i64 0])) := by kernel_rfl
theorem sortReny_lays : SlLaysM.n5 Tryz.prog sortReny := { mixed := by kernel_rfl, f5 := sortReny_f5, f7 := sortReny_f7, f8 := sortReny_f8, f10 := sortReny_f10, f11 := sortReny_f11, f12 := sortReny_f12, f13 := sortReny_f13, f14 := sortReny_f14, f15 := sortReny_f15, f16 := sortReny_f16, f17 := sortReny_f17, f18 := sortReny_f18, f19 := sortReny_f19, f20 := sortReny_f20, f30 := sortReny_f30, f31 := sortReny_f31, f32 := sortReny_f32, f33 := sortReny_f33, f34 := sortReny_f34, f35 := sortReny_f35, f40 := sortReny_f40, t0 := by kernel_rfl, a0 := fun w => (TyF.mk lay_ya0).isAgg w, z0 := fun w => (TyF.mk lay_ya0).sizeOf w, v0 := zero_aty lay_yv0, t3 := by kernel_rfl, a3 := fun w => (TyF.mk lay_ya1).isAgg w, z3 := fun w => (TyF.mk lay_ya1).sizeOf w, v3 := zero_aty lay_yv1, t4 := by kernel_rfl, a4 := fun w => (TyF.mk lay_ya2).isAgg w, z4 := fun w => (TyF.mk lay_ya2).sizeOf w, v4 := zero_aty lay_yv2, t5 := by kernel_rfl, a5 := fun w => (TyF.mk lay_ya3).isAgg w, z5 := fun w => (TyF.mk lay_ya3).sizeOf w, v5 := zero_aty lay_yv3, t9 := by kernel_rfl, a9 := fun w => (TyF.mk lay_ya4).isAgg w, z9 := fun w => (TyF.mk lay_ya4).sizeOf w, v9 := zero_aty lay_yv4, t22 := by kernel_rfl, a22 := fun w => (TyF.mk lay_ya5).isAgg w, z22 := fun w => (TyF.mk lay_ya5).sizeOf w, v22 := zero_aty lay_yv5, t23 := by kernel_rfl, a23 := fun w => (TyF.mk lay_ya5).isAgg w, z23 := fun w => (TyF.mk lay_ya5).sizeOf w, v23 := zero_aty lay_yv5, t25 := by kernel_rfl, a25 := fun w => (TyF.mk lay_ya1).isAgg w, z25 := fun w => (TyF.mk lay_ya1).sizeOf w, v25 := zero_aty lay_yv1, t32 := by kernel_rfl, a32 := fun w => (TyF.mk lay_ya6).isAgg w, z32 := fun w => (TyF.mk lay_ya6).sizeOf w, v32 := zero_aty lay_yv6, t35 := by kernel_rfl, a35 := fun w => (TyF.mk lay_ya7).isAgg w, z35 := fun w => (TyF.mk lay_ya7).sizeOf w, v35 := zero_aty lay_yv7, t36 := by kernel_rfl, a36 := fun w => (TyF.mk lay_ya8).isAgg w, z36 := fun w => (TyF.mk lay_ya8).sizeOf w, v36 := zero_aty lay_yv8, t41 := by kernel_rfl, a41 := fun w => (TyF.mk lay_ya9).isAgg w, z41 := fun w => (TyF.mk lay_ya9).sizeOf w, v41 := zero_aty lay_yv9, t44 := by kernel_rfl, a44 := fun w => (TyF.mk lay_ya10).isAgg w, z44 := fun w => (TyF.mk lay_ya10).sizeOf w, v44 := zero_aty lay_yv10, t46 := by kernel_rfl, a46 := fun w => (TyF.mk lay_ya11).isAgg w, z46 := fun w => (TyF.mk lay_ya11).sizeOf w, v46 := zero_aty lay_yv11, t53 := by kernel_rfl, a53 := fun w => (TyF.mk lay_ya12).isAgg w, z53 := fun w => (TyF.mk lay_ya12).sizeOf w, v53 := zero_aty lay_yv12, t57 := by kernel_rfl, a57 := fun w => (TyF.mk lay_ya13).isAgg w, z57 := fun w => (TyF.mk lay_ya13).sizeOf w, v57 := zero_aty lay_yv13, t63 := by kernel_rfl, a63 := fun w => (TyF.mk lay_ya14).isAgg w, z63 := fun w => (TyF.mk lay_ya14).sizeOf w, v63 := zero_aty lay_yv14, t64 := by kernel_rfl, a64 := fun w => (TyF.mk lay_ya15).isAgg w, z64 := fun w => (TyF.mk lay_ya15).sizeOf w, v64 := zero_aty lay_yv15 }
def keysReny0 : Ren := ⟨fun | 6 => 36 | 8 => 54 | 9 => 55 | 10 => 56 | 11 => 100 | _ => 0, fun | 0 => 0 | 3 => 71 | 4 => 4 | 23 => 35 | 24 => 59 | 26 => 3 | 28 => 92 | 33 => 130 | _ => 0, fun _ => 0⟩
theorem keysReny0_f6 : Bears Tryz.prog 36 (SlBodyZ.n6 keysReny0) := ⟨"slices.Sorted[int]", by decide, by kernel_rfl⟩
theorem keysReny0_f8 : Bears Tryz.prog 54 (SlBodyZ.n8 keysReny0) := ⟨"slices.Collect[int]", by decide, by kernel_rfl⟩
theorem keysReny0_f11 : Bears Tryz.prog 100 (SlBodyZ.n11 keysReny0) := ⟨"slices.AppendSeq[[]int,int]", by decide, by kernel_rfl⟩
theorem lay_ya16 : tyB Tryz.prog 92 = some (false, 1) := by kernel_rfl
theorem lay_yv16 : ((Tryz.prog).info? 92).bind (·.zero) = some ((Value.nilFunc)) := by kernel_rfl
theorem keysReny0_lays : SlLaysZI.n6 Tryz.prog keysReny0 := { mixed := by kernel_rfl, f6 := keysReny0_f6, f8 := keysReny0_f8, f11 := keysReny0_f11, t0 := by kernel_rfl, a0 := fun w => (TyF.mk lay_ya0).isAgg w, z0 := fun w => (TyF.mk lay_ya0).sizeOf w, v0 := zero_aty lay_yv0, t24 := by kernel_rfl, a24 := fun w => (TyF.mk lay_ya5).isAgg w, z24 := fun w => (TyF.mk lay_ya5).sizeOf w, v24 := zero_aty lay_yv5, t26 := by kernel_rfl, a26 := fun w => (TyF.mk lay_ya1).isAgg w, z26 := fun w => (TyF.mk lay_ya1).sizeOf w, v26 := zero_aty lay_yv1, t28 := by kernel_rfl, a28 := fun w => (TyF.mk lay_ya16).isAgg w, z28 := fun w => (TyF.mk lay_ya16).sizeOf w, v28 := zero_aty lay_yv16, i26 := by kernel_rfl }
theorem keysReny0k_f10 : Bears Tryz.prog 56 (SlBodyZ.n10 keysReny0) := ⟨"maps.Keys[map[int]*tagcache/txn.txn,int,*tagcache/txn.txn]$1", by decide, by kernel_rfl⟩
theorem lay_ya17 : tyB Tryz.prog 35 = some (false, 1) := by kernel_rfl
theorem lay_yv17 : ((Tryz.prog).info? 35).bind (·.zero) = some ((Value.map none)) := by kernel_rfl
theorem lay_ya18 : tyB Tryz.prog 130 = some (false, 1) := by kernel_rfl
theorem lay_yv18 : ((Tryz.prog).info? 130).bind (·.zero) = some ((Value.nilFunc)) := by kernel_rfl
theorem keysReny0k_lays : SlLaysZI.n10 Tryz.prog keysReny0 := { mixed := by kernel_rfl, f10 := keysReny0k_f10, t0 := by kernel_rfl, a0 := fun w => (TyF.mk lay_ya0).isAgg w, z0 := fun w => (TyF.mk lay_ya0).sizeOf w, v0 := zero_aty lay_yv0, t4 := by kernel_rfl, a4 := fun w => (TyF.mk lay_ya2).isAgg w, z4 := fun w => (TyF.mk lay_ya2).sizeOf w, v4 := zero_aty lay_yv2, t23 := by kernel_rfl, a23 := fun w => (TyF.mk lay_ya17).isAgg w, z23 := fun w => (TyF.mk lay_ya17).sizeOf w, v23 := zero_aty lay_yv17, t26 := by kernel_rfl, a26 := fun w => (TyF.mk lay_ya1).isAgg w, z26 := fun w => (TyF.mk lay_ya1).sizeOf w, v26 := zero_aty lay_yv1, t33 := by kernel_rfl, a33 := fun w => (TyF.mk lay_ya18).isAgg w, z33 := fun w => (TyF.mk lay_ya18).sizeOf w, v33 := zero_aty lay_yv18 }
theorem sortsy0 (m : Nat) : AnyZI.SortsIn Tryz.prog keysReny0 Fence.wide m :=
  ⟨fun blk off cap ss W hH hblk hsz => callsIn_wide.2 (AnyM.slices_Sort_int (ρ := sortReny) sortReny_lays blk off cap ss W hH hblk hsz),
   fun p cap W => callsIn_wide.2 (AnyM.slices_Sort_int_none (ρ := sortReny) sortReny_lays p cap W)⟩
theorem entersy0 (args : Array Value) (w : World) : (callFunc 55 args).run Tryz.prog w = .ok (.enter 55 args) w := (sortReny_lays).f5.enters rfl args w
def extSortedKeysI : CallA := extSortedI 36 56 3
theorem extSortedKeysI_ok [Sig] (lo : Nat) : CallOK Tryz.prog lo extSortedKeysI := extSortedI_ok keysReny0_lays keysReny0k_lays sortsy0 entersy0 lo
end Go.Proofs.YtnclbmfbegbbnaaGreat.V
