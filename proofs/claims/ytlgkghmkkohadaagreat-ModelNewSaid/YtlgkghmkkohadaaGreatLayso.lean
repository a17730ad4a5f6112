/-
  The program has functions of the library on sorted keys, numbered as the library wants it. No condition.
-/
import Derived.Test.YtlgkghmkkohadaaGreatFs
import Derived.Shelf.SortM.Plain
import Derived.Shelf.SortM.SortNone
namespace Go.Proofs.YtlgkghmkkohadaaGreat.V
open Go.Shelf
theorem zero_atx {P : Program} {t : TypeId} {z : Value} (h : (P.info? t).bind (·.zero) = some z) (w : World) : (zeroValue t).run P w = .ok z w := by
  cases hi : P.info? t with
  | none => rw [hi] at h; cases h
  | some i =>
    rw [hi] at h
    have hz : i.zero = some z := h
    simp [zeroValue, typeInfo, hi, hz]
def sortRenx : Ren := ⟨fun | 6 => 84 | 8 => 113 | 9 => 112 | 19 => 131 | 20 => 132 | 21 => 122 | 22 => 123 | 23 => 124 | 24 => 125 | 25 => 126 | 26 => 127 | 27 => 128 | 28 => 129 | 29 => 130 | 31 => 138 | 32 => 139 | 36 => 137 | 37 => 140 | 38 => 141 | 39 => 142 | 41 => 145 | _ => 0, fun | 0 => 0 | 3 => 3 | 4 => 4 | 5 => 5 | 9 => 9 | 26 => 38 | 27 => 38 | 29 => 9 | 32 => 164 | 35 => 175 | 36 => 176 | 41 => 180 | 44 => 183 | 46 => 22 | 53 => 189 | 57 => 167 | 63 => 195 | 64 => 196 | _ => 0, fun _ => 0⟩
theorem sortRenx_f6 : Bears Tryz.prog 84 (SlBodyM.n6 sortRenx) := ⟨"slices.Sort[[]string,string]", by decide, by kernel_rfl⟩
theorem sortRenx_f8 : (Tryz.prog).funcs[113]? = some (SlBodyM.n8 sortRenx) := by kernel_rfl
theorem sortRenx_f9 : Bears Tryz.prog 112 (SlBodyM.n9 sortRenx) := ⟨"slices.pdqsortOrdered[string]", by decide, by kernel_rfl⟩
theorem sortRenx_f19 : (Tryz.prog).funcs[131]? = some (SlBodyM.n19 sortRenx) := by kernel_rfl
theorem sortRenx_f20 : (Tryz.prog).funcs[132]? = some (SlBodyM.n20 sortRenx) := by kernel_rfl
theorem sortRenx_f21 : Bears Tryz.prog 122 (SlBodyM.n21 sortRenx) := ⟨"slices.insertionSortOrdered[string]", by decide, by kernel_rfl⟩
theorem sortRenx_f22 : Bears Tryz.prog 123 (SlBodyM.n22 sortRenx) := ⟨"slices.heapSortOrdered[string]", by decide, by kernel_rfl⟩
theorem sortRenx_f23 : Bears Tryz.prog 124 (SlBodyM.n23 sortRenx) := ⟨"slices.breakPatternsOrdered[string]", by decide, by kernel_rfl⟩
theorem sortRenx_f24 : Bears Tryz.prog 125 (SlBodyM.n24 sortRenx) := ⟨"slices.choosePivotOrdered[string]", by decide, by kernel_rfl⟩
theorem sortRenx_f25 : Bears Tryz.prog 126 (SlBodyM.n25 sortRenx) := ⟨"slices.reverseRangeOrdered[string]", by decide, by kernel_rfl⟩
theorem sortRenx_f26 : Bears Tryz.prog 127 (SlBodyM.n26 sortRenx) := ⟨"slices.partialInsertionSortOrdered[string]", by decide, by kernel_rfl⟩
theorem sortRenx_f27 : Bears Tryz.prog 128 (SlBodyM.n27 sortRenx) := ⟨"cmp.Less[string]", by decide, by kernel_rfl⟩
theorem sortRenx_f28 : Bears Tryz.prog 129 (SlBodyM.n28 sortRenx) := ⟨"slices.partitionEqualOrdered[string]", by decide, by kernel_rfl⟩
theorem sortRenx_f29 : Bears Tryz.prog 130 (SlBodyM.n29 sortRenx) := ⟨"slices.partitionOrdered[string]", by decide, by kernel_rfl⟩
theorem sortRenx_f31 : (Tryz.prog).funcs[138]? = some (SlBodyM.n31 sortRenx) := by kernel_rfl
theorem sortRenx_f32 : (Tryz.prog).funcs[139]? = some (SlBodyM.n32 sortRenx) := by kernel_rfl
theorem sortRenx_f36 : Bears Tryz.prog 137 (SlBodyM.n36 sortRenx) := ⟨"slices.siftDownOrdered[string]", by decide, by kernel_rfl⟩
theorem sortRenx_f37 : Bears Tryz.prog 140 (SlBodyM.n37 sortRenx) := ⟨"slices.medianAdjacentOrdered[string]", by decide, by kernel_rfl⟩
theorem sortRenx_f38 : Bears Tryz.prog 141 (SlBodyM.n38 sortRenx) := ⟨"slices.medianOrdered[string]", by decide, by kernel_rfl⟩
theorem sortRenx_f39 : Bears Tryz.prog 142 (SlBodyM.n39 sortRenx) := ⟨"cmp.isNaN[string]", by decide, by kernel_rfl⟩
theorem sortRenx_f41 : Bears Tryz.prog 145 (SlBodyM.n41 sortRenx) := ⟨"slices.order2Ordered[string]", by decide, by kernel_rfl⟩
theorem lay_xa0 : tyB Tryz.prog 0 = some (false, 1) := by kernel_rfl
theorem lay_xv0 : ((Tryz.prog).info? 0).bind (·.zero) = some ((Value.tuple #[])) := by kernel_rfl
theorem lay_xa1 : tyB Tryz.prog 3 = some (false, 1) := by kernel_rfl
theorem lay_xv1 : ((Tryz.prog).info? 3).bind (·.zero) = some ((Value.int IntKind.i64 0)) := by kernel_rfl
theorem lay_xa2 : tyB Tryz.prog 4 = some (false, 1) := by kernel_rfl
theorem lay_xv2 : ((Tryz.prog).info? 4).bind (·.zero) = some ((Value.bool false)) := by kernel_rfl
theorem lay_xa3 : tyB Tryz.prog 5 = some (false, 1) := by kernel_rfl
theorem lay_xv3 : ((Tryz.prog).info? 5).bind (·.zero) = some ((Value.int IntKind.u8 0)) := by kernel_rfl
theorem lay_xa4 : tyB Tryz.prog 9 = some (false, 1) := by kernel_rfl
theorem lay_xv4 : ((Tryz.prog).info? 9).bind (·.zero) = some ((Value.string { data := #[] })) := by kernel_rfl
theorem lay_xa5 : tyB Tryz.prog 38 = some (false, 1) := by kernel_rfl
theorem lay_xv5 : ((Tryz.prog).info? 38).bind (·.zero) = some ((Value.slice none 0 0)) := by kernel_rfl
theorem lay_xa6 : tyB Tryz.prog 164 = some (false, 1) := by kernel_rfl
theorem lay_xv6 : ((Tryz.prog).info? 164).bind (·.zero) = some ((Value.int IntKind.u64 0)) := by kernel_rfl
theorem lay_xa7 : tyB Tryz.prog 175 = some (false, 1) := by kernel_rfl
theorem lay_xv7 : ((Tryz.prog).info? 175).bind (·.zero) = some ((Value.int IntKind.i64 0)) := by kernel_rfl
theorem lay_xa8 : tyB Tryz.prog 176 = some (false, 1) := by kernel_rfl
theorem lay_xv8 : ((Tryz.prog).info? 176).bind (·.zero) = some ((Value.tuple #[Value.int IntKind.i64 0, Value.int IntKind.i64 0])) := by kernel_rfl
theorem lay_xa9 : tyB Tryz.prog 180 = some (false, 1) := by kernel_rfl
theorem lay_xv9 : ((Tryz.prog).info? 180).bind (·.zero) = some ((Value.tuple #[Value.int IntKind.i64 0, Value.bool false])) := by kernel_rfl
theorem lay_xa10 : tyB Tryz.prog 183 = some (false, 1) := by kernel_rfl
theorem lay_xv10 : ((Tryz.prog).info? 183).bind (·.zero) = some ((Value.int IntKind.u32 0)) := by kernel_rfl
theorem lay_xa11 : tyB Tryz.prog 22 = some (false, 1) := by kernel_rfl
theorem lay_xv11 : ((Tryz.prog).info? 22).bind (·.zero) = some ((Value.int IntKind.u64 0)) := by kernel_rfl
theorem lay_xa12 : tyB Tryz.prog 189 = some (false, 1) := by kernel_rfl
theorem lay_xv12 : ((Tryz.prog).info? 189).bind (·.zero) = some ((Value.int IntKind.u64 0)) := by kernel_rfl
theorem lay_xa13 : tyB Tryz.prog 167 = some (false, 1) := by kernel_rfl
theorem lay_xv13 : ((Tryz.prog).info? 167).bind (·.zero) = some ((Value.pointer none)) := by kernel_rfl
theorem lay_xa14 : tyB Tryz.prog 195 = some (false, 1) := by kernel_rfl
theorem lay_xv14 : ((Tryz.prog).info? 195).bind (·.zero) = some ((Value.pointer none)) := by kernel_rfl
theorem lay_xa15 : tyB Tryz.prog 196 = some (false, 1) := by kernel_rfl
theorem lay_xv15 : ((Tryz.prog).info? 196).bind (·.zero) = some ((Value.tuple #[Value.int IntKind.i64 0, Value.int IntKind.i64 0])) := by kernel_rfl
theorem sortRenx_lays : SlLaysM.n6 Tryz.prog sortRenx := { mixed := by kernel_rfl, f6 := sortRenx_f6, f8 := sortRenx_f8, f9 := sortRenx_f9, f19 := sortRenx_f19, f20 := sortRenx_f20, f21 := sortRenx_f21, f22 := sortRenx_f22, f23 := sortRenx_f23, f24 := sortRenx_f24, f25 := sortRenx_f25, f26 := sortRenx_f26, f27 := sortRenx_f27, f28 := sortRenx_f28, f29 := sortRenx_f29, f31 := sortRenx_f31, f32 := sortRenx_f32, f36 := sortRenx_f36, f37 := sortRenx_f37, f38 := sortRenx_f38, f39 := sortRenx_f39, f41 := sortRenx_f41, t0 := by kernel_rfl, a0 := fun w => (TyF.mk lay_xa0).isAgg w, z0 := fun w => (TyF.mk lay_xa0).sizeOf w, v0 := zero_atx lay_xv0, t3 := by kernel_rfl, a3 := fun w => (TyF.mk lay_xa1).isAgg w, z3 := fun w => (TyF.mk lay_xa1).sizeOf w, v3 := zero_atx lay_xv1, t4 := by kernel_rfl, a4 := fun w => (TyF.mk lay_xa2).isAgg w, z4 := fun w => (TyF.mk lay_xa2).sizeOf w, v4 := zero_atx lay_xv2, t5 := by kernel_rfl, a5 := fun w => (TyF.mk lay_xa3).isAgg w, z5 := fun w => (TyF.mk lay_xa3).sizeOf w, v5 := zero_atx lay_xv3, t9 := by kernel_rfl, a9 := fun w => (TyF.mk lay_xa4).isAgg w, z9 := fun w => (TyF.mk lay_xa4).sizeOf w, v9 := zero_atx lay_xv4, t26 := by kernel_rfl, a26 := fun w => (TyF.mk lay_xa5).isAgg w, z26 := fun w => (TyF.mk lay_xa5).sizeOf w, v26 := zero_atx lay_xv5, t27 := by kernel_rfl, a27 := fun w => (TyF.mk lay_xa5).isAgg w, z27 := fun w => (TyF.mk lay_xa5).sizeOf w, v27 := zero_atx lay_xv5, t29 := by kernel_rfl, a29 := fun w => (TyF.mk lay_xa4).isAgg w, z29 := fun w => (TyF.mk lay_xa4).sizeOf w, v29 := zero_atx lay_xv4, t32 := by kernel_rfl, a32 := fun w => (TyF.mk lay_xa6).isAgg w, z32 := fun w => (TyF.mk lay_xa6).sizeOf w, v32 := zero_atx lay_xv6, t35 := by kernel_rfl, a35 := fun w => (TyF.mk lay_xa7).isAgg w, z35 := fun w => (TyF.mk lay_xa7).sizeOf w, v35 := zero_atx lay_xv7, t36 := by kernel_rfl, a36 := fun w => (TyF.mk lay_xa8).isAgg w, z36 := fun w => (TyF.mk lay_xa8).sizeOf w, v36 := zero_atx lay_xv8, t41 := by kernel_rfl, a41 := fun w => (TyF.mk lay_xa9).isAgg w, z41 := fun w => (TyF.mk lay_xa9).sizeOf w, v41 := zero_atx lay_xv9, t44 := by kernel_rfl, a44 := fun w => (TyF.mk lay_xa10).isAgg w, z44 := fun w => (TyF.mk lay_xa10).sizeOf w, v44 := zero_atx lay_xv10, t46 := by kernel_rfl, a46 := fun w => (TyF.mk lay_xa11).isAgg w, z46 := fun w => (TyF.mk lay_xa11).sizeOf w, v46 := zero_atx lay_xv11, t53 := by kernel_rfl, a53 := fun w => (TyF.mk lay_xa12).isAgg w, z53 := fun w => (TyF.mk lay_xa12).sizeOf w, v53 := zero_atx lay_xv12, t57 := by kernel_rfl, a57 := fun w => (TyF.mk lay_xa13).isAgg w, z57 := fun w => (TyF.mk lay_xa13).sizeOf w, v57 := zero_atx lay_xv13, t63 := by kernel_rfl, a63 := fun w => (TyF.mk lay_xa14).isAgg w, z63 := fun w => (TyF.mk lay_xa14).sizeOf w, v63 := zero_atx lay_xv14, t64 := by kernel_rfl, a64 := fun w => (TyF.mk lay_xa15).isAgg w, z64 := fun w => (TyF.mk lay_xa15).sizeOf w, v64 := zero_atx lay_xv15 }
def keysRenx0 : Ren := ⟨fun | 6 => 51 | 8 => 83 | 9 => 84 | 10 => 85 | 11 => 111 | _ => 0, fun | 0 => 0 | 3 => 92 | 4 => 4 | 23 => 51 | 24 => 38 | 26 => 9 | 28 => 105 | 33 => 84 | _ => 0, fun _ => 0⟩
theorem keysRenx0_f6 : Bears Tryz.prog 51 (SlBodyZ.n6 keysRenx0) := ⟨"slices.Sorted[string]", by decide, by kernel_rfl⟩
theorem keysRenx0_f8 : Bears Tryz.prog 83 (SlBodyZ.n8 keysRenx0) := ⟨"slices.Collect[string]", by decide, by kernel_rfl⟩
theorem keysRenx0_f11 : Bears Tryz.prog 111 (SlBodyZ.n11 keysRenx0) := ⟨"slices.AppendSeq[[]string,string]", by decide, by kernel_rfl⟩
theorem lay_xa16 : tyB Tryz.prog 105 = some (false, 1) := by kernel_rfl
theorem lay_xv16 : ((Tryz.prog).info? 105).bind (·.zero) = some ((Value.nilFunc)) := by kernel_rfl
theorem keysRenx0_lays : SlLaysZ.n6 Tryz.prog keysRenx0 := { mixed := by kernel_rfl, f6 := keysRenx0_f6, f8 := keysRenx0_f8, f11 := keysRenx0_f11, t0 := by kernel_rfl, a0 := fun w => (TyF.mk lay_xa0).isAgg w, z0 := fun w => (TyF.mk lay_xa0).sizeOf w, v0 := zero_atx lay_xv0, t24 := by kernel_rfl, a24 := fun w => (TyF.mk lay_xa5).isAgg w, z24 := fun w => (TyF.mk lay_xa5).sizeOf w, v24 := zero_atx lay_xv5, t26 := by kernel_rfl, a26 := fun w => (TyF.mk lay_xa4).isAgg w, z26 := fun w => (TyF.mk lay_xa4).sizeOf w, v26 := zero_atx lay_xv4, t28 := by kernel_rfl, a28 := fun w => (TyF.mk lay_xa16).isAgg w, z28 := fun w => (TyF.mk lay_xa16).sizeOf w, v28 := zero_atx lay_xv16, i26 := by kernel_rfl }
theorem keysRenx0k_f10 : Bears Tryz.prog 85 (SlBodyZ.n10 keysRenx0) := ⟨"maps.Keys[map[string]tagcache/model.entry,string,tagcache/model.entry]$1", by decide, by kernel_rfl⟩
theorem lay_xa17 : tyB Tryz.prog 51 = some (false, 1) := by kernel_rfl
theorem lay_xv17 : ((Tryz.prog).info? 51).bind (·.zero) = some ((Value.map none)) := by kernel_rfl
theorem lay_xa18 : tyB Tryz.prog 84 = some (false, 1) := by kernel_rfl
theorem lay_xv18 : ((Tryz.prog).info? 84).bind (·.zero) = some ((Value.nilFunc)) := by kernel_rfl
theorem keysRenx0k_lays : SlLaysZ.n10 Tryz.prog keysRenx0 := { mixed := by kernel_rfl, f10 := keysRenx0k_f10, t0 := by kernel_rfl, a0 := fun w => (TyF.mk lay_xa0).isAgg w, z0 := fun w => (TyF.mk lay_xa0).sizeOf w, v0 := zero_atx lay_xv0, t4 := by kernel_rfl, a4 := fun w => (TyF.mk lay_xa2).isAgg w, z4 := fun w => (TyF.mk lay_xa2).sizeOf w, v4 := zero_atx lay_xv2, t23 := by kernel_rfl, a23 := fun w => (TyF.mk lay_xa17).isAgg w, z23 := fun w => (TyF.mk lay_xa17).sizeOf w, v23 := zero_atx lay_xv17, t26 := by kernel_rfl, a26 := fun w => (TyF.mk lay_xa4).isAgg w, z26 := fun w => (TyF.mk lay_xa4).sizeOf w, v26 := zero_atx lay_xv4, t33 := by kernel_rfl, a33 := fun w => (TyF.mk lay_xa18).isAgg w, z33 := fun w => (TyF.mk lay_xa18).sizeOf w, v33 := zero_atx lay_xv18 }
theorem sortsx0 (m : Nat) : AnyZ.SortsIn Tryz.prog keysRenx0 Fence.wide m :=
  ⟨fun blk off cap ss W hH hblk hsz => callsIn_wide.2 (AnyM.slices_Sort_string (ρ := sortRenx) sortRenx_lays blk off cap ss W hH hblk hsz),
   fun p cap W => callsIn_wide.2 (AnyM.slices_Sort_string_none (ρ := sortRenx) sortRenx_lays p cap W)⟩
theorem entersx0 (args : Array Value) (w : World) : (callFunc 84 args).run Tryz.prog w = .ok (.enter 84 args) w := (sortRenx_lays).f6.enters rfl args w
def extSortedKeys : CallA := extSorted 51 85 9
theorem extSortedKeys_ok [Sig] (lo : Nat) : CallOK Tryz.prog lo extSortedKeys := extSorted_ok keysRenx0_lays keysRenx0k_lays sortsx0 entersx0 lo
end Go.Proofs.YtlgkghmkkohadaaGreat.V
