/-
  The program has three functions of the library on keys of maps, numbered as the library wants it. No condition.
-/
import Derived.Test.YtmhpkllajmepjaaGreatFb
import Derived.Test.YtmhpkllajmepjaaGreatFacts
namespace Go.Proofs.YtmhpkllajmepjaaGreat.V
open Go.Shelf
theorem zero_at {P : Program} {t : TypeId} {z : Value} (h : (P.info? t).bind (·.zero) = some z) (w : World) : (zeroValue t).run P w = .ok z w := by
  cases hi : P.info? t with
  | none => rw [hi] at h; cases h
  | some i =>
    rw [hi] at h
    have hz : i.zero = some z := h
    simp [zeroValue, typeInfo, hi, hz]
def keyRen : Ren := ⟨fun | 8 => 51 | 10 => 53 | 11 => 93 | _ => 0, fun | 0 => 0 | 3 => 4 | 4 => 4 | 23 => 59 | 24 => 94 | 26 => 3 | 28 => 97 | 33 => 71 | _ => 0, fun _ => 0⟩
theorem lay_f8 : Bears Tryz.prog 51 (SlBodyZ.n8 keyRen) := ⟨"slices.Collect[int]", by decide, by kernel_rfl⟩
theorem lay_f10 : Bears Tryz.prog 53 (SlBodyZ.n10 keyRen) := ⟨"maps.Keys[map[int]bool,int,bool]$1", by decide, by kernel_rfl⟩
theorem lay_f11 : Bears Tryz.prog 93 (SlBodyZ.n11 keyRen) := ⟨"slices.AppendSeq[[]int,int]", by decide, by kernel_rfl⟩
theorem lay_a0 : tyB Tryz.prog 0 = some (false, 1) := by kernel_rfl
theorem lay_v0 : ((Tryz.prog).info? 0).bind (·.zero) = some (Value.tuple #[]) := by kernel_rfl
theorem lay_a4 : tyB Tryz.prog 4 = some (false, 1) := by kernel_rfl
theorem lay_v4 : ((Tryz.prog).info? 4).bind (·.zero) = some (Value.bool false) := by kernel_rfl
theorem lay_a23 : tyB Tryz.prog 59 = some (false, 1) := by kernel_rfl
theorem lay_v23 : ((Tryz.prog).info? 59).bind (·.zero) = some (Value.map none) := by kernel_rfl
theorem lay_a24 : tyB Tryz.prog 94 = some (false, 1) := by kernel_rfl
theorem lay_v24 : ((Tryz.prog).info? 94).bind (·.zero) = some (Value.slice none 0 0) := by kernel_rfl
theorem lay_a26 : tyB Tryz.prog 3 = some (false, 1) := by kernel_rfl
theorem lay_v26 : ((Tryz.prog).info? 3).bind (·.zero) = some (Value.int IntKind.i64 0) := by kernel_rfl
theorem lay_a28 : tyB Tryz.prog 97 = some (false, 1) := by kernel_rfl
theorem lay_v28 : ((Tryz.prog).info? 97).bind (·.zero) = some (Value.nilFunc) := by kernel_rfl
theorem lay_a33 : tyB Tryz.prog 71 = some (false, 1) := by kernel_rfl
theorem lay_v33 : ((Tryz.prog).info? 71).bind (·.zero) = some (Value.nilFunc) := by kernel_rfl
theorem lays8 : SlLaysZI.n8 Tryz.prog keyRen := { mixed := by kernel_rfl, f8 := lay_f8, f11 := lay_f11, i26 := by kernel_rfl, t0 := by kernel_rfl, a0 := fun w => (TyF.mk lay_a0).isAgg w, z0 := fun w => (TyF.mk lay_a0).sizeOf w, v0 := zero_at lay_v0, t24 := by kernel_rfl, a24 := fun w => (TyF.mk lay_a24).isAgg w, z24 := fun w => (TyF.mk lay_a24).sizeOf w, v24 := zero_at lay_v24, t26 := by kernel_rfl, a26 := fun w => (TyF.mk lay_a26).isAgg w, z26 := fun w => (TyF.mk lay_a26).sizeOf w, v26 := zero_at lay_v26, t28 := by kernel_rfl, a28 := fun w => (TyF.mk lay_a28).isAgg w, z28 := fun w => (TyF.mk lay_a28).sizeOf w, v28 := zero_at lay_v28 }
theorem lays10 : SlLaysZI.n10 Tryz.prog keyRen := { mixed := by kernel_rfl, f10 := lay_f10, t0 := by kernel_rfl, a0 := fun w => (TyF.mk lay_a0).isAgg w, z0 := fun w => (TyF.mk lay_a0).sizeOf w, v0 := zero_at lay_v0, t4 := by kernel_rfl, a4 := fun w => (TyF.mk lay_a4).isAgg w, z4 := fun w => (TyF.mk lay_a4).sizeOf w, v4 := zero_at lay_v4, t23 := by kernel_rfl, a23 := fun w => (TyF.mk lay_a23).isAgg w, z23 := fun w => (TyF.mk lay_a23).sizeOf w, v23 := zero_at lay_v23, t26 := by kernel_rfl, a26 := fun w => (TyF.mk lay_a26).isAgg w, z26 := fun w => (TyF.mk lay_a26).sizeOf w, v26 := zero_at lay_v26, t33 := by kernel_rfl, a33 := fun w => (TyF.mk lay_a33).isAgg w, z33 := fun w => (TyF.mk lay_a33).sizeOf w, v33 := zero_at lay_v33 }
theorem ext_keys [Sig] (lo : Nat) : CallOK Tryz.prog lo (extKeys 51 53 3) := extKeys_ok lays8 lays10 lo
end Go.Proofs.YtmhpkllajmepjaaGreat.V
