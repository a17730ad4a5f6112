/-
  The program has maps.Clone, numbered as the library wants it. No condition.
-/
import Derived.Test.YtbjomeonjlialaaGreatFm
namespace Go.Proofs.YtbjomeonjlialaaGreat.V
open Go.Shelf
theorem zero_atc {P : Program} {t : TypeId} {z : Value} (h : (P.info? t).bind (·.zero) = some z) (w : World) : (zeroValue t).run P w = .ok z w := by
  cases hi : P.info? t with
  | none => rw [hi] at h; cases h
  | some i =>
    rw [hi] at h
    have hz : i.zero = some z := h
    simp [zeroValue, typeInfo, hi, hz]
def cloneRen0 : Ren := ⟨fun | 5 => 163 | 7 => 230 | _ => 0, fun | 3 => 280 | 4 => 4 | 20 => 20 | 23 => 277 | 25 => 3 | _ => 0, fun _ => 0⟩
theorem lay_c0 : Bears Tryz.prog 163 (SlBodyW.n5 cloneRen0) := ⟨"maps.Clone[map[int]tagcache/recent.link,int,tagcache/recent.link]", by decide, by kernel_rfl⟩
theorem lay_ca0_4 : tyB Tryz.prog 4 = some (false, 1) := by kernel_rfl
theorem lay_cv0_4 : ((Tryz.prog).info? 4).bind (·.zero) = some (Value.bool false) := by kernel_rfl
theorem lay_ca0_20 : tyB Tryz.prog 20 = some (false, 1) := by kernel_rfl
theorem lay_cv0_20 : ((Tryz.prog).info? 20).bind (·.zero) = some (Value.nilIface) := by kernel_rfl
theorem lay_ca0_23 : tyB Tryz.prog 277 = some (false, 1) := by kernel_rfl
theorem lay_cv0_23 : ((Tryz.prog).info? 277).bind (·.zero) = some (Value.map none) := by kernel_rfl
theorem laysc0 : SlLaysW.n5 Tryz.prog cloneRen0 := { mixed := by kernel_rfl, f5 := lay_c0, f7 := by kernel_rfl, t4 := by kernel_rfl, a4 := fun w => (TyF.mk lay_ca0_4).isAgg w, z4 := fun w => (TyF.mk lay_ca0_4).sizeOf w, v4 := zero_atc lay_cv0_4, t20 := by kernel_rfl, a20 := fun w => (TyF.mk lay_ca0_20).isAgg w, z20 := fun w => (TyF.mk lay_ca0_20).sizeOf w, v20 := zero_atc lay_cv0_20, t23 := by kernel_rfl, a23 := fun w => (TyF.mk lay_ca0_23).isAgg w, z23 := fun w => (TyF.mk lay_ca0_23).sizeOf w, v23 := zero_atc lay_cv0_23 }
def cloneRen1 : Ren := ⟨fun | 5 => 166 | 7 => 230 | _ => 0, fun | 3 => 3 | 4 => 4 | 20 => 20 | 23 => 284 | 25 => 3 | _ => 0, fun _ => 0⟩
theorem lay_c1 : Bears Tryz.prog 166 (SlBodyW.n5 cloneRen1) := ⟨"maps.Clone[map[int]int,int,int]", by decide, by kernel_rfl⟩
theorem lay_ca1_4 : tyB Tryz.prog 4 = some (false, 1) := by kernel_rfl
theorem lay_cv1_4 : ((Tryz.prog).info? 4).bind (·.zero) = some (Value.bool false) := by kernel_rfl
theorem lay_ca1_20 : tyB Tryz.prog 20 = some (false, 1) := by kernel_rfl
theorem lay_cv1_20 : ((Tryz.prog).info? 20).bind (·.zero) = some (Value.nilIface) := by kernel_rfl
theorem lay_ca1_23 : tyB Tryz.prog 284 = some (false, 1) := by kernel_rfl
theorem lay_cv1_23 : ((Tryz.prog).info? 284).bind (·.zero) = some (Value.map none) := by kernel_rfl
theorem laysc1 : SlLaysW.n5 Tryz.prog cloneRen1 := { mixed := by kernel_rfl, f5 := lay_c1, f7 := by kernel_rfl, t4 := by kernel_rfl, a4 := fun w => (TyF.mk lay_ca1_4).isAgg w, z4 := fun w => (TyF.mk lay_ca1_4).sizeOf w, v4 := zero_atc lay_cv1_4, t20 := by kernel_rfl, a20 := fun w => (TyF.mk lay_ca1_20).isAgg w, z20 := fun w => (TyF.mk lay_ca1_20).sizeOf w, v20 := zero_atc lay_cv1_20, t23 := by kernel_rfl, a23 := fun w => (TyF.mk lay_ca1_23).isAgg w, z23 := fun w => (TyF.mk lay_ca1_23).sizeOf w, v23 := zero_atc lay_cv1_23 }
def extClones : CallA := orExt (extClone 163) (extClone 166)
theorem extClones_ok [Sig] (lo : Nat) : CallOK Tryz.prog lo extClones := orExt_ok (extClone_ok laysc0 lo) (extClone_ok laysc1 lo)
end Go.Proofs.YtbjomeonjlialaaGreat.V
