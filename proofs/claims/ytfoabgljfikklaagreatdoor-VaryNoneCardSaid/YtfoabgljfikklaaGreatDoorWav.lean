/-
  The program has functions of the library, numbered as the library wants it; printed by a program. No condition; What vary's test of a plain key computes; the functions of strings.Builder, as the walk takes them. Conditions: lengths stay below 2^40.
-/
import Derived.Test.YtfoabgljfikklaaGreatDoorWaa
import Derived.Test.YtfoabgljfikklaaGreatDoorWae
import Derived.Shelf.Strings.BuilderK
import Derived.Shelf.Strings.Search3
import Derived.Test.YtfoabgljfikklaaGreatDoorWau
set_option linter.unusedVariables false
set_option linter.unusedSimpArgs false
namespace Go.Proofs.YtfoabgljfikklaaGreatDoor.V
open Go.Shelf
theorem zero_atb {P : Program} {t : TypeId} {z : Value} (h : (P.info? t).bind (·.zero) = some z) (w : World) : (zeroValue t).run P w = .ok z w := by
  cases hi : P.info? t with
  | none => rw [hi] at h; cases h
  | some i =>
    rw [hi] at h
    have hz : i.zero = some z := h
    simp [zeroValue, typeInfo, hi, hz]
def libRen : Ren := ⟨fun | 138 => 95 | 143 => 88 | 144 => 53 | 166 => 25 | 167 => 28 | 169 => 33 | 170 => 32 | 195 => 161 | 217 => 232 | 218 => 163 | 219 => 149 | 224 => 234 | 225 => 233 | 240 => 58 | 266 => 313 | 267 => 235 | 276 => 90 | 314 => 314 | _ => 0, fun | 0 => 0 | 3 => 3 | 4 => 4 | 5 => 5 | 9 => 9 | 20 => 20 | 37 => 33 | 46 => 162 | 51 => 262 | 70 => 74 | 72 => 76 | 75 => 78 | 80 => 90 | 127 => 108 | 146 => 413 | 164 => 157 | _ => 0, fun _ => 0⟩
theorem lay_bf166 : (Tryz.prog).funcs[25]? = some (Body.n166 libRen) := by kernel_rfl
theorem lay_bf240 : (Tryz.prog).funcs[58]? = some (Body.n240 libRen) := by kernel_rfl
theorem lay_bf276 : (Tryz.prog).funcs[90]? = some (Body.n276 libRen) := by kernel_rfl
theorem lay_bt0 : tyB Tryz.prog 0 = some (false, 1) := by kernel_rfl
theorem lay_bz0 : ((Tryz.prog).info? 0).bind (·.zero) = some ((Value.tuple #[])) := by kernel_rfl
theorem lay_bt3 : tyB Tryz.prog 3 = some (false, 1) := by kernel_rfl
theorem lay_bz3 : ((Tryz.prog).info? 3).bind (·.zero) = some ((Value.int IntKind.i64 0)) := by kernel_rfl
theorem lay_bt4 : tyB Tryz.prog 4 = some (false, 1) := by kernel_rfl
theorem lay_bz4 : ((Tryz.prog).info? 4).bind (·.zero) = some ((Value.bool false)) := by kernel_rfl
theorem lay_bt9 : tyB Tryz.prog 9 = some (false, 1) := by kernel_rfl
theorem lay_bz9 : ((Tryz.prog).info? 9).bind (·.zero) = some ((Value.string { data := #[] })) := by kernel_rfl
theorem lay_bt20 : tyB Tryz.prog 20 = some (false, 1) := by kernel_rfl
theorem lay_bz20 : ((Tryz.prog).info? 20).bind (·.zero) = some ((Value.nilIface)) := by kernel_rfl
theorem lay_bt37 : tyB Tryz.prog 33 = some (false, 1) := by kernel_rfl
theorem lay_bz37 : ((Tryz.prog).info? 33).bind (·.zero) = some ((Value.slice none 0 0)) := by kernel_rfl
theorem lay_bt70 : tyB Tryz.prog 74 = some (false, 1) := by kernel_rfl
theorem lay_bz70 : ((Tryz.prog).info? 74).bind (·.zero) = some ((Value.pointer none)) := by kernel_rfl
theorem lay_bt72 : tyB Tryz.prog 76 = some (true, 2) := by kernel_rfl
theorem lay_bz72 : ((Tryz.prog).info? 76).bind (·.zero) = some ((Value.agg #[Value.pointer none, Value.slice none 0 0])) := by kernel_rfl
theorem lay_bt75 : tyB Tryz.prog 78 = some (false, 1) := by kernel_rfl
theorem lay_bz75 : ((Tryz.prog).info? 78).bind (·.zero) = some ((Value.nilIface)) := by kernel_rfl
theorem lay_bt164 : tyB Tryz.prog 157 = some (false, 1) := by kernel_rfl
theorem lay_bz164 : ((Tryz.prog).info? 157).bind (·.zero) = some ((Value.pointer none)) := by kernel_rfl
theorem lay_n166 : Lays.n166 Tryz.prog libRen := { mixed := by kernel_rfl, f166 := lay_bf166, f240 := lay_bf240, f276 := lay_bf276, t0 := by kernel_rfl, a0 := fun w => (TyF.mk lay_bt0).isAgg w, z0 := fun w => (TyF.mk lay_bt0).sizeOf w, v0 := zero_atb lay_bz0, t3 := by kernel_rfl, a3 := fun w => (TyF.mk lay_bt3).isAgg w, z3 := fun w => (TyF.mk lay_bt3).sizeOf w, v3 := zero_atb lay_bz3, t4 := by kernel_rfl, a4 := fun w => (TyF.mk lay_bt4).isAgg w, z4 := fun w => (TyF.mk lay_bt4).sizeOf w, v4 := zero_atb lay_bz4, t9 := by kernel_rfl, a9 := fun w => (TyF.mk lay_bt9).isAgg w, z9 := fun w => (TyF.mk lay_bt9).sizeOf w, v9 := zero_atb lay_bz9, t20 := by kernel_rfl, a20 := fun w => (TyF.mk lay_bt20).isAgg w, z20 := fun w => (TyF.mk lay_bt20).sizeOf w, v20 := zero_atb lay_bz20, t37 := by kernel_rfl, a37 := fun w => (TyF.mk lay_bt37).isAgg w, z37 := fun w => (TyF.mk lay_bt37).sizeOf w, v37 := zero_atb lay_bz37, t70 := by kernel_rfl, a70 := fun w => (TyF.mk lay_bt70).isAgg w, z70 := fun w => (TyF.mk lay_bt70).sizeOf w, v70 := zero_atb lay_bz70, t72 := by kernel_rfl, a72 := fun w => (TyF.mk lay_bt72).isAgg w, z72 := fun w => (TyF.mk lay_bt72).sizeOf w, v72 := zero_atb lay_bz72, t75 := by kernel_rfl, a75 := fun w => (TyF.mk lay_bt75).isAgg w, z75 := fun w => (TyF.mk lay_bt75).sizeOf w, v75 := zero_atb lay_bz75, t164 := by kernel_rfl, a164 := fun w => (TyF.mk lay_bt164).isAgg w, z164 := fun w => (TyF.mk lay_bt164).sizeOf w, v164 := zero_atb lay_bz164 }
theorem lay_bf167 : (Tryz.prog).funcs[28]? = some (Body.n167 libRen) := by kernel_rfl
theorem lay_bt5 : tyB Tryz.prog 5 = some (false, 1) := by kernel_rfl
theorem lay_bz5 : ((Tryz.prog).info? 5).bind (·.zero) = some ((Value.int IntKind.u8 0)) := by kernel_rfl
theorem lay_n167 : Lays.n167 Tryz.prog libRen := { mixed := by kernel_rfl, f167 := lay_bf167, f240 := lay_bf240, f276 := lay_bf276, t0 := by kernel_rfl, a0 := fun w => (TyF.mk lay_bt0).isAgg w, z0 := fun w => (TyF.mk lay_bt0).sizeOf w, v0 := zero_atb lay_bz0, t4 := by kernel_rfl, a4 := fun w => (TyF.mk lay_bt4).isAgg w, z4 := fun w => (TyF.mk lay_bt4).sizeOf w, v4 := zero_atb lay_bz4, t5 := by kernel_rfl, a5 := fun w => (TyF.mk lay_bt5).isAgg w, z5 := fun w => (TyF.mk lay_bt5).sizeOf w, v5 := zero_atb lay_bz5, t9 := by kernel_rfl, a9 := fun w => (TyF.mk lay_bt9).isAgg w, z9 := fun w => (TyF.mk lay_bt9).sizeOf w, v9 := zero_atb lay_bz9, t20 := by kernel_rfl, a20 := fun w => (TyF.mk lay_bt20).isAgg w, z20 := fun w => (TyF.mk lay_bt20).sizeOf w, v20 := zero_atb lay_bz20, t37 := by kernel_rfl, a37 := fun w => (TyF.mk lay_bt37).isAgg w, z37 := fun w => (TyF.mk lay_bt37).sizeOf w, v37 := zero_atb lay_bz37, t70 := by kernel_rfl, a70 := fun w => (TyF.mk lay_bt70).isAgg w, z70 := fun w => (TyF.mk lay_bt70).sizeOf w, v70 := zero_atb lay_bz70, t72 := by kernel_rfl, a72 := fun w => (TyF.mk lay_bt72).isAgg w, z72 := fun w => (TyF.mk lay_bt72).sizeOf w, v72 := zero_atb lay_bz72, t75 := by kernel_rfl, a75 := fun w => (TyF.mk lay_bt75).isAgg w, z75 := fun w => (TyF.mk lay_bt75).sizeOf w, v75 := zero_atb lay_bz75, t164 := by kernel_rfl, a164 := fun w => (TyF.mk lay_bt164).isAgg w, z164 := fun w => (TyF.mk lay_bt164).sizeOf w, v164 := zero_atb lay_bz164 }
theorem lay_bf169 : (Tryz.prog).funcs[33]? = some (Body.n169 libRen) := by kernel_rfl
theorem lay_bt127 : tyB Tryz.prog 108 = some (false, 1) := by kernel_rfl
theorem lay_bz127 : ((Tryz.prog).info? 108).bind (·.zero) = some ((Value.pointer none)) := by kernel_rfl
theorem lay_n169 : Lays.n169 Tryz.prog libRen := { mixed := by kernel_rfl, f169 := lay_bf169, t0 := by kernel_rfl, a0 := fun w => (TyF.mk lay_bt0).isAgg w, z0 := fun w => (TyF.mk lay_bt0).sizeOf w, v0 := zero_atb lay_bz0, t3 := by kernel_rfl, a3 := fun w => (TyF.mk lay_bt3).isAgg w, z3 := fun w => (TyF.mk lay_bt3).sizeOf w, v3 := zero_atb lay_bz3, t9 := by kernel_rfl, a9 := fun w => (TyF.mk lay_bt9).isAgg w, z9 := fun w => (TyF.mk lay_bt9).sizeOf w, v9 := zero_atb lay_bz9, t37 := by kernel_rfl, a37 := fun w => (TyF.mk lay_bt37).isAgg w, z37 := fun w => (TyF.mk lay_bt37).sizeOf w, v37 := zero_atb lay_bz37, t70 := by kernel_rfl, a70 := fun w => (TyF.mk lay_bt70).isAgg w, z70 := fun w => (TyF.mk lay_bt70).sizeOf w, v70 := zero_atb lay_bz70, t72 := by kernel_rfl, a72 := fun w => (TyF.mk lay_bt72).isAgg w, z72 := fun w => (TyF.mk lay_bt72).sizeOf w, v72 := zero_atb lay_bz72, t127 := by kernel_rfl, a127 := fun w => (TyF.mk lay_bt127).isAgg w, z127 := fun w => (TyF.mk lay_bt127).sizeOf w, v127 := zero_atb lay_bz127 }
theorem lay_bf170 : (Tryz.prog).funcs[32]? = some (Body.n170 libRen) := by kernel_rfl
theorem lay_n170 : Lays.n170 Tryz.prog libRen := { mixed := by kernel_rfl, f170 := lay_bf170, t0 := by kernel_rfl, a0 := fun w => (TyF.mk lay_bt0).isAgg w, z0 := fun w => (TyF.mk lay_bt0).sizeOf w, v0 := zero_atb lay_bz0, t3 := by kernel_rfl, a3 := fun w => (TyF.mk lay_bt3).isAgg w, z3 := fun w => (TyF.mk lay_bt3).sizeOf w, v3 := zero_atb lay_bz3, t37 := by kernel_rfl, a37 := fun w => (TyF.mk lay_bt37).isAgg w, z37 := fun w => (TyF.mk lay_bt37).sizeOf w, v37 := zero_atb lay_bz37, t70 := by kernel_rfl, a70 := fun w => (TyF.mk lay_bt70).isAgg w, z70 := fun w => (TyF.mk lay_bt70).sizeOf w, v70 := zero_atb lay_bz70, t72 := by kernel_rfl, a72 := fun w => (TyF.mk lay_bt72).isAgg w, z72 := fun w => (TyF.mk lay_bt72).sizeOf w, v72 := zero_atb lay_bz72 }
theorem lay_bf143 : (Tryz.prog).funcs[88]? = some (Body.n143 libRen) := by kernel_rfl
theorem lay_bf144 : (Tryz.prog).funcs[53]? = some (Body.n144 libRen) := by kernel_rfl
theorem lay_bf217 : (Tryz.prog).funcs[232]? = some (Body.n217 libRen) := by kernel_rfl
theorem lay_bf219 : (Tryz.prog).funcs[149]? = some (Body.n219 libRen) := by kernel_rfl
theorem lay_bf224 : (Tryz.prog).funcs[234]? = some (Body.n224 libRen) := by kernel_rfl
theorem lay_bf225 : (Tryz.prog).funcs[233]? = some (Body.n225 libRen) := by kernel_rfl
theorem lay_bf266 : (Tryz.prog).funcs[313]? = some (Body.n266 libRen) := by kernel_rfl
theorem lay_bf267 : (Tryz.prog).funcs[235]? = some (Body.n267 libRen) := by kernel_rfl
theorem lay_bf314 : (Tryz.prog).funcs[314]? = some (Body.n314 libRen) := by kernel_rfl
theorem lay_bt46 : tyB Tryz.prog 162 = some (false, 1) := by kernel_rfl
theorem lay_bz46 : ((Tryz.prog).info? 162).bind (·.zero) = some ((Value.int IntKind.u64 0)) := by kernel_rfl
theorem lay_bt51 : tyB Tryz.prog 262 = some (false, 1) := by kernel_rfl
theorem lay_bz51 : ((Tryz.prog).info? 262).bind (·.zero) = some ((Value.int IntKind.u32 0)) := by kernel_rfl
theorem lay_bt146 : tyB Tryz.prog 413 = some (false, 1) := by kernel_rfl
theorem lay_bz146 : ((Tryz.prog).info? 413).bind (·.zero) = some ((Value.tuple #[Value.int IntKind.u32 0, Value.int IntKind.u32 0])) := by kernel_rfl
theorem lay_n144 : Lays.n144 Tryz.prog libRen := { mixed := by kernel_rfl, f143 := lay_bf143, f144 := lay_bf144, f217 := lay_bf217, f219 := lay_bf219, f224 := lay_bf224, f225 := lay_bf225, f266 := lay_bf266, f267 := lay_bf267, f314 := lay_bf314, t3 := by kernel_rfl, a3 := fun w => (TyF.mk lay_bt3).isAgg w, z3 := fun w => (TyF.mk lay_bt3).sizeOf w, v3 := zero_atb lay_bz3, t4 := by kernel_rfl, a4 := fun w => (TyF.mk lay_bt4).isAgg w, z4 := fun w => (TyF.mk lay_bt4).sizeOf w, v4 := zero_atb lay_bz4, t5 := by kernel_rfl, a5 := fun w => (TyF.mk lay_bt5).isAgg w, z5 := fun w => (TyF.mk lay_bt5).sizeOf w, v5 := zero_atb lay_bz5, t9 := by kernel_rfl, a9 := fun w => (TyF.mk lay_bt9).isAgg w, z9 := fun w => (TyF.mk lay_bt9).sizeOf w, v9 := zero_atb lay_bz9, t46 := by kernel_rfl, a46 := fun w => (TyF.mk lay_bt46).isAgg w, z46 := fun w => (TyF.mk lay_bt46).sizeOf w, v46 := zero_atb lay_bz46, t51 := by kernel_rfl, a51 := fun w => (TyF.mk lay_bt51).isAgg w, z51 := fun w => (TyF.mk lay_bt51).sizeOf w, v51 := zero_atb lay_bz51, t146 := by kernel_rfl, a146 := fun w => (TyF.mk lay_bt146).isAgg w, z146 := fun w => (TyF.mk lay_bt146).sizeOf w, v146 := zero_atb lay_bz146, g1 := by kernel_rfl }
theorem lay_bf138 : (Tryz.prog).funcs[95]? = some (Body.n138 libRen) := by kernel_rfl
theorem lay_bf195 : (Tryz.prog).funcs[161]? = some (Body.n195 libRen) := by kernel_rfl
theorem lay_bf218 : (Tryz.prog).funcs[163]? = some (Body.n218 libRen) := by kernel_rfl
theorem lay_n138 : Lays.n138 Tryz.prog libRen := { mixed := by kernel_rfl, f138 := lay_bf138, f143 := lay_bf143, f195 := lay_bf195, f217 := lay_bf217, f218 := lay_bf218, f219 := lay_bf219, f224 := lay_bf224, f225 := lay_bf225, f266 := lay_bf266, f267 := lay_bf267, f314 := lay_bf314, t0 := by kernel_rfl, a0 := fun w => (TyF.mk lay_bt0).isAgg w, z0 := fun w => (TyF.mk lay_bt0).sizeOf w, v0 := zero_atb lay_bz0, t3 := by kernel_rfl, a3 := fun w => (TyF.mk lay_bt3).isAgg w, z3 := fun w => (TyF.mk lay_bt3).sizeOf w, v3 := zero_atb lay_bz3, t4 := by kernel_rfl, a4 := fun w => (TyF.mk lay_bt4).isAgg w, z4 := fun w => (TyF.mk lay_bt4).sizeOf w, v4 := zero_atb lay_bz4, t5 := by kernel_rfl, a5 := fun w => (TyF.mk lay_bt5).isAgg w, z5 := fun w => (TyF.mk lay_bt5).sizeOf w, v5 := zero_atb lay_bz5, t9 := by kernel_rfl, a9 := fun w => (TyF.mk lay_bt9).isAgg w, z9 := fun w => (TyF.mk lay_bt9).sizeOf w, v9 := zero_atb lay_bz9, t46 := by kernel_rfl, a46 := fun w => (TyF.mk lay_bt46).isAgg w, z46 := fun w => (TyF.mk lay_bt46).sizeOf w, v46 := zero_atb lay_bz46, t51 := by kernel_rfl, a51 := fun w => (TyF.mk lay_bt51).isAgg w, z51 := fun w => (TyF.mk lay_bt51).sizeOf w, v51 := zero_atb lay_bz51, t146 := by kernel_rfl, a146 := fun w => (TyF.mk lay_bt146).isAgg w, z146 := fun w => (TyF.mk lay_bt146).sizeOf w, v146 := zero_atb lay_bz146, g1 := by kernel_rfl }
theorem lay_x : Builder.Extra Tryz.prog libRen := { sizeBuilder := by kernel_rfl, liesBuilder := by kernel_rfl, t5 := by kernel_rfl, a5 := fun w => (TyF.mk lay_bt5).isAgg w, z5 := fun w => (TyF.mk lay_bt5).sizeOf w, v5 := zero_atb lay_bz5, infoByte := by kernel_rfl, cellsByte := by kernel_rfl, sizeByte := by kernel_rfl, neB5 := by decide }
end Go.Proofs.YtfoabgljfikklaaGreatDoor.V
namespace Go.Proofs.YtfoabgljfikklaaGreatDoor.V.Ky
open Go.RowKit
attribute [local irreducible] GX GO
set_option maxHeartbeats 400000 in
theorem keyValid_ret (l : Bs) (w : World) : Ret Tryz.prog 52 [str l].toArray w fun v w' => v = .bool (decide (0 < l.length ∧ l.length ≤ 250)) ∧ Ext w w' := by
  have hs := size_strL l
  refine Ret.enter Tryz.func52 rfl Tryz.ntmps52 rfl ?_
  (repeat (first | refine GX.doneD ?_ | refine GX.done ?_ | refine GQ.goNormal ?_ | refine GC.seq ?_ | refine GC.skip ?_ | refine GC.block ?_ | refine GC.exit ?_ | refine GC.ret ?_ | refine GQ.goExit ?_ | refine GQ.goRet ?_ | refine GQ.inNormal ?_ | refine GQ.inExit ?_ | refine GQ.inExitNe rfl ?_ | refine GQ.inRet ?_ | refine GQ.loopExit ?_ | refine GQ.loopRet ?_ | refine GQ.cutExit ?_ | refine GQ.cutRet ?_))
  refine GC.region (.pure 0 .done) rfl ?_
  (repeat (refine GX.pure rfl ?_; refine GO.assign rfl rfl rfl rfl ?_))
  (repeat (first | refine GX.doneD ?_ | refine GX.done ?_ | refine GQ.goNormal ?_ | refine GC.seq ?_ | refine GC.skip ?_ | refine GC.block ?_ | refine GC.exit ?_ | refine GC.ret ?_ | refine GQ.goExit ?_ | refine GQ.goRet ?_ | refine GQ.inNormal ?_ | refine GQ.inExit ?_ | refine GQ.inExitNe rfl ?_ | refine GQ.inRet ?_ | refine GQ.loopExit ?_ | refine GQ.loopRet ?_ | refine GQ.cutExit ?_ | refine GQ.cutRet ?_))
  refine GC.region (.pure 0 (.pure 1 (.pure 2 (.pure 3 (.pure 4 (.pure 5 (.pure 6 (.pure 7 (.pure 8 .done))))))))) rfl ?_
  (repeat (refine GX.pure rfl ?_; first | refine GO.move rfl rfl rfl rfl ?_ | refine GO.assign rfl rfl rfl rfl ?_ | refine GO.lenStr rfl rfl rfl rfl ?_ | refine GO.gtr rfl rfl rfl rfl rfl ?_ | refine GO.leq rfl rfl rfl rfl rfl ?_ | refine GO.pickT rfl rfl rfl rfl rfl ?_ | refine GO.pickF rfl rfl rfl rfl rfl ?_ | refine GO.skip (.inl rfl) rfl rfl ?_))
  refine GX.case 6 rfl (fun h => ?_) (fun h => ?_)
  · (repeat (refine GX.pure rfl ?_; first | refine GO.move rfl rfl rfl rfl ?_ | refine GO.assign rfl rfl rfl rfl ?_ | refine GO.lenStr rfl rfl rfl rfl ?_ | refine GO.gtr rfl rfl rfl rfl rfl ?_ | refine GO.leq rfl rfl rfl rfl rfl ?_ | refine GO.pickT rfl rfl rfl rfl rfl ?_ | refine GO.pickF rfl rfl rfl rfl rfl ?_ | refine GO.skip (.inl rfl) rfl rfl ?_))
    (repeat (first | refine GX.doneD ?_ | refine GX.done ?_ | refine GQ.goNormal ?_ | refine GC.seq ?_ | refine GC.skip ?_ | refine GC.block ?_ | refine GC.exit ?_ | refine GC.ret ?_ | refine GQ.goExit ?_ | refine GQ.goRet ?_ | refine GQ.inNormal ?_ | refine GQ.inExit ?_ | refine GQ.inExitNe rfl ?_ | refine GQ.inRet ?_ | refine GQ.loopExit ?_ | refine GQ.loopRet ?_ | refine GQ.cutExit ?_ | refine GQ.cutRet ?_))
    refine GQ.ret1 (by first | exact .inl rfl | exact .inr rfl) rfl rfl ?_
    refine ⟨?_, Mod.refl _⟩
    congr 1
    have := h; simp only [decide_eq_true_eq, decide_eq_false_iff_not] at this
    rw [decide_eq_decide]; omega
  · (repeat (refine GX.pure rfl ?_; first | refine GO.move rfl rfl rfl rfl ?_ | refine GO.assign rfl rfl rfl rfl ?_ | refine GO.lenStr rfl rfl rfl rfl ?_ | refine GO.gtr rfl rfl rfl rfl rfl ?_ | refine GO.leq rfl rfl rfl rfl rfl ?_ | refine GO.pickT rfl rfl rfl rfl rfl ?_ | refine GO.pickF rfl rfl rfl rfl rfl ?_ | refine GO.skip (.inl rfl) rfl rfl ?_))
    (repeat (first | refine GX.doneD ?_ | refine GX.done ?_ | refine GQ.goNormal ?_ | refine GC.seq ?_ | refine GC.skip ?_ | refine GC.block ?_ | refine GC.exit ?_ | refine GC.ret ?_ | refine GQ.goExit ?_ | refine GQ.goRet ?_ | refine GQ.inNormal ?_ | refine GQ.inExit ?_ | refine GQ.inExitNe rfl ?_ | refine GQ.inRet ?_ | refine GQ.loopExit ?_ | refine GQ.loopRet ?_ | refine GQ.cutExit ?_ | refine GQ.cutRet ?_))
    refine GQ.ret1 (by first | exact .inl rfl | exact .inr rfl) rfl rfl ?_
    refine ⟨?_, Mod.refl _⟩
    congr 1
    have := h; simp only [decide_eq_true_eq, decide_eq_false_iff_not] at this
    symm
    rw [decide_eq_false_iff_not]; omega
theorem ixb (c : UInt8) : ∀ l : Bs, decide (0 ≤ Lib.indexByte l c) = l.contains c
  | [] => by simp [Lib.indexByte]
  | b :: l => by
    have hge := Lib.indexByte_ge l c
    have ih := ixb c l
    rw [List.contains_cons, ← ih]
    have e : Lib.indexByte (b :: l) c = if b == c then 0 else if Lib.indexByte l c == -1 then -1 else Lib.indexByte l c + 1 := rfl
    rw [e]
    by_cases h : b = c
    · subst h; simp
    · have h1 : (b == c) = false := by simpa using h
      have h2 : (c == b) = false := by simpa using fun e => h e.symm
      rw [h1, h2]
      simp only [Bool.false_eq_true, if_false, Bool.false_or]
      split
      · rename_i h3
        have h3 : Lib.indexByte l c = -1 := by simpa using h3
        rw [h3]
      · rename_i h3
        have h3 : ¬ Lib.indexByte l c = -1 := by simpa using h3
        rw [decide_eq_decide]; omega
theorem strContains_ret (l : Bs) (w : World) : Ret Tryz.prog 53 [str l, str [63]].toArray w fun v w' => v = .bool (l.contains 63) ∧ w' = w := by
  refine Ret.of_calls ((Any.strings_Contains_one lay_n144 ⟨l.toArray⟩ 63 w).mono ?_)
  rintro e w' ⟨rfl, rfl⟩
  exact ⟨_, rfl, congrArg Value.bool (ixb 63 l), rfl⟩
set_option maxHeartbeats 400000 in
theorem plain_ret (l : Bs) (w : World) : Ret Tryz.prog 22 [str l].toArray w fun v w' => v = .bool (plainB l) ∧ Ext w w' := by
  refine Ret.enter Tryz.func22 rfl Tryz.ntmps22 rfl ?_
  (repeat (first | refine GX.doneD ?_ | refine GX.done ?_ | refine GQ.goNormal ?_ | refine GC.seq ?_ | refine GC.skip ?_ | refine GC.block ?_ | refine GC.exit ?_ | refine GC.ret ?_ | refine GQ.goExit ?_ | refine GQ.goRet ?_ | refine GQ.inNormal ?_ | refine GQ.inExit ?_ | refine GQ.inExitNe rfl ?_ | refine GQ.inRet ?_ | refine GQ.loopExit ?_ | refine GQ.loopRet ?_ | refine GQ.cutExit ?_ | refine GQ.cutRet ?_))
  refine GC.region (.pure 0 .done) rfl ?_
  (repeat (refine GX.pure rfl ?_; refine GO.assign rfl rfl rfl rfl ?_))
  (repeat (first | refine GX.doneD ?_ | refine GX.done ?_ | refine GQ.goNormal ?_ | refine GC.seq ?_ | refine GC.skip ?_ | refine GC.block ?_ | refine GC.exit ?_ | refine GC.ret ?_ | refine GQ.goExit ?_ | refine GQ.goRet ?_ | refine GQ.inNormal ?_ | refine GQ.inExit ?_ | refine GQ.inExitNe rfl ?_ | refine GQ.inRet ?_ | refine GQ.loopExit ?_ | refine GQ.loopRet ?_ | refine GQ.cutExit ?_ | refine GQ.cutRet ?_))
  refine GC.region (.pure 0 (.eff 1 (.pure 2 (.pure 3 (.eff 4 (.pure 5 (.pure 6 (.pure 7 .done)))))))) rfl ?_
  (repeat (refine GX.pure rfl ?_; first | refine GO.move rfl rfl rfl rfl ?_ | refine GO.assign rfl rfl rfl rfl ?_ | refine GO.pickT rfl rfl rfl rfl rfl ?_ | refine GO.pickF rfl rfl rfl rfl rfl ?_ | refine GO.not rfl rfl rfl rfl ?_ | refine GO.skip (.inl rfl) rfl rfl ?_))
  (refine GX.eff rfl ?_; refine GO.callL rfl rfl rfl rfl rfl (keyValid_ret l _) ?_)
  rintro v w1 ⟨rfl, hE⟩
  refine ⟨fun _ h => by first | trivial | exact Mod.trans h (Ext.mod (by assumption)), ?_⟩
  (repeat (refine GX.pure rfl ?_; first | refine GO.move rfl rfl rfl rfl ?_ | refine GO.assign rfl rfl rfl rfl ?_ | refine GO.pickT rfl rfl rfl rfl rfl ?_ | refine GO.pickF rfl rfl rfl rfl rfl ?_ | refine GO.not rfl rfl rfl rfl ?_ | refine GO.skip (.inl rfl) rfl rfl ?_))
  refine GX.case 5 rfl (fun h => ?_) (fun h => ?_)
  · (repeat (refine GX.pure rfl ?_; first | refine GO.move rfl rfl rfl rfl ?_ | refine GO.assign rfl rfl rfl rfl ?_ | refine GO.pickT rfl rfl rfl rfl rfl ?_ | refine GO.pickF rfl rfl rfl rfl rfl ?_ | refine GO.not rfl rfl rfl rfl ?_ | refine GO.skip (.inl rfl) rfl rfl ?_))
    (refine GX.eff rfl ?_; refine GO.callL rfl rfl rfl rfl rfl (strContains_ret l _) ?_)
    rintro v w2 ⟨rfl, rfl⟩
    refine ⟨fun _ h => by first | trivial | exact Mod.trans h (Ext.mod (by assumption)), ?_⟩
    (repeat (refine GX.pure rfl ?_; first | refine GO.move rfl rfl rfl rfl ?_ | refine GO.assign rfl rfl rfl rfl ?_ | refine GO.pickT rfl rfl rfl rfl rfl ?_ | refine GO.pickF rfl rfl rfl rfl rfl ?_ | refine GO.not rfl rfl rfl rfl ?_ | refine GO.skip (.inl rfl) rfl rfl ?_))
    (repeat (first | refine GX.doneD ?_ | refine GX.done ?_ | refine GQ.goNormal ?_ | refine GC.seq ?_ | refine GC.skip ?_ | refine GC.block ?_ | refine GC.exit ?_ | refine GC.ret ?_ | refine GQ.goExit ?_ | refine GQ.goRet ?_ | refine GQ.inNormal ?_ | refine GQ.inExit ?_ | refine GQ.inExitNe rfl ?_ | refine GQ.inRet ?_ | refine GQ.loopExit ?_ | refine GQ.loopRet ?_ | refine GQ.cutExit ?_ | refine GQ.cutRet ?_))
    refine GQ.ret1 (by first | exact .inl rfl | exact .inr rfl) rfl rfl ?_
    refine ⟨congrArg Value.bool ?_, hE⟩
    have := of_decide_eq_true h
    simp [plainB, show 1 ≤ l.length by omega, this.2]
  · (repeat (first | (refine GX.pure rfl ?_; first | refine GO.move rfl rfl rfl rfl ?_ | refine GO.assign rfl rfl rfl rfl ?_ | refine GO.pickT rfl rfl rfl rfl rfl ?_ | refine GO.pickF rfl rfl rfl rfl rfl ?_ | refine GO.not rfl rfl rfl rfl ?_ | refine GO.skip (.inl rfl) rfl rfl ?_) | (refine GX.eff rfl ?_; refine GO.skip (.inr rfl) rfl rfl ?_) | (refine GX.read rfl ?_; refine GO.skipRead (by assumption) rfl rfl ?_)))
    (repeat (first | refine GX.doneD ?_ | refine GX.done ?_ | refine GQ.goNormal ?_ | refine GC.seq ?_ | refine GC.skip ?_ | refine GC.block ?_ | refine GC.exit ?_ | refine GC.ret ?_ | refine GQ.goExit ?_ | refine GQ.goRet ?_ | refine GQ.inNormal ?_ | refine GQ.inExit ?_ | refine GQ.inExitNe rfl ?_ | refine GQ.inRet ?_ | refine GQ.loopExit ?_ | refine GQ.loopRet ?_ | refine GQ.cutExit ?_ | refine GQ.cutRet ?_))
    refine GQ.ret1 (by first | exact .inl rfl | exact .inr rfl) rfl rfl ?_
    refine ⟨congrArg Value.bool ?_, hE⟩
    have := of_decide_eq_false h
    unfold plainB
    by_cases h1 : 1 ≤ l.length
    · have : ¬ l.length ≤ 250 := fun h2 => this ⟨h1, h2⟩
      simp [this]
    · simp [h1]
def BuA (w : World) (B b : Nat) (l : Bs) : Prop := Lib.IsBuilderF 76 5 B b (Lib.byteCells l) w ∧ B ≤ w.heap.size
structure BuK (B b : Nat) (w w' : World) : Prop where
  below : Below B w w'
  kept : Lib.OthersKept 5 (some b) w w'
theorem BuK.refl (B b : Nat) (w : World) : BuK B b w w := ⟨Below.refl B w, Lib.OthersKept.refl _ _ _⟩
theorem BuK.trans {B b : Nat} {x y z : World} (h : BuK B b x y) (k : BuK B b y z) : BuK B b x z := ⟨h.below.trans k.below, h.kept.trans k.kept⟩
def Rw (w : World) (x : Nat) (c : List Value) : Prop := ∃ (d : Array Value) (t : TypeId) (fz : Nat × Nat), w.heap[x]? = some (.cells d t fz) ∧ t ≠ 5 ∧ ∀ (i : Nat) (v : Value), c[i]? = some v → d[i]? = some v
theorem Rw.kept {B b x : Nat} {w w' : World} {c : List Value} (h : Rw w x c) (hk : BuK B b w w') (hx : x ≠ b) : Rw w' x c := by
  obtain ⟨d, t, fz, h1, h2, h3⟩ := h
  exact ⟨d, t, fz, hk.kept x _ h1 (fun e => hx (by cases e; rfl)) (fun c fz' e => h2 (by cases e; rfl)), h2, h3⟩
theorem Rw.ext {x : Nat} {w w' : World} {c : List Value} (h : Rw w x c) (hk : Ext w w') : Rw w' x c := by
  obtain ⟨d, t, fz, h1, h2, h3⟩ := h
  exact ⟨d, t, fz, hk.row h1 id, h2, h3⟩
theorem Rw.at {x : Nat} {w : World} {c : List Value} (h : Rw w x c) : At w x 0 c := by
  obtain ⟨d, t, fz, h1, h2, h3⟩ := h
  intro i v hv
  have := h3 i v hv
  simp [World.cell?, h1, this]
theorem BuK.ext {B b : Nat} {w0 w w' : World} (hk : BuK B b w w') (hB : w0.heap.size = B) (hE : Ext w0 w) : Ext w0 w' :=
  ⟨hk.below.os.trans hE.1, hk.below.tape.trans hE.2, hk.below.output.trans hE.3, Nat.le_trans hE.4 hk.below.size, fun k h n => (hk.below.block k (by omega)).trans (hE.5 k h n)⟩
theorem writeByte_ret (B b : Nat) (l : Bs) (c : UInt8) (w : World) (h : BuA w B b l) (hl : l.length < 2 ^ 40) :
    Ret Tryz.prog 28 [.pointer (some ⟨b, 0, none⟩), byteV c].toArray w fun _ w' => BuA w' B b (l ++ [c]) ∧ BuK B b w w' := by
  refine Ret.of_calls ((Any.Builder_WriteByte_k lay_n167 lay_x B b (Lib.byteCells l) c.toNat w h.1 (by simp [Lib.byteCells]; omega) h.2).mono ?_)
  rintro e w' ⟨rfl, h1, h2, h3⟩
  exact ⟨_, rfl, ⟨.inr (by rw [show Lib.byteCells (l ++ [c]) = Lib.byteCells l ++ [.int .u8 c.toNat] by simp [Lib.byteCells]]; exact h1), Nat.le_trans h.2 h2.size⟩, h2, h3⟩
theorem writeString_ret (B b : Nat) (l m : Bs) (w : World) (h : BuA w B b l) (hl : l.length < 2 ^ 40) (hm : m.length < 2 ^ 40) :
    Ret Tryz.prog 25 [.pointer (some ⟨b, 0, none⟩), str m].toArray w fun _ w' => BuA w' B b (l ++ m) ∧ BuK B b w w' := by
  refine Ret.of_calls ((Any.Builder_WriteString_k lay_n166 lay_x B b (Lib.byteCells l) ⟨m.toArray⟩ w h.1 (by rw [size_strL]; simp [Lib.byteCells]; omega) h.2).mono ?_)
  rintro e w' ⟨rfl, h1, h2, h3⟩
  exact ⟨_, rfl, ⟨.inr (by rw [show Lib.byteCells (l ++ m) = Lib.byteCells l ++ Lib.strCells ⟨m.toArray⟩ by simp [Lib.byteCells, Lib.strCells]]; exact h1), Nat.le_trans h.2 h2.size⟩, h2, h3⟩
theorem len_ret (B b : Nat) (l : Bs) (w : World) (h : BuA w B b l) :
    Ret Tryz.prog 32 [.pointer (some ⟨b, 0, none⟩)].toArray w fun v w' => v = .int .i64 l.length ∧ w' = w := by
  refine Ret.of_calls ((Any.Builder_Len_f lay_n170 B b (Lib.byteCells l) w h.1).mono ?_)
  rintro e w' ⟨rfl, rfl⟩
  exact ⟨_, rfl, by simp [Lib.byteCells], rfl⟩
theorem string_ret (B b : Nat) (l : Bs) (w : World) (h : BuA w B b l) :
    Ret Tryz.prog 33 [.pointer (some ⟨b, 0, none⟩)].toArray w fun v w' => v = str l ∧ BuK B b w w' := by
  refine Ret.of_calls ((Any.Builder_String_any_k lay_n169 lay_x B b l w h.1 h.2).mono ?_)
  rintro e w' ⟨rfl, h1, h2, h3⟩
  exact ⟨_, rfl, rfl, h2, h3⟩
end Go.Proofs.YtfoabgljfikklaaGreatDoor.V.Ky
