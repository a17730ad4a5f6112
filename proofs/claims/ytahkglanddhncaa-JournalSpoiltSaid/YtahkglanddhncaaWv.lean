/-
  What the functions that copy a command and read the next one compute (package journal). Conditions: the command's parts are shorter than 2^28.
-/
import Derived.Test.YtahkglanddhncaaWu
import Derived.Test.YtahkglanddhncaaWt
namespace Go.Proofs.Ytahkglanddhncaa.V
attribute [local irreducible] GX GO

theorem OwnS.strs {w : World} {el : Nat} {ob : Option Nat} {a : Option Addr} {l : List (List UInt8)} {cap : Nat} (h : OwnS w el 1 ob a l.length cap (strsV l)) (hF : ∀ x, a = some x → ob = some x.block) : StrsAt w a cap l := ⟨h.sla, h.cap_le, h.nil_cap, fun x hx _ => by have := hF x hx; subst this; exact h.block.2⟩

set_option maxHeartbeats 2000000 in
theorem copied_ret (c : Cmd) (hc : OkC c) (l : List Value) (B : Nat) (w : World) (hV : CmdV w B l c) :
    Ret Try.prog 35 [.agg l.toArray].toArray w fun v w' => ∃ l', v = .agg l'.toArray ∧ CmdV w' w.heap.size l' c ∧ Ext w w' := by
  obtain ⟨ka, kc, va, vc, ta, tc, rfl, hK, hA, hT, hX⟩ := hV
  have hsm := hc.small
  have h1 := hsm.value
  have h2 := hc.keys
  have h3 := hc.tags
  
  refine Ret.enter Try.func35 rfl Try.ntmps35 rfl ?_
  (repeat (first | refine GX.doneD ?_ | refine GX.done ?_ | refine GQ.goNormal ?_ | refine GC.seq ?_ | refine GC.skip ?_ | refine GC.block ?_ | refine GC.exit ?_ | refine GC.ret ?_ | refine GQ.goExit ?_ | refine GQ.goRet ?_ | refine GQ.inNormal ?_ | refine GQ.inExit ?_ | refine GQ.inExitNe rfl ?_ | refine GQ.inRet ?_ | refine GQ.loopExit ?_ | refine GQ.loopRet ?_ | refine GQ.cutExit ?_ | refine GQ.cutRet ?_))
  refine GC.region (.eff 0 (.eff 1 .done)) rfl ?_
  refine GX.eff rfl ?_
  refine GO.box (l := cmdCells c ka kc va vc ta tc) rfl rfl rfl rfl fun b1 w1 hb1 hB1 hE1 => ?_
  refine ⟨fun _ h => by first | trivial | exact Mod.trans h (Ext.mod (by assumption)), ?_⟩
  refine GX.eff rfl ?_
  refine GO.alloc rfl rfl fun b2 w2 hb2 hB2 hE2 => ?_
  refine ⟨fun _ h => by first | trivial | exact Mod.trans h (Ext.mod (by assumption)), ?_⟩
  (repeat (first | refine GX.doneD ?_ | refine GX.done ?_ | refine GQ.goNormal ?_ | refine GC.seq ?_ | refine GC.skip ?_ | refine GC.block ?_ | refine GC.exit ?_ | refine GC.ret ?_ | refine GQ.goExit ?_ | refine GQ.goRet ?_ | refine GQ.inNormal ?_ | refine GQ.inExit ?_ | refine GQ.inExitNe rfl ?_ | refine GQ.inRet ?_ | refine GQ.loopExit ?_ | refine GQ.loopRet ?_ | refine GQ.cutExit ?_ | refine GQ.cutRet ?_))
  have hB1' := hB1.ext hE2
  have hE12 := hE1.trans hE2
  refine GC.regionD (.pure 0 (.pure 3 (.pure 6 (.read 1 (.read 4 (.read 7 (.eff 2 (.pure 9 (.eff 5 (.eff 8 (.eff 10 (.pure 11 (.eff 12 (.pure 13 (.eff 14 .done))))))))))))))) (fun _ => False) mixed (by kernel_rfl) (by kernel_rfl) ?_
  intro w3 _ hE3
  have hS : Mod (fun _ => False) w2 w3 := hE3
  have hE13 := hE12.trans hE3
  (repeat (refine GX.pure rfl ?_; refine GO.fieldAddr rfl rfl rfl rfl rfl ?_))
  (first | (refine GX.eff rfl ?_; first | refine GO.load1 (hB1'.get (o := 0 + 3) rfl) rfl rfl rfl ?_ | refine GO.loadN (hB1'.get (o := 0 + 3) rfl) rfl rfl rfl rfl ?_) | (refine GX.read rfl ?_; first | refine GO.load1R (by assumption) (fun _ hS_ => At.mod (hB1'.get (o := 0 + 3) rfl) hS_ (by simp)) rfl rfl rfl ?_ | refine GO.loadNR (by assumption) (fun _ hS_ => At.mod (hB1'.get (o := 0 + 3) rfl) hS_ (by simp)) rfl rfl rfl rfl ?_))
  (first | (refine GX.eff rfl ?_; first | refine GO.load1 (hB1'.get (o := 0 + 2) rfl) rfl rfl rfl ?_ | refine GO.loadN (hB1'.get (o := 0 + 2) rfl) rfl rfl rfl rfl ?_) | (refine GX.read rfl ?_; first | refine GO.load1R (by assumption) (fun _ hS_ => At.mod (hB1'.get (o := 0 + 2) rfl) hS_ (by simp)) rfl rfl rfl ?_ | refine GO.loadNR (by assumption) (fun _ hS_ => At.mod (hB1'.get (o := 0 + 2) rfl) hS_ (by simp)) rfl rfl rfl rfl ?_))
  (first | (refine GX.eff rfl ?_; first | refine GO.load1 (hB1'.get (o := 0 + 4) rfl) rfl rfl rfl ?_ | refine GO.loadN (hB1'.get (o := 0 + 4) rfl) rfl rfl rfl rfl ?_) | (refine GX.read rfl ?_; first | refine GO.load1R (by assumption) (fun _ hS_ => At.mod (hB1'.get (o := 0 + 4) rfl) hS_ (by simp)) rfl rfl rfl ?_ | refine GO.loadNR (by assumption) (fun _ hS_ => At.mod (hB1'.get (o := 0 + 4) rfl) hS_ (by simp)) rfl rfl rfl rfl ?_))
  (refine GX.eff rfl ?_; refine GO.callL rfl rfl rfl rfl rfl (cloneB_ret (el := 5) (sz := 1) (by_ := 1) rfl c.value.length (bytesV c.value) (by simp) (bytesV_one _) (by omega) (by omega) va vc w3 (hA.ext hE13).cells (hA.ext hE13).nil) ?_)
  rintro v w4 ⟨ob4, a4, c4, rfl, hO4, hE4, hF4, hG4⟩
  refine ⟨fun _ h => by first | trivial | exact Mod.trans h (Ext.mod (by assumption)), ?_⟩
  (repeat (refine GX.pure rfl ?_; refine GO.fieldAddr rfl rfl rfl rfl rfl ?_))
  (refine GX.eff rfl ?_; refine GO.callL rfl rfl rfl rfl rfl (cloneStrs_ret (el := 9) (sz := 1) (by_ := 16) rfl c.keys.length (strsV c.keys) (by simp [strsV]) (strsV_one _) (by omega) (by omega) ka kc w4 (hK.mod (hE13.trans hE4) (by simp)).cells hK.nil) ?_)
  rintro v w5 ⟨ob5, a5, c5, rfl, hO5, hE5, hF5, hG5⟩
  refine ⟨fun _ h => by first | trivial | exact Mod.trans h (Ext.mod (by assumption)), ?_⟩
  (refine GX.eff rfl ?_; refine GO.callL rfl rfl rfl rfl rfl (cloneStrs_ret (el := 9) (sz := 1) (by_ := 16) rfl c.tags.length (strsV c.tags) (by simp [strsV]) (strsV_one _) (by omega) (by omega) ta tc w5 (hT.mod ((hE13.trans hE4).trans hE5) (by simp)).cells hT.nil) ?_)
  rintro v w6 ⟨ob6, a6, c6, rfl, hO6, hE6, hF6, hG6⟩
  refine ⟨fun _ h => by first | trivial | exact Mod.trans h (Ext.mod (by assumption)), ?_⟩
  (repeat (refine GX.pure rfl ?_; refine GO.fieldAddr rfl rfl rfl rfl rfl ?_))
  have hB6 := (((hB1'.ext hE3).ext hE4).ext hE5).ext hE6
  have hV6 : CmdV w6 w2.heap.size (cmdCells c a5 c5 a4 c4 a6 c6) c := by
    refine ⟨a5, c5, a4, c4, a6, c6, rfl, ((hO5.strs hG5).mod hE6 (by simp)), ((hO4.bytes hG4).ext hE5).ext hE6, hO6.strs hG6, ?_⟩
    have := hE3.size
    have := hE4.size
    have := hE5.size
    rintro y (⟨h, _⟩ | ⟨h, _⟩ | ⟨h, _⟩)
    · have := hF5 _ (hG5 y h); omega
    · have := hF4 _ (hG4 y h); omega
    · have := hF6 _ (hG6 y h); omega
  have s1 := hE1.size
  have s2 := hE2.size
  have hb1l := hB1.lt
  have hb2l := hB2.lt
  refine GX.eff rfl ?_
  refine GO.store (vs := [.slice a4 c.value.length c4]) (hB6.wr (by simp [cmdCells])) rfl rfl (by simp [Value.oneCell']) rfl rfl rfl fun w7 hp7 => ⟨(by first | exact fun _ _ => trivial | exact late_abs (by kernel_rfl)), ?_⟩
  have hB7 : Blk w7 b1 (cmdCells c ka kc a4 c4 ta tc) := by have := hp7.blk hB6; simpa [cmdCells] using this
  (repeat (refine GX.pure rfl ?_; refine GO.fieldAddr rfl rfl rfl rfl rfl ?_))
  refine GX.eff rfl ?_
  refine GO.store (vs := [.slice a5 c.keys.length c5]) (hB7.wr (by simp [cmdCells])) rfl rfl (by simp [Value.oneCell']) rfl rfl rfl fun w8 hp8 => ⟨(by first | exact fun _ _ => trivial | exact late_abs (by kernel_rfl)), ?_⟩
  have hB8 : Blk w8 b1 (cmdCells c a5 c5 a4 c4 ta tc) := by have := hp8.blk hB7; simpa [cmdCells] using this
  (repeat (refine GX.pure rfl ?_; refine GO.fieldAddr rfl rfl rfl rfl rfl ?_))
  refine GX.eff rfl ?_
  refine GO.store (vs := [.slice a6 c.tags.length c6]) (hB8.wr (by simp [cmdCells])) rfl rfl (by simp [Value.oneCell']) rfl rfl rfl fun w9 hp9 => ⟨(by first | exact fun _ _ => trivial | exact late_abs (by kernel_rfl)), ?_⟩
  have hB9 : Blk w9 b1 (cmdCells c a5 c5 a4 c4 a6 c6) := by have := hp9.blk hB8; simpa [cmdCells] using this
  have hM69 : Mod (· = b1) w6 w9 := (hp7.mod.trans hp8.mod).trans hp9.mod
  have hB29 := ((((hB2.ext hE3).ext hE4).ext hE5).ext hE6).mod hM69 (by omega)
  have hV9 := hV6.mod hM69 (fun k hk => .inl (by omega))
  (repeat (first | refine GX.doneD ?_ | refine GX.done ?_ | refine GQ.goNormal ?_ | refine GC.seq ?_ | refine GC.skip ?_ | refine GC.block ?_ | refine GC.exit ?_ | refine GC.ret ?_ | refine GQ.goExit ?_ | refine GQ.goRet ?_ | refine GQ.inNormal ?_ | refine GQ.inExit ?_ | refine GQ.inExitNe rfl ?_ | refine GQ.inRet ?_ | refine GQ.loopExit ?_ | refine GQ.loopRet ?_ | refine GQ.cutExit ?_ | refine GQ.cutRet ?_))
  refine GC.region (.eff 0 (.eff 1 .done)) rfl ?_
  (first | (refine GX.eff rfl ?_; first | refine GO.load1 (hB9.at) rfl rfl rfl ?_ | refine GO.loadN (hB9.at) rfl rfl rfl rfl ?_) | (refine GX.read rfl ?_; first | refine GO.load1R (by assumption) (fun _ hS_ => At.mod (hB9.at) hS_ (by simp)) rfl rfl rfl ?_ | refine GO.loadNR (by assumption) (fun _ hS_ => At.mod (hB9.at) hS_ (by simp)) rfl rfl rfl rfl ?_))
  refine GX.eff rfl ?_
  refine GO.store (vs := cmdCells c a5 c5 a4 c4 a6 c6) (hB29.wr (by simp [cmdCells])) rfl rfl (by simp [Value.oneCell', cmdCells, str]) rfl rfl rfl fun w10 hp => ⟨(by first | exact fun _ _ => trivial | exact late_abs (by kernel_rfl)), ?_⟩
  (repeat (first | refine GX.doneD ?_ | refine GX.done ?_ | refine GQ.goNormal ?_ | refine GC.seq ?_ | refine GC.skip ?_ | refine GC.block ?_ | refine GC.exit ?_ | refine GC.ret ?_ | refine GQ.goExit ?_ | refine GQ.goRet ?_ | refine GQ.inNormal ?_ | refine GQ.inExit ?_ | refine GQ.inExitNe rfl ?_ | refine GQ.inRet ?_ | refine GQ.loopExit ?_ | refine GQ.loopRet ?_ | refine GQ.cutExit ?_ | refine GQ.cutRet ?_))
  have hb10 : Blk w10 b2 (cmdCells c a5 c5 a4 c4 a6 c6) := by have := hp.blk hB29; simpa [cmdCells] using this
  refine GQ.retC (l := cmdCells c a5 c5 a4 c4 a6 c6) (.inl rfl) rfl rfl hb10.at rfl ?_
  have hV10 : CmdV w10 w2.heap.size (cmdCells c a5 c5 a4 c4 a6 c6) c := hV9.mod hp.mod (fun k hk => .inl (by omega))
  have hE6' : Ext w w6 := ((hE13.trans hE4).trans hE5).trans hE6
  exact ⟨_, rfl, hV10.mono (by omega), (hE6'.then hM69 fun i hi h => by omega).then hp.mod fun i hi h => by omega⟩
end Go.Proofs.Ytahkglanddhncaa.V
