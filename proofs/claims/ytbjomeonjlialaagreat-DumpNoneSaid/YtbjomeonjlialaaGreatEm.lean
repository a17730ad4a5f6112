/-
  The reckoned run on all code: what it says of a call holds of the call. No condition: these are rules over any program.
-/
import Derived.Test.YtbjomeonjlialaaGreatEl
namespace Go.Proofs.YtbjomeonjlialaaGreat.V
section
variable {P : Program} {Q : Exit → Act → World → Prop} {n lo : Nat} {r : Rho} {e : Env} {w : World} {st st' : ST} {call : CallA} {plans : Nat → Nat → Option Plan} {ext : CallA}

theorem evAny_ok [Sig] (hsz : P.funcs.size ≤ YB) (hok : ∀ f c, Sig.ok f c → okC plans f c = true) (hfs : OkAll P plans) (hext : CallOK P lo ext) {k : Nat} (h : RunOK P plans ext lo k) : AnyOK P lo (evAny P ext (evRun P plans ext k)) where
  fn f args st v st' hcb hev r w Args hA hs := by
    have hlt : f < P.funcs.size := by
      unfold callB at hcb
      split at hcb
      · rename_i fn hf
        exact (Array.getElem?_eq_some_iff.1 hf).1
      · cases hcb
    unfold evAny at hev
    split at hev
    · rename_i hb
      have := Nat.le_of_ble_eq_true hb
      omega
    · exact evCall_ok hfs hext h f args st v st' hev r w Args hA hs
  yl l args st v st' hev r w Args B K hA hs hr := by
    unfold evAny at hev
    split at hev
    · have he : Nat.sub (Nat.add YB l) YB = l := by show YB + l - YB = l; omega
      rw [he] at hev
      exact evRound_ok hok h hev hA hs hr
    · rename_i hb
      have : Nat.ble YB (Nat.add YB l) = true := Nat.ble_eq_true_of_le (Nat.le_add_right YB l)
      rw [this] at hb
      cases hb

theorem Fin.of [Sig] {rd : Option Nat} {ds : List Deferred} {x : Xt} (hE : EnvR r e st.T) (hs : Sat lo r st.H w) (hd : DsR P r st.mks ds) (h : Fin P rd lo n r w (x, st) Q) : @GQ ⟨rd, ds⟩ Q x.toExit n e w :=
  h r e w ds (Rho.le.refl r) hE hs hd (Mod.refl w)

set_option maxHeartbeats 1000000 in
theorem region_ok [Sig] (hmix : P.follows .mixedOrders = true) (hcall : AnyOK P lo call) {rd : Option Nat} {ds : List Deferred} {f id : Nat} {ops : Array Oper} {draw : Bool} {outs : List (Xt × ST)} (hok : okC plans f (.region id ops draw) = true)
    (h : evRegion P call n ops draw (plans f id) st = some outs) (hE : EnvR r e st.T) (hs : Sat lo r st.H w) (hd : DsR P r st.mks ds) (hF : ∀ z ∈ outs, Fin P rd lo n r w z Q) : @GC ⟨rd, ds⟩ P (.region id ops draw) Q n e w := by
  letI fr : Fr := ⟨rd, ds⟩
  unfold evRegion at h
  cases draw with
  | true =>
    simp only at h
    split at h
    · rename_i pl hpl
      simp only [okC, hpl] at hok
      split at h
      · rename_i res hres
        have hxx : outs = [(.normal, res.st)] ∧ (res.rd = [] ∨ oksAll res.rd (st.H :: res.sn) = true) := by
          split at h
          · cases h; exact ⟨rfl, .inl ‹_›⟩
          · rename_i y l hy
            split at h
            · rename_i ho
              cases h; exact ⟨rfl, .inr ho⟩
            · cases h
        obtain ⟨rfl, hrd⟩ := hxx
        have hF := hF _ (List.mem_singleton.2 rfl)
        have hsd := hs.ext (Ext.drew w)
        have hmk := evPlan_mks hres
        have hfin : ∀ (S : World → Prop) r' e' w', r.le r' → EnvR r' e' res.st.T → Sat lo r' res.st.H w' → Mod (fun k => lo ≤ k) w.drew w' → GX P ops (NoPanic Q) S n .done e' w' := fun S r' e' w' k1 k2 k3 k4 => by
          have hq := hF r' e' w' ds k1 k2 k3 (by rw [hmk]; exact hd.mono k1) ((modLo (Ext.drew w)).trans k4)
          exact GX.doneD (by simpa [Xt.toExit] using hq)
        rcases hrd with hrd | hrd
        · exact GC.regionS pl (fun _ => True) hmix hok (evPlan_sound hcall pl [] st res r e _ hres (Rho.le.refl r) hE hsd (by rw [hrd]; simp) (fun _ _ _ _ _ _ => trivial) (hfin _))
        · have hall := oksAll_mem hrd
          refine GC.regionS pl (fun w' => ∀ x ∈ res.rd, Sx r w' x) hmix hok (evPlan_sound hcall pl [] st res r e _ hres (Rho.le.refl r) hE hsd ?_ ?_ (hfin _))
          · intro x hx
            have hx0 := oks_mem (hall st.H (by simp)) x hx
            exact ⟨Rx_ok hs hx0, fun w' hS => hS x hx⟩
          · intro H hH r' w' hle hsat x hx
            exact Sx_ok hle hsat (oks_mem (hall H (by simp [hH])) x hx)
      · cases h
    · cases h
  | false =>
    simp only at h
    split at h
    · rename_i l h1
      cases h
      have hx := evOpsN_sound (Q := Q) hcall ops.toList 0 st l r e w (by simp) h1 hE hs (fun s hsm r' e' w' k1 k2 k3 k4 => GX.done (by
        have hq := hF (.normal, s) (List.mem_map.2 ⟨s, hsm, rfl⟩) r' e' w' ds k1 k2 k3 (by rw [evOpsN_mks h1 s hsm]; exact hd.mono k1) k4
        exact hq))
      refine GC.region (effs (List.range' 0 ops.toList.length)) ?_ hx
      rw [planIdx_effs, List.range_eq_range']
      simp
    · cases h

theorem deferOf_spec {ops : Array Oper} {o : Oper} {x : Operand} (h : deferOf ops = some (o, x)) : ∃ ts ty pos aft, ops = #[o, ⟨none, .defer ⟨.value x, #[], ts⟩, ty, pos, aft, none⟩] := by
  unfold deferOf at h
  split at h
  · rename_i o' x' ts ty pos aft hl
    cases h
    exact ⟨ts, ty, pos, aft, Array.toList_inj.1 (by simpa using hl)⟩
  · cases h
/-- A call is deferred. -/
theorem evDefer_ok [Sig] {ds : List Deferred} {id : Nat} {ops : Array Oper} {outs : List (Xt × ST)} {o : Oper} {x : Operand} (hops : deferOf ops = some (o, x)) (h : evDefer P n o x st = some outs)
    (hE : EnvR r e st.T) (hs : Sat lo r st.H w) (hd : DsR P r st.mks ds) (hF : ∀ z ∈ outs, Fin P none lo n r w z Q) : @GC ⟨none, ds⟩ P (.region id ops false) Q n e w := by
  letI fr : Fr := ⟨none, ds⟩
  obtain ⟨ts, ty, pos, aft, rfl⟩ := deferOf_spec hops
  unfold evDefer at h
  split at h
  · rename_i v hg hv
    split at h
    · rename_i s hp
      split at h
      · rename_i g cs hx
        split at h
        · rename_i hcb
          cases h
          have hF := hF _ (List.mem_singleton.2 rfl)
          obtain ⟨hdst, hH, hP⟩ := put_spec hp
          have hmk := put_mks hp
          refine GC.region (.eff 0 (.eff 1 .done)) rfl (GX.eff (o := o) rfl ?_)
          obtain ⟨dst, op, ty0, pos0, aft0, g0⟩ := o
          simp only at hg
          subst hg
          refine evPure_sound rfl hE hv (by simp [wantedE]) hdst fun A hA => ?_
          have hE' := hP r e A hE hA
          obtain ⟨V, h1, h2⟩ := av_rel hE' hx
          obtain ⟨Cs, rfl, hCs⟩ := rel_f h2
          intro a ha
          have ha : @Knows ⟨none, ds⟩ a _ n := ha
          have hev : a.eval x = .func (.func g) #[] Cs.toArray := ev_eq ha h1
          have hr : (execOp a.eval ⟨none, .defer ⟨.value x, #[], ts⟩, ty, pos, aft, none⟩).run P w = .ok (.defer { target := .fn (.func g) Cs.toArray, args := #[] }) w := by
            simp [execOp, resolve, Deferred.ofValue, hev]
          show wpOpIn Fr.F 0 P _ Q 1 _ a w
          unfold wpOpIn
          simp only [List.getElem?_toArray, List.getElem?_cons_succ, List.getElem?_cons_zero, Region.wanted, if_true]
          refine ⟨fun _ _ => trivial, ?_⟩
          have hsem : Oper.semAt (@Fr.F ⟨none, ds⟩).round a.eval ⟨none, .defer ⟨.value x, #[], ts⟩, ty, pos, aft, none⟩ = execOp a.eval ⟨none, .defer ⟨.value x, #[], ts⟩, ty, pos, aft, none⟩ := rfl
          rw [hsem, hr, Oper.uponIn_defer]
          refine ⟨fun _ h => h, ?_⟩
          have hq := hF r _ w ({ target := .fn (.func g) Cs.toArray, args := #[] } :: ds) (Rho.le.refl r) hE' (by rw [hH]; exact hs) ⟨Cs.toArray, ds, by simp [hCs.length], hcb, rfl, by rw [hmk]; exact hd⟩ (Mod.refl w)
          unfold GQ at hq
          have hdef : a.defers = ds := @Knows.defers ⟨none, ds⟩ _ _ _ ha
          have hsz := @Knows.size ⟨none, ds⟩ _ _ _ ha
          have hsl := @Knows.slot ⟨none, ds⟩ _ _ _ ha
          exact hq _ (@Knows.mk ⟨none, { target := .fn (.func g) Cs.toArray, args := #[] } :: ds⟩ { tmps := a.tmps, defers := { target := .fn (.func g) Cs.toArray, args := #[] } :: a.defers } _ n (congrArg (_ :: ·) hdef) hsz hsl)
        · cases h
      · cases h
    · cases h
  · cases h

set_option maxHeartbeats 1000000 in
theorem run_sound [Sig] (hmix : P.follows .mixedOrders = true) (hsz : P.funcs.size ≤ YB) (hok0 : ∀ f c, Sig.ok f c ↔ okC plans f c = true) (hfs : OkAll P plans) (hext : CallOK P lo ext) : ∀ k, RunOK P plans ext lo k ∧ LoopOK P plans ext lo k
  | 0 => ⟨fun rd ds f n c st outs _ h => by simp [evRun] at h, fun rd f n c st outs _ h => by simp [evRun] at h⟩
  | k + 1 => by
    obtain ⟨ihR, ihL⟩ := run_sound hmix hsz hok0 hfs hext k
    have hcall : AnyOK P lo (evAny P ext (evRun P plans ext k)) := evAny_ok hsz (fun f c => (hok0 f c).1) hfs hext ihR
    have hloop : LoopOK P plans ext lo (k + 1) := by
      intro rd f n c st outs hok h
      simp only [evRun] at h
      split at h
      · rename_i l h1
        have hall : ∃ m, ∀ z ∈ l, z.1 = .normal → LoopAt P lo n rd c z.2 outs m := by
          refine exists_all (C := fun (z : Xt × ST) m => z.1 = .normal → LoopAt P lo n rd c z.2 outs m) (fun a m m' hm hC hz => (hC hz).mono hm) fun z hz => ?_
          obtain ⟨x, hx, hxm⟩ := evEach_mem h z hz
          obtain ⟨zx, zs⟩ := z
          cases zx with
          | normal =>
            obtain ⟨m, hm⟩ := ihL rd f n c zs x hok hx
            exact ⟨m, fun _ ds r e w Q k1 k2 k3 k4 => hm ds r e w Q k1 k2 k3 fun y hy => k4 y (hxm y hy)⟩
          | exit id => exact ⟨0, fun hz => by cases hz⟩
          | ret => exact ⟨0, fun hz => by cases hz⟩
        obtain ⟨m, hm⟩ := hall
        refine ⟨m + 1, fun ds r e w Q hE hs hd hF a ha => ?_⟩
        rw [roundsIn_succ]
        have hgc : @GC ⟨rd, ds⟩ P c (Exit.then (Code.roundsIn (@Fr.F ⟨rd, []⟩) 0 P c Q m) Q) n e w := ihR rd ds f n c st l hok h1 r e w _ hE hs hd (fun z hz r1 e1 w1 ds1 k1 k2 k3 k4 k5 => by
          obtain ⟨x, hx, hxm⟩ := evEach_mem h z hz
          obtain ⟨zx, zs⟩ := z
          unfold GQ
          intro a1 ha1
          cases zx with
          | normal => exact hm _ hz rfl ds1 r1 e1 w1 Q k2 k3 k4 (fun y hy => (hF y hy).after k1 k5) a1 ha1
          | exit id =>
            cases hx
            have hq := hF _ (hxm _ (List.mem_singleton.2 rfl)) r1 e1 w1 ds1 k1 k2 k3 k4 k5
            unfold GQ at hq
            exact hq a1 ha1
          | ret =>
            cases hx
            have hq := hF _ (hxm _ (List.mem_singleton.2 rfl)) r1 e1 w1 ds1 k1 k2 k3 k4 k5
            unfold GQ at hq
            exact hq a1 ha1)
        unfold GC at hgc
        exact hgc a ha
      · cases h
    refine ⟨?_, hloop⟩
    intro rd ds f n c st outs hok h r e w Q hE hs hd hF
    cases c with
    | skip =>
      simp only [evRun, Option.some.injEq] at h
      subst h
      exact @GC.skip _ _ _ _ _ ⟨rd, ds⟩ (Fin.of hE hs hd (hF _ (List.mem_singleton.2 rfl)))
    | label l =>
      simp only [evRun, Option.some.injEq] at h
      subst h
      have hq := Fin.of hE hs hd (hF _ (List.mem_singleton.2 rfl))
      unfold GC
      unfold GQ at hq
      exact fun a ha => wpIn_label (hq a ha)
    | region id ops draw =>
      simp only [evRun] at h
      split at h
      · exact region_ok hmix hcall hok h hE hs hd hF
      · rename_i o x ho
        split at h
        · rename_i hrd
          have hrd : rd = none := by cases rd <;> simp_all
          subst hrd
          exact evDefer_ok ho h hE hs hd hF
        · cases h
    | seq a b =>
      simp only [evRun] at h
      simp only [okC] at hok
      split at hok
      · rename_i hoka
        split at h
        · rename_i l h1
          have hgc : @GC ⟨rd, ds⟩ P a (Exit.then (fun a1 w1 => b.wpIn (@Fr.F ⟨rd, []⟩) 0 P Q a1 w1) Q) n e w := ihR rd ds f n a st l hoka h1 r e w _ hE hs hd (fun z hz r1 e1 w1 ds1 k1 k2 k3 k4 k5 => by
            obtain ⟨x, hx, hxm⟩ := evEach_mem h z hz
            obtain ⟨zx, zs⟩ := z
            cases zx with
            | normal =>
              have hgb := ihR rd ds1 f n b zs x hok hx r1 e1 w1 Q k2 k3 k4 (fun y hy => (hF y (hxm y hy)).after k1 k5)
              unfold GC at hgb
              unfold GQ
              exact fun a1 ha1 => hgb a1 ha1
            | exit id =>
              cases hx
              have hq := hF _ (hxm _ (List.mem_singleton.2 rfl)) r1 e1 w1 ds1 k1 k2 k3 k4 k5
              unfold GQ at hq ⊢
              exact fun a1 ha1 => hq a1 ha1
            | ret =>
              cases hx
              have hq := hF _ (hxm _ (List.mem_singleton.2 rfl)) r1 e1 w1 ds1 k1 k2 k3 k4 k5
              unfold GQ at hq ⊢
              exact fun a1 ha1 => hq a1 ha1)
          unfold GC at hgc ⊢
          exact fun a1 ha1 => wpIn_seq (hgc a1 ha1)
        · cases h
      · cases hok
    | cond y a b =>
      simp only [evRun] at h
      simp only [okC] at hok
      split at hok
      · rename_i hoka
        split at h
        · rename_i hy
          obtain ⟨V, h1, h2⟩ := av_rel hE hy
          have := rel_b h2
          subst this
          exact @GC.cond _ _ _ _ _ ⟨rd, ds⟩ _ _ _ _ h1 (fun _ => ihR rd ds f n a st outs hoka h r e w Q hE hs hd hF) (fun h => by cases h)
        · rename_i hy
          obtain ⟨V, h1, h2⟩ := av_rel hE hy
          have := rel_b h2
          subst this
          exact @GC.cond _ _ _ _ _ ⟨rd, ds⟩ _ _ _ _ h1 (fun h => by cases h) (fun _ => ihR rd ds f n b st outs hok h r e w Q hE hs hd hF)
        · cases h
      · cases hok
    | block id a =>
      simp only [evRun] at h
      simp only [okC] at hok
      split at h
      · rename_i l h1
        cases h
        refine @GC.block _ _ _ _ _ ⟨rd, ds⟩ _ _ ?_
        refine ihR rd ds f n a st l hok h1 r e w _ hE hs hd fun z hz r1 e1 w1 ds1 k1 k2 k3 k4 k5 => ?_
        have hin := hF (inBlockA id z) (List.mem_map.2 ⟨z, hz, rfl⟩)
        obtain ⟨zx, zs⟩ := z
        cases zx with
        | normal => exact @GQ.inNormal _ _ _ _ ⟨rd, ds1⟩ _ (hin r1 e1 w1 ds1 k1 k2 k3 k4 k5)
        | exit j =>
          unfold inBlockA at hin
          simp only at hin
          split at hin
          · rename_i hj
            have hj := Nat.eq_of_beq_eq_true hj
            subst hj
            exact @GQ.inExit _ _ _ _ ⟨rd, ds1⟩ _ (hin r1 e1 w1 ds1 k1 k2 k3 k4 k5)
          · rename_i hj
            exact @GQ.inExitNe _ _ _ _ ⟨rd, ds1⟩ _ _ hj (hin r1 e1 w1 ds1 k1 k2 k3 k4 k5)
        | ret => exact @GQ.inRet _ _ _ _ ⟨rd, ds1⟩ _ (hin r1 e1 w1 ds1 k1 k2 k3 k4 k5)
      · cases h
    | loop a =>
      simp only [okC] at hok
      obtain ⟨m, hm⟩ := hloop rd f n a st outs hok h
      unfold GC
      exact fun act ha => wpIn_loop_rounds m (hm ds r e w Q hE hs hd hF act ha)
    | scope a =>
      simp only [evRun] at h
      simp only [okC] at hok
      have hgc : @GC ⟨rd, ds⟩ P a (Exit.noGoto Q) n e w := ihR rd ds f n a st outs hok h r e w _ hE hs hd fun z hz r1 e1 w1 ds1 k1 k2 k3 k4 k5 => by
        have hq := hF z hz r1 e1 w1 ds1 k1 k2 k3 k4 k5
        obtain ⟨zx, zs⟩ := z
        cases zx with
        | normal => unfold GQ at hq ⊢; exact hq
        | exit id => unfold GQ at hq ⊢; exact hq
        | ret => unfold GQ at hq ⊢; exact hq
      unfold GC at hgc ⊢
      exact fun act ha => wpIn_scope (hgc act ha)
    | exit id =>
      simp only [evRun, Option.some.injEq] at h
      subst h
      exact @GC.exit _ _ _ _ _ ⟨rd, ds⟩ _ (Fin.of hE hs hd (hF _ (List.mem_singleton.2 rfl)))
    | ret =>
      simp only [evRun, Option.some.injEq] at h
      subst h
      exact @GC.ret _ _ _ _ _ ⟨rd, ds⟩ (Fin.of hE hs hd (hF _ (List.mem_singleton.2 rfl)))
    | rangeFunc g ps asg body =>
      simp only [evRun] at h
      simp only [okC] at hok
      split at hok
      · rename_i hoka
        cases rd with
        | none => exact evRangeF_ok hcall ((hok0 _ _).2 hoka) ((hok0 _ _).2 hok) hE hs hd h hF
        | some l => simp at h
      · cases hok
    | goto => simp [evRun] at h
    | refuse => simp [evRun] at h
/-- **What the run says of a call holds of the call.** -/
theorem evText_sound [Sig] (hmix : P.follows .mixedOrders = true) (hsz : P.funcs.size ≤ YB) (hok0 : ∀ f c, Sig.ok f c ↔ okC plans f c = true) (hfs : OkAll P plans) (hext : CallOK P lo ext) (k : Nat) : CallOK P lo (evText P plans ext k) :=
  evCall_ok hfs hext (run_sound hmix hsz hok0 hfs hext k).1
end
end Go.Proofs.YtbjomeonjlialaaGreat.V
