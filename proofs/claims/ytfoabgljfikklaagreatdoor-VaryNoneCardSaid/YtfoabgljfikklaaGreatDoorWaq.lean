/-
  The reckoned run on rounds of a range over a function, and on the range itself. No condition: these are rules over any program; and what follows from it.
-/
import Derived.Test.YtfoabgljfikklaaGreatDoorWap
import Derived.Shelf.SlIterI.Collect
import Derived.Test.YtfoabgljfikklaaGreatDoorWaf
set_option linter.unusedVariables false
set_option linter.unusedSimpArgs false
namespace Go.Proofs.YtfoabgljfikklaaGreatDoor.V
section
variable {P : Program} {Q : Exit → Act → World → Prop} {n lo : Nat} {r : Rho} {e : Env} {w : World} {st st' : ST} {call : CallA} {plans : Nat → Nat → Option Plan} {ext : CallA}
theorem look_argE' : ∀ (l : List Value) (t s : Nat) (v : Value), l[s]? = some v → look (t + s) (argE t l) = some v
  | [], t, s, v, h => by simp at h
  | u :: l, t, 0, v, h => by
    simp at h
    subst h
    simp [argE, look]
  | u :: l, t, s + 1, v, h => by
    have h1 := look_argE' l (t + 1) s v (by simpa using h)
    have hb : Nat.beq t (t + (s + 1)) = false := by
      cases hb : Nat.beq t (t + (s + 1)) with
      | true => have := Nat.eq_of_beq_eq_true hb; omega
      | false => rfl
    simp only [argE, look, hb]
    rwa [show t + (s + 1) = t + 1 + s by omega]
theorem slots_env [Sig] {tmps : Array Value} {T : Tr AV} (h : SlotsR r n tmps T) : EnvR r (argE 0 tmps.toList) T := fun t a ht => by
  obtain ⟨A, h1, h2⟩ := h.2 t a ht
  refine ⟨A, ?_, h2⟩
  have := look_argE' tmps.toList 0 t A (by simpa using h1)
  simpa using this
theorem slots_knows {tmps : Array Value} (h : tmps.size = n) (rd : Option Nat) : @Knows ⟨rd, []⟩ { tmps := tmps, defers := [] } (argE 0 tmps.toList) n := by
  refine @Knows.mk ⟨rd, []⟩ _ _ _ rfl h fun t v ht => ?_
  obtain ⟨_, h2⟩ := look_argE tmps.toList 0 t v ht
  show tmps[t]? = some v
  simpa using h2
theorem putPs_slots [Sig] : ∀ {ps : List Nat} {args : List AV} {Args : List Value} {T T1 : Tr AV} {tmps : Array Value}, SlotsR r n tmps T → RelL r args Args → putPs n T ps args = some T1 →
    ps.length = Args.length ∧ SlotsR r n ((ps.zip Args).foldl (fun tm x => tm.setIfInBounds x.1 x.2) tmps) T1
  | [], [], Args, T, T1, tmps, h, hA, hp => by
    rw [hA.of_nil]
    simp only [putPs, Option.some.injEq] at hp
    subst hp
    exact ⟨rfl, h⟩
  | p :: ps, v :: vs, Args, T, T1, tmps, h, hA, hp => by
    obtain ⟨A, M, rfl, hA1, hA2⟩ := hA.of_cons
    simp only [putPs] at hp
    split at hp
    · rename_i hlt
      have hlt := blt_lt hlt
      have h' : SlotsR r n (tmps.setIfInBounds p A) (T.put p v) := ⟨by simp [h.1], fun t a ht => by
        rw [Tr.get_put] at ht
        split at ht
        · rename_i e
          subst e
          cases ht
          exact ⟨A, by simp [h.1, hlt], hA1⟩
        · rename_i e
          obtain ⟨X, h1, h2⟩ := h.2 t a ht
          exact ⟨X, by rw [Array.getElem?_setIfInBounds_ne (fun q => e q.symm)]; exact h1, h2⟩⟩
      obtain ⟨q1, q2⟩ := putPs_slots h' hA2 hp
      exact ⟨by simp [q1], by simpa using q2⟩
    · cases hp
  | [], _ :: _, _, _, _, _, _, _, hp => by simp [putPs] at hp
  | _ :: _, [], _, _, _, _, _, _, hp => by simp [putPs] at hp
set_option maxHeartbeats 1000000 in
theorem evRound_ok [Sig] (hok : ∀ f c, Sig.ok f c → okC plans f c = true) {k : Nat} (h : RunOK P plans ext lo k) {l : Nat} {args : List AV} {v : AV} (hev : evRound (evRun P plans ext k) l args st = some (v, st')) {Args : List Value} {B K : Nat}
    (hA : RelL r args Args) (hs : Sat lo r st.H w) (hr : r l = some (B, K)) : YieldOK P B Args w fun V w' => After lo r w v st'.H V w' := by
  unfold evRound at hev
  split at hev
  · rename_i f n T ps asg body d hl
    obtain ⟨hlo, fn, tmps, D, KD, hd, ok1, ok2, hsl, hB⟩ := hs.here hl hr
    split at hev
    · rename_i T1 hT1
      obtain ⟨hlen, hsl1⟩ := putPs_slots hsl hA hT1
      split at hev
      · rename_i s1 hrun1
        split at hev
        · rename_i f' n' T' ps' asg' body' d' hl1 hm1
          split at hev
          · rename_i z hrun2
            obtain ⟨tm1, htm⟩ : ∃ x, x = (ps.zip Args).foldl (fun tm x => tm.setIfInBounds x.1 x.2) tmps := ⟨_, rfl⟩
            rw [← htm] at hsl1
            have hyl : (Instr.yield B Args.toArray).run P w = .ok (.round B fn tm1 asg body) w := by
              have := run_yield (P := P) (args := Args.toArray) hB (by simp [hlen])
              rw [this, htm]
              simp
            refine ⟨fn, tm1, asg, body, hyl, roundIn_of_wpIn (F := Fence.wide) trivial ?_⟩
            have hgc := h (some B) [] f n asg ⟨T1, st.H, st.next, []⟩ _ (hok _ _ ok1) hrun1 r _ w
              (Exit.then (fun a₁ w₁ => ∃ w₂, (Instr.beginRound B).run P w₁ = .ok () w₂ ∧ body.wpIn (Fence.wide.inRound B) 0 P (roundPost P B (fun en w' => ∃ V, en = .returned V ∧ After lo r w v st'.H V w')) a₁ w₂) (fun _ _ _ => False))
              (slots_env hsl1) hs rfl ?_
            · unfold GC at hgc
              exact hgc _ (slots_knows hsl1.1 (some B))
            intro y hy r1 e1 w1 ds1 k1 k2 k3 k4 k5
            simp only [List.mem_singleton] at hy
            subst hy
            rw [hm1] at k4
            have k4 : ds1 = [] := k4
            subst k4
            unfold GQ
            intro a ha
            obtain ⟨hlo1, fn1, tmps1, D1, KD1, hd1, ok11, ok21, hsl11, hB1⟩ := k3.here hl1 (k1 _ _ hr)
            have hbeg := run_beginRound (P := P) hB1 rfl
            refine ⟨_, hbeg, ?_⟩
            have hmod := mod_put w1 B (.loop { state := .busy, pending := pendC none, fn := fn1, tmps := tmps1, params := ps'.toArray, assign := asg', body := body', defers := D1 })
            have hlt := (Array.getElem?_eq_some_iff.1 hB1).1
            have hs2 := k3.upd hl1 rfl (k1 _ _ hr) (hlo1 rfl) hmod (ab' := .lp 1 none f' n' T' ps' asg' body' d') ⟨fn1, tmps1, D1, KD1, hd1, ok11, ok21, hsl11, World.putObj_heap_same hlt⟩
            have hM2 : Mod (fun k => lo ≤ k) w1 _ := hmod.weaken fun k _ hk => by subst hk; exact hlo1 rfl
            have hgc2 := h (some B) [] f n body ⟨s1.T, _, s1.next, []⟩ _ (hok _ _ ok2) hrun2 r1 e1 _ (roundPost P B (fun en w' => ∃ V, en = .returned V ∧ After lo r w v st'.H V w')) k2 hs2 rfl ?_
            · unfold GC at hgc2
              exact hgc2 a ha
            intro y hy r2 e2 w3 ds2 m1 m2 m3 m4 m5
            simp only [List.mem_singleton] at hy
            subst hy
            unfold GQ
            intro a' ha'
            unfold endRoundA at hev
            split at hev
            · rename_i f2 n2 T2 ps2 asg2 body2 d2 hl2 hm2
              obtain ⟨hlo2, fn2, tmps2, D2, KD2, hd2, ok12, ok22, hsl2, hB2⟩ := m3.here hl2 (m1 _ _ (k1 _ _ hr))
              have hlt2 := (Array.getElem?_eq_some_iff.1 hB2).1
              have fin : ∀ (jump : Option Code) (ph : Nat) (pend : Option (Option Nat)) (b : Bool), pendC pend = jump → phaseC ph = (if jump.isNone then .ready else .done) → jump.isNone = b → v = .b b → st'.H = y.2.H.put l (.lp ph pend f2 n2 T2 ps2 asg2 body2 d2) →
                  ∃ v0 w4, (Instr.endRound B jump).run P w3 = .ok v0 w4 ∧ ∃ V, Ending.returned v0 = .returned V ∧ After lo r w v st'.H V w4 := by
                intro jump ph pend b hj hp hb hv hH
                refine ⟨_, _, run_endRound jump hB2, _, rfl, r2, k1.trans m1, ?_, ?_, ?_⟩
                · rw [hv, hb]; exact mk_b b
                · rw [hH]
                  exact m3.upd hl2 rfl (m1 _ _ (k1 _ _ hr)) (hlo2 rfl) (mod_put w3 B _) ⟨fn2, tmps2, D2, KD2, hd2, ok12, ok22, hsl2, by rw [hj, hp]; exact World.putObj_heap_same hlt2⟩
                · exact ((k5.trans hM2).trans m5).trans ((mod_put w3 B _).weaken fun k _ hk => by subst hk; exact hlo2 rfl)
              split at hev
              · rename_i hz
                cases hev
                rw [hz]
                exact fin none 0 none true rfl rfl rfl rfl rfl
              · rename_i hz
                cases hev
                rw [hz]
                exact fin (some .ret) 2 (some none) false rfl rfl rfl rfl rfl
              · rename_i id hz
                cases hev
                rw [hz]
                exact fin (some (.exit id)) 2 (some (some id)) false rfl rfl rfl rfl rfl
            · cases hev
          · cases hev
        · cases hev
      · cases hev
    · cases hev
  · cases hev
set_option maxHeartbeats 1000000 in
theorem evRangeF_ok [Sig] (hany : AnyOK P lo call) {f : Nat} {ps : Array Tmp} {asg body : Code} {outs : List (Xt × ST)} {g : Operand} {ds : List Deferred} (ok1 : Sig.ok f asg) (ok2 : Sig.ok f body) (hE : EnvR r e st.T) (hs : Sat lo r st.H w) (hd : DsR P r st.mks ds)
    (h : evRangeF call f n (av st.T g) ps.toList asg body P st = some outs) (hfin : ∀ z ∈ outs, Fin P none lo n r w z Q) : @GC ⟨none, ds⟩ P (.rangeFunc g ps asg body) Q n e w := by
  unfold evRangeF at h
  split at h
  · rename_i hh cs hg hf1 hf2
    split at h
    · rename_i u s hcb hcall
      obtain ⟨G, hg1, hg2⟩ := av_rel hE hg
      obtain ⟨Cs, rfl, hCs⟩ := rel_f hg2
      unfold GC
      intro a ha
      have hsize : a.tmps.size = n := @Knows.size ⟨none, ds⟩ _ _ _ ha
      have hslot : ∀ t v, look t e = some v → a.tmps[t]? = some v := @Knows.slot ⟨none, ds⟩ _ _ _ ha
      have hdef : a.defers = ds := @Knows.defers ⟨none, ds⟩ _ _ _ ha
      have hev : a.eval g = .func (.func hh) #[] Cs.toArray := @ev_eq ⟨none, ds⟩ a e n ha _ _ hg1
      refine wpIn_rangeFunc (F := @Fr.F ⟨none, ds⟩) fun fn _ => ?_
      have hx1 := Ext.alloc w (.deferred (some []))
      obtain ⟨hle1, hs1⟩ := hs.newTop (K := 0) hf1 hx1 (ab := .df) (heap_alloc_new w _)
      obtain ⟨w1, hw1⟩ : ∃ x, x = w.alloc (.deferred (some [])) := ⟨_, rfl⟩
      rw [← hw1] at hx1 hs1
      have hsz1 : w1.heap.size = w.heap.size + 1 := by rw [hw1]; simp
      obtain ⟨rec, hrec⟩ : ∃ x : Loop, x = { state := .ready, pending := none, fn := fn, tmps := a.tmps, params := ps, assign := asg, body := body, defers := w.heap.size } := ⟨_, rfl⟩
      have hx2 := Ext.alloc w1 (.loop rec)
      obtain ⟨w2, hw2⟩ : ∃ x, x = w1.alloc (.loop rec) := ⟨_, rfl⟩
      have hne : ¬ st.next = st.next + 1 := by omega
      have hle2 := Rho.le.set (hs1.free (st.next + 1) (by rw [Tr.get_put, if_neg (by omega)]; exact hf2)) (w1.heap.size, 0)
      obtain ⟨_, hs2⟩ := hs1.newTop (K := 0) (b := st.next + 1) (by rw [Tr.get_put, if_neg (by omega)]; exact hf2) hx2 (ab := .lp 0 none f n st.T ps.toList asg body st.next)
        ⟨fn, a.tmps, w.heap.size, 0, by rw [Rho.set, if_neg hne]; exact Rho.set_same _ _ _, ok1, ok2, ⟨hsize, fun t x ht => by
          obtain ⟨A, q1, q2⟩ := hE t x ht
          exact ⟨A, hslot t A q1, q2.mono (hle1.trans hle2)⟩⟩, by
          rw [heap_alloc_new w1, hrec]
          rfl⟩
      rw [← hw2] at hx2 hs2
      have hx12 : Ext w w2 := hx1.trans hx2
      have he : (Instr.enterLoop fn a.tmps ps asg body (@Fr.F ⟨none, ds⟩).round).run P w = .ok (w.heap.size + 1, [{ target := .collected w.heap.size, args := #[] }]) w2 := by
        have := run_enterLoop_outer (P := P) (w := w) fn a.tmps ps asg body
        rw [hw2, hw1, hrec]
        exact this
      have hret := hany.fn hh _ _ _ _ hcb hcall _ w2 (.func (.yield (w.heap.size + 1)) #[] #[] :: Cs) (RelL.cons (by
          unfold Rel
          exact ⟨w1.heap.size, 0, Rho.set_same _ _ _, by rw [hsz1]⟩) (hCs.mono (hle1.trans hle2))) hs2
      haveI : CaF P hh := ⟨hcb⟩
      refine ⟨w.heap.size + 1, _, w2, { target := .fn (.func hh) Cs.toArray, args := #[.func (.yield (w.heap.size + 1)) #[] #[]] }, w2, hh, (.func (.yield (w.heap.size + 1)) #[] #[] :: Cs).toArray, w2, he, ?_, fun _ _ => trivial, ?_, fun h => (by cases h), ?_⟩
      · have hcv : ∀ v, a.eval (.const v) = v := fun v => rfl
        simp [resolve, rangeCall, Deferred.ofValue, hev, hcv]
      · simp [invoke, run_callFunc]
      · refine Fr.calls.2 (Calls.mono hret.calls fun en w3 ⟨V, he, hA⟩ => ?_)
        subst he
        obtain ⟨r3, hle3, _, hs3, hm3⟩ := hA
        have hr3d : r3 st.next = some (w.heap.size, 0) := hle3 _ _ (hle2 _ _ (Rho.set_same _ _ _))
        have hr3l : r3 (st.next + 1) = some (w1.heap.size, 0) := hle3 _ _ (Rho.set_same _ _ _)
        have hEr : EnvR r3 e st.T := hE.mono ((hle1.trans hle2).trans hle3)
        have hM3 : Mod (fun k => lo ≤ k) w w3 := (modLo hx12).trans hm3
        have hDs : DsR P r3 (.d st.next :: st.mks) ({ target := .collected w.heap.size, args := #[] } :: ds) := ⟨_, _, ds, hr3d, rfl, hd.mono ((hle1.trans hle2).trans hle3)⟩
        have fin : ∀ (ph : Nat) (pend : Option (Option Nat)) (f0 n0 : Nat) (T0 : Tr AV) (ps0 : List Nat) (a0 b0 : Code) (d0 : Nat) (x : Xt), s.H.get (st.next + 1) = some (.lp ph pend f0 n0 T0 ps0 a0 b0 d0) → phaseC ph ≠ .busy → outs = [(x, ⟨st.T, s.H.put (st.next + 1) .dead, s.next, .d st.next :: st.mks⟩)] →
            ∃ w4, (Instr.endLoop (w.heap.size + 1)).run P w3 = .ok (pendC pend) w4 ∧ ∀ a', a' = { a with defers := [{ target := .collected w.heap.size, args := #[] }] ++ a.defers } → Q x.toExit a' w4 := by
          intro ph pend f0 n0 T0 ps0 a0 b0 d0 x hget hph hout
          have hr3m : r3 (st.next + 1) = some (w.heap.size + 1, 0) := by rw [← hsz1]; exact hr3l
          obtain ⟨hlo4, fn4, tmps4, D4, KD4, hd4, ok14, ok24, hsl4, hB4⟩ := hs3.here hget hr3m
          obtain ⟨ob, hend⟩ : ∃ ob, (Instr.endLoop (w.heap.size + 1)).run P w3 = .ok (pendC pend) (w3.putObj (w.heap.size + 1) ob) := ⟨_, run_endLoop (P := P) hB4 hph⟩
          refine ⟨_, hend, ?_⟩
          rintro a' rfl
          have hs4 := hs3.upd hget rfl hr3m (hlo4 rfl) (mod_put w3 (w.heap.size + 1) ob) (ab' := .dead) trivial
          have hq := hfin _ (by rw [hout]; exact List.mem_cons_self) r3 e _ _ ((hle1.trans hle2).trans hle3) hEr hs4 hDs (hM3.trans ((mod_put w3 (w.heap.size + 1) ob).weaken fun k _ hk => by subst hk; exact hlo4 rfl))
          unfold GQ at hq
          refine hq _ ?_
          refine @Knows.mk ⟨none, { target := .collected w.heap.size, args := #[] } :: ds⟩ _ _ _ ?_ hsize hslot
          show { target := .collected w.heap.size, args := #[] } :: a.defers = { target := .collected w.heap.size, args := #[] } :: ds
          rw [hdef]
        split at h
        · rename_i hget
          cases h
          obtain ⟨w4, h1, h2⟩ := fin 0 none _ _ _ _ _ _ _ .normal hget (by simp [phaseC]) rfl
          exact ⟨_, w4, h1, h2 _ rfl⟩
        · rename_i hget
          cases h
          obtain ⟨w4, h1, h2⟩ := fin 2 (some none) _ _ _ _ _ _ _ .ret hget (by simp [phaseC]) rfl
          exact ⟨_, w4, h1, wpIn_ret (h2 _ rfl)⟩
        · rename_i id f0 n0 T0 ps0 a0 b0 d0 hget
          cases h
          obtain ⟨w4, h1, h2⟩ := fin 2 (some (some id)) _ _ _ _ _ _ _ (.exit id) hget (by simp [phaseC]) rfl
          exact ⟨_, w4, h1, wpIn_exit (h2 _ rfl)⟩
        · cases h
    · cases h
  · cases h
end
end Go.Proofs.YtfoabgljfikklaaGreatDoor.V
namespace Go.Proofs.YtfoabgljfikklaaGreatDoor.V
section
variable {P : Program} {Q : Exit → Act → World → Prop} {n lo : Nat} {r : Rho} {e : Env} {w : World} {st st' : ST} {call : CallA} {plans : Nat → Nat → Option Plan} {ext : CallA}
theorem evAny_ok [Sig] (hsz : P.funcs.size ≤ YB) (hok : ∀ f c, Sig.ok f c → okC plans f c = true) (hfs : OkAll P plans) (hext : CallOK P lo ext) {k : Nat} (h : RunOK P plans ext lo k) : AnyOK P lo (evAny P ext (evRun P plans ext k)) where
  fn f args st v st' hcb hev r w Args hA hs := by
    have hlt : f < P.funcs.size := by
      unfold callB at hcb
      split at hcb
      · rename_i fn hf
        exact (Array.getElem?_eq_some_iff.1 hf).1
      · cases hcb
    unfold evAny at hev
    split at hev
    · rename_i hb
      have := Nat.le_of_ble_eq_true hb
      omega
    · exact evCall_ok hfs hext h f args st v st' hev r w Args hA hs
  yl l args st v st' hev r w Args B K hA hs hr := by
    unfold evAny at hev
    split at hev
    · have he : Nat.sub (Nat.add YB l) YB = l := by show YB + l - YB = l; omega
      rw [he] at hev
      exact evRound_ok hok h hev hA hs hr
    · rename_i hb
      have : Nat.ble YB (Nat.add YB l) = true := Nat.ble_eq_true_of_le (Nat.le_add_right YB l)
      rw [this] at hb
      cases hb
theorem Fin.of [Sig] {rd : Option Nat} {ds : List Deferred} {x : Xt} (hE : EnvR r e st.T) (hs : Sat lo r st.H w) (hd : DsR P r st.mks ds) (h : Fin P rd lo n r w (x, st) Q) : @GQ ⟨rd, ds⟩ Q x.toExit n e w :=
  h r e w ds (Rho.le.refl r) hE hs hd (Mod.refl w)
set_option maxHeartbeats 1000000 in
theorem region_ok [Sig] (hmix : P.follows .mixedOrders = true) (hcall : AnyOK P lo call) {rd : Option Nat} {ds : List Deferred} {f id : Nat} {ops : Array Oper} {draw : Bool} {outs : List (Xt × ST)} (hok : okC plans f (.region id ops draw) = true)
    (h : evRegion P call n ops draw (plans f id) st = some outs) (hE : EnvR r e st.T) (hs : Sat lo r st.H w) (hd : DsR P r st.mks ds) (hF : ∀ z ∈ outs, Fin P rd lo n r w z Q) : @GC ⟨rd, ds⟩ P (.region id ops draw) Q n e w := by
  letI fr : Fr := ⟨rd, ds⟩
  unfold evRegion at h
  cases draw with
  | true =>
    simp only at h
    split at h
    · rename_i pl hpl
      simp only [okC, hpl] at hok
      split at h
      · rename_i res hres
        have hxx : outs = [(.normal, res.st)] ∧ (res.rd = [] ∨ oksAll res.rd (st.H :: res.sn) = true) := by
          split at h
          · cases h; exact ⟨rfl, .inl ‹_›⟩
          · rename_i y l hy
            split at h
            · rename_i ho
              cases h; exact ⟨rfl, .inr ho⟩
            · cases h
        obtain ⟨rfl, hrd⟩ := hxx
        have hF := hF _ (List.mem_singleton.2 rfl)
        have hsd := hs.ext (Ext.drew w)
        have hmk := evPlan_mks hres
        have hfin : ∀ (S : World → Prop) r' e' w', r.le r' → EnvR r' e' res.st.T → Sat lo r' res.st.H w' → Mod (fun k => lo ≤ k) w.drew w' → GX P ops (NoPanic Q) S n .done e' w' := fun S r' e' w' k1 k2 k3 k4 => by
          have hq := hF r' e' w' ds k1 k2 k3 (by rw [hmk]; exact hd.mono k1) ((modLo (Ext.drew w)).trans k4)
          exact GX.doneD (by simpa [Xt.toExit] using hq)
        rcases hrd with hrd | hrd
        · exact GC.regionS pl (fun _ => True) hmix hok (evPlan_sound hcall pl [] st res r e _ hres (Rho.le.refl r) hE hsd (by rw [hrd]; simp) (fun _ _ _ _ _ _ => trivial) (hfin _))
        · have hall := oksAll_mem hrd
          refine GC.regionS pl (fun w' => ∀ x ∈ res.rd, Sx r w' x) hmix hok (evPlan_sound hcall pl [] st res r e _ hres (Rho.le.refl r) hE hsd ?_ ?_ (hfin _))
          · intro x hx
            have hx0 := oks_mem (hall st.H (by simp)) x hx
            exact ⟨Rx_ok hs hx0, fun w' hS => hS x hx⟩
          · intro H hH r' w' hle hsat x hx
            exact Sx_ok hle hsat (oks_mem (hall H (by simp [hH])) x hx)
      · cases h
    · cases h
  | false =>
    simp only at h
    split at h
    · rename_i l h1
      cases h
      have hx := evOpsN_sound (Q := Q) hcall ops.toList 0 st l r e w (by simp) h1 hE hs (fun s hsm r' e' w' k1 k2 k3 k4 => GX.done (by
        have hq := hF (.normal, s) (List.mem_map.2 ⟨s, hsm, rfl⟩) r' e' w' ds k1 k2 k3 (by rw [evOpsN_mks h1 s hsm]; exact hd.mono k1) k4
        exact hq))
      refine GC.region (effs (List.range' 0 ops.toList.length)) ?_ hx
      rw [planIdx_effs, List.range_eq_range']
      simp
    · cases h
theorem deferOf_spec {ops : Array Oper} {o : Oper} {x : Operand} (h : deferOf ops = some (o, x)) : ∃ ts ty pos aft, ops = #[o, ⟨none, .defer ⟨.value x, #[], ts⟩, ty, pos, aft, none⟩] := by
  unfold deferOf at h
  split at h
  · rename_i o' x' ts ty pos aft hl
    cases h
    exact ⟨ts, ty, pos, aft, Array.toList_inj.1 (by simpa using hl)⟩
  · cases h
theorem evDefer_ok [Sig] {ds : List Deferred} {id : Nat} {ops : Array Oper} {outs : List (Xt × ST)} {o : Oper} {x : Operand} (hops : deferOf ops = some (o, x)) (h : evDefer P n o x st = some outs)
    (hE : EnvR r e st.T) (hs : Sat lo r st.H w) (hd : DsR P r st.mks ds) (hF : ∀ z ∈ outs, Fin P none lo n r w z Q) : @GC ⟨none, ds⟩ P (.region id ops false) Q n e w := by
  letI fr : Fr := ⟨none, ds⟩
  obtain ⟨ts, ty, pos, aft, rfl⟩ := deferOf_spec hops
  unfold evDefer at h
  split at h
  · rename_i v hg hv
    split at h
    · rename_i s hp
      split at h
      · rename_i g cs hx
        split at h
        · rename_i hcb
          cases h
          have hF := hF _ (List.mem_singleton.2 rfl)
          obtain ⟨hdst, hH, hP⟩ := put_spec hp
          have hmk := put_mks hp
          refine GC.region (.eff 0 (.eff 1 .done)) rfl (GX.eff (o := o) rfl ?_)
          obtain ⟨dst, op, ty0, pos0, aft0, g0⟩ := o
          simp only at hg
          subst hg
          refine evPure_sound rfl hE hv (by simp [wantedE]) hdst fun A hA => ?_
          have hE' := hP r e A hE hA
          obtain ⟨V, h1, h2⟩ := av_rel hE' hx
          obtain ⟨Cs, rfl, hCs⟩ := rel_f h2
          intro a ha
          have ha : @Knows ⟨none, ds⟩ a _ n := ha
          have hev : a.eval x = .func (.func g) #[] Cs.toArray := ev_eq ha h1
          have hr : (execOp a.eval ⟨none, .defer ⟨.value x, #[], ts⟩, ty, pos, aft, none⟩).run P w = .ok (.defer { target := .fn (.func g) Cs.toArray, args := #[] }) w := by
            simp [execOp, resolve, Deferred.ofValue, hev]
          show wpOpIn Fr.F 0 P _ Q 1 _ a w
          unfold wpOpIn
          simp only [List.getElem?_toArray, List.getElem?_cons_succ, List.getElem?_cons_zero, Region.wanted, if_true]
          refine ⟨fun _ _ => trivial, ?_⟩
          have hsem : Oper.semAt (@Fr.F ⟨none, ds⟩).round a.eval ⟨none, .defer ⟨.value x, #[], ts⟩, ty, pos, aft, none⟩ = execOp a.eval ⟨none, .defer ⟨.value x, #[], ts⟩, ty, pos, aft, none⟩ := rfl
          rw [hsem, hr, Oper.uponIn_defer]
          refine ⟨fun _ h => h, ?_⟩
          have hq := hF r _ w ({ target := .fn (.func g) Cs.toArray, args := #[] } :: ds) (Rho.le.refl r) hE' (by rw [hH]; exact hs) ⟨Cs.toArray, ds, by simp [hCs.length], hcb, rfl, by rw [hmk]; exact hd⟩ (Mod.refl w)
          unfold GQ at hq
          have hdef : a.defers = ds := @Knows.defers ⟨none, ds⟩ _ _ _ ha
          have hsz := @Knows.size ⟨none, ds⟩ _ _ _ ha
          have hsl := @Knows.slot ⟨none, ds⟩ _ _ _ ha
          exact hq _ (@Knows.mk ⟨none, { target := .fn (.func g) Cs.toArray, args := #[] } :: ds⟩ { tmps := a.tmps, defers := { target := .fn (.func g) Cs.toArray, args := #[] } :: a.defers } _ n (congrArg (_ :: ·) hdef) hsz hsl)
        · cases h
      · cases h
    · cases h
  · cases h
set_option maxHeartbeats 1000000 in
theorem run_sound [Sig] (hmix : P.follows .mixedOrders = true) (hsz : P.funcs.size ≤ YB) (hok0 : ∀ f c, Sig.ok f c ↔ okC plans f c = true) (hfs : OkAll P plans) (hext : CallOK P lo ext) : ∀ k, RunOK P plans ext lo k ∧ LoopOK P plans ext lo k
  | 0 => ⟨fun rd ds f n c st outs _ h => by simp [evRun] at h, fun rd f n c st outs _ h => by simp [evRun] at h⟩
  | k + 1 => by
    obtain ⟨ihR, ihL⟩ := run_sound hmix hsz hok0 hfs hext k
    have hcall : AnyOK P lo (evAny P ext (evRun P plans ext k)) := evAny_ok hsz (fun f c => (hok0 f c).1) hfs hext ihR
    have hloop : LoopOK P plans ext lo (k + 1) := by
      intro rd f n c st outs hok h
      simp only [evRun] at h
      split at h
      · rename_i l h1
        have hall : ∃ m, ∀ z ∈ l, z.1 = .normal → LoopAt P lo n rd c z.2 outs m := by
          refine exists_all (C := fun (z : Xt × ST) m => z.1 = .normal → LoopAt P lo n rd c z.2 outs m) (fun a m m' hm hC hz => (hC hz).mono hm) fun z hz => ?_
          obtain ⟨x, hx, hxm⟩ := evEach_mem h z hz
          obtain ⟨zx, zs⟩ := z
          cases zx with
          | normal =>
            obtain ⟨m, hm⟩ := ihL rd f n c zs x hok hx
            exact ⟨m, fun _ ds r e w Q k1 k2 k3 k4 => hm ds r e w Q k1 k2 k3 fun y hy => k4 y (hxm y hy)⟩
          | exit id => exact ⟨0, fun hz => by cases hz⟩
          | ret => exact ⟨0, fun hz => by cases hz⟩
        obtain ⟨m, hm⟩ := hall
        refine ⟨m + 1, fun ds r e w Q hE hs hd hF a ha => ?_⟩
        rw [roundsIn_succ]
        have hgc : @GC ⟨rd, ds⟩ P c (Exit.then (Code.roundsIn (@Fr.F ⟨rd, []⟩) 0 P c Q m) Q) n e w := ihR rd ds f n c st l hok h1 r e w _ hE hs hd (fun z hz r1 e1 w1 ds1 k1 k2 k3 k4 k5 => by
          obtain ⟨x, hx, hxm⟩ := evEach_mem h z hz
          obtain ⟨zx, zs⟩ := z
          unfold GQ
          intro a1 ha1
          cases zx with
          | normal => exact hm _ hz rfl ds1 r1 e1 w1 Q k2 k3 k4 (fun y hy => (hF y hy).after k1 k5) a1 ha1
          | exit id =>
            cases hx
            have hq := hF _ (hxm _ (List.mem_singleton.2 rfl)) r1 e1 w1 ds1 k1 k2 k3 k4 k5
            unfold GQ at hq
            exact hq a1 ha1
          | ret =>
            cases hx
            have hq := hF _ (hxm _ (List.mem_singleton.2 rfl)) r1 e1 w1 ds1 k1 k2 k3 k4 k5
            unfold GQ at hq
            exact hq a1 ha1)
        unfold GC at hgc
        exact hgc a ha
      · cases h
    refine ⟨?_, hloop⟩
    intro rd ds f n c st outs hok h r e w Q hE hs hd hF
    cases c with
    | skip =>
      simp only [evRun, Option.some.injEq] at h
      subst h
      exact @GC.skip _ _ _ _ _ ⟨rd, ds⟩ (Fin.of hE hs hd (hF _ (List.mem_singleton.2 rfl)))
    | label l =>
      simp only [evRun, Option.some.injEq] at h
      subst h
      have hq := Fin.of hE hs hd (hF _ (List.mem_singleton.2 rfl))
      unfold GC
      unfold GQ at hq
      exact fun a ha => wpIn_label (hq a ha)
    | region id ops draw =>
      simp only [evRun] at h
      split at h
      · exact region_ok hmix hcall hok h hE hs hd hF
      · rename_i o x ho
        split at h
        · rename_i hrd
          have hrd : rd = none := by cases rd <;> simp_all
          subst hrd
          exact evDefer_ok ho h hE hs hd hF
        · cases h
    | seq a b =>
      simp only [evRun] at h
      simp only [okC] at hok
      split at hok
      · rename_i hoka
        split at h
        · rename_i l h1
          have hgc : @GC ⟨rd, ds⟩ P a (Exit.then (fun a1 w1 => b.wpIn (@Fr.F ⟨rd, []⟩) 0 P Q a1 w1) Q) n e w := ihR rd ds f n a st l hoka h1 r e w _ hE hs hd (fun z hz r1 e1 w1 ds1 k1 k2 k3 k4 k5 => by
            obtain ⟨x, hx, hxm⟩ := evEach_mem h z hz
            obtain ⟨zx, zs⟩ := z
            cases zx with
            | normal =>
              have hgb := ihR rd ds1 f n b zs x hok hx r1 e1 w1 Q k2 k3 k4 (fun y hy => (hF y (hxm y hy)).after k1 k5)
              unfold GC at hgb
              unfold GQ
              exact fun a1 ha1 => hgb a1 ha1
            | exit id =>
              cases hx
              have hq := hF _ (hxm _ (List.mem_singleton.2 rfl)) r1 e1 w1 ds1 k1 k2 k3 k4 k5
              unfold GQ at hq ⊢
              exact fun a1 ha1 => hq a1 ha1
            | ret =>
              cases hx
              have hq := hF _ (hxm _ (List.mem_singleton.2 rfl)) r1 e1 w1 ds1 k1 k2 k3 k4 k5
              unfold GQ at hq ⊢
              exact fun a1 ha1 => hq a1 ha1)
          unfold GC at hgc ⊢
          exact fun a1 ha1 => wpIn_seq (hgc a1 ha1)
        · cases h
      · cases hok
    | cond y a b =>
      simp only [evRun] at h
      simp only [okC] at hok
      split at hok
      · rename_i hoka
        split at h
        · rename_i hy
          obtain ⟨V, h1, h2⟩ := av_rel hE hy
          have := rel_b h2
          subst this
          exact @GC.cond _ _ _ _ _ ⟨rd, ds⟩ _ _ _ _ h1 (fun _ => ihR rd ds f n a st outs hoka h r e w Q hE hs hd hF) (fun h => by cases h)
        · rename_i hy
          obtain ⟨V, h1, h2⟩ := av_rel hE hy
          have := rel_b h2
          subst this
          exact @GC.cond _ _ _ _ _ ⟨rd, ds⟩ _ _ _ _ h1 (fun h => by cases h) (fun _ => ihR rd ds f n b st outs hok h r e w Q hE hs hd hF)
        · cases h
      · cases hok
    | block id a =>
      simp only [evRun] at h
      simp only [okC] at hok
      split at h
      · rename_i l h1
        cases h
        refine @GC.block _ _ _ _ _ ⟨rd, ds⟩ _ _ ?_
        refine ihR rd ds f n a st l hok h1 r e w _ hE hs hd fun z hz r1 e1 w1 ds1 k1 k2 k3 k4 k5 => ?_
        have hin := hF (inBlockA id z) (List.mem_map.2 ⟨z, hz, rfl⟩)
        obtain ⟨zx, zs⟩ := z
        cases zx with
        | normal => exact @GQ.inNormal _ _ _ _ ⟨rd, ds1⟩ _ (hin r1 e1 w1 ds1 k1 k2 k3 k4 k5)
        | exit j =>
          unfold inBlockA at hin
          simp only at hin
          split at hin
          · rename_i hj
            have hj := Nat.eq_of_beq_eq_true hj
            subst hj
            exact @GQ.inExit _ _ _ _ ⟨rd, ds1⟩ _ (hin r1 e1 w1 ds1 k1 k2 k3 k4 k5)
          · rename_i hj
            exact @GQ.inExitNe _ _ _ _ ⟨rd, ds1⟩ _ _ hj (hin r1 e1 w1 ds1 k1 k2 k3 k4 k5)
        | ret => exact @GQ.inRet _ _ _ _ ⟨rd, ds1⟩ _ (hin r1 e1 w1 ds1 k1 k2 k3 k4 k5)
      · cases h
    | loop a =>
      simp only [okC] at hok
      obtain ⟨m, hm⟩ := hloop rd f n a st outs hok h
      unfold GC
      exact fun act ha => wpIn_loop_rounds m (hm ds r e w Q hE hs hd hF act ha)
    | scope a =>
      simp only [evRun] at h
      simp only [okC] at hok
      have hgc : @GC ⟨rd, ds⟩ P a (Exit.noGoto Q) n e w := ihR rd ds f n a st outs hok h r e w _ hE hs hd fun z hz r1 e1 w1 ds1 k1 k2 k3 k4 k5 => by
        have hq := hF z hz r1 e1 w1 ds1 k1 k2 k3 k4 k5
        obtain ⟨zx, zs⟩ := z
        cases zx with
        | normal => unfold GQ at hq ⊢; exact hq
        | exit id => unfold GQ at hq ⊢; exact hq
        | ret => unfold GQ at hq ⊢; exact hq
      unfold GC at hgc ⊢
      exact fun act ha => wpIn_scope (hgc act ha)
    | exit id =>
      simp only [evRun, Option.some.injEq] at h
      subst h
      exact @GC.exit _ _ _ _ _ ⟨rd, ds⟩ _ (Fin.of hE hs hd (hF _ (List.mem_singleton.2 rfl)))
    | ret =>
      simp only [evRun, Option.some.injEq] at h
      subst h
      exact @GC.ret _ _ _ _ _ ⟨rd, ds⟩ (Fin.of hE hs hd (hF _ (List.mem_singleton.2 rfl)))
    | rangeFunc g ps asg body =>
      simp only [evRun] at h
      simp only [okC] at hok
      split at hok
      · rename_i hoka
        cases rd with
        | none => exact evRangeF_ok hcall ((hok0 _ _).2 hoka) ((hok0 _ _).2 hok) hE hs hd h hF
        | some l => simp at h
      · cases hok
    | goto => simp [evRun] at h
    | refuse => simp [evRun] at h
theorem evText_sound [Sig] (hmix : P.follows .mixedOrders = true) (hsz : P.funcs.size ≤ YB) (hok0 : ∀ f c, Sig.ok f c ↔ okC plans f c = true) (hfs : OkAll P plans) (hext : CallOK P lo ext) (k : Nat) : CallOK P lo (evText P plans ext k) :=
  evCall_ok hfs hext (run_sound hmix hsz hok0 hfs hext k).1
end
end Go.Proofs.YtfoabgljfikklaaGreatDoor.V
namespace Go.Proofs.YtfoabgljfikklaaGreatDoor.V
section
variable {P : Program}
def orExt (a b : CallA) : CallA := fun g args st => match a g args st with
  | some z => some z
  | none => b g args st
theorem orExt_ok [Sig] {lo : Nat} {a b : CallA} (ha : CallOK P lo a) (hb : CallOK P lo b) : CallOK P lo (orExt a b) := by
  intro g args st v st' h
  unfold orExt at h
  split at h
  · rename_i z hz
    cases h
    exact ha g args st v st' hz
  · exact hb g args st v st' h
def extAt (f : Nat) (args : List AV) (v : AV) : CallA := fun g ys st => match Nat.beq g f, sameVs ys args with
  | true, true => some (v, st)
  | _, _ => none
theorem extAt_ok [Sig] {lo f : Nat} {args : List AV} {v : AV} (h : ∀ (r : Rho) (w : World) (Args : List Value), RelL r args Args → lo ≤ w.heap.size → Mod (fun k => lo ≤ k) Sig.base w → Ret P f Args.toArray w fun V w' => Rel r v V ∧ Ext w w') : CallOK P lo (extAt f args v) := by
  intro g ys st u st' he r w Args hA hs
  unfold extAt at he
  split at he
  · rename_i h1 h2
    cases he
    have h1 := Nat.eq_of_beq_eq_true h1
    have h2 := sameVs_eq h2
    subst h1 h2
    exact (h r w Args hA hs.size hs.old).mono fun V w' ⟨k1, k2⟩ => ⟨r, Rho.le.refl r, k1, hs.ext k2, modLo k2⟩
  · cases he
abbrev sigOf (plans : Nat → Nat → Option Plan) (l : List Value) (h : ∀ v ∈ l, v.oneCell' = true) (w : World) : Sig where
  val i := l.getD i (.bool false)
  one i := by
    cases hi : l[i]? with
    | none => simp [List.getD, hi, Value.oneCell']
    | some v => simpa [List.getD, hi] using h v (List.mem_of_getElem? hi)
  ok f c := okC plans f c = true
  base := w
structure RunBase [Sig] (P : Program) (plans : Nat → Nat → Option Plan) : Prop where
  mix : P.follows .mixedOrders = true
  sz : Nat.ble P.funcs.size YB = true
  ok : ∀ f c, Sig.ok f c ↔ okC plans f c = true
  fs : OkAll P plans
theorem RunBase.of {plans : Nat → Nat → Option Plan} (h1 : P.follows .mixedOrders = true) (h2 : Nat.ble P.funcs.size YB = true) (h3 : OkAll P plans) (l : List Value) (h : ∀ v ∈ l, v.oneCell' = true) (w : World) : @RunBase (sigOf plans l h w) P plans :=
  @RunBase.mk (sigOf plans l h w) P plans h1 h2 (fun _ _ => Iff.rfl) h3
theorem RunBase.call [Sig] {lo : Nat} {plans : Nat → Nat → Option Plan} {ext : CallA} (h : RunBase P plans) (hext : CallOK P lo ext) (k : Nat) : CallOK P lo (evText P plans ext k) :=
  evText_sound h.mix (Nat.le_of_ble_eq_true h.sz) h.ok h.fs hext k
theorem Sat.begin [Sig] (w : World) (h : Sig.base = w) : Sat w.heap.size (fun _ => none) .e w :=
  ⟨fun b ab hb => by simp [Tr.get] at hb, fun b c ab ac B K K' hb => by simp [Tr.get] at hb, fun b _ => rfl, Nat.le_refl _, by rw [h]; exact Mod.refl w⟩
def runsTo (P : Program) (plans : Nat → Nat → Option Plan) (ext : CallA) (k f : Nat) (args : List AV) (z : Bool) : Bool :=
  match evText P plans ext k f args ⟨.e, .e, 0, []⟩ with
  | some (.b b, _) => (match b, z with | true, true => true | false, false => true | _, _ => false)
  | _ => false
theorem run_bool [Sig] {plans : Nat → Nat → Option Plan} {ext : CallA} {k f : Nat} {args : List AV} {Args : List Value} {w : World} {z : Bool} (hbase : Sig.base = w) (hb : RunBase P plans) (hext : CallOK P w.heap.size ext)
    (hA : RelL (fun _ => none) args Args) (h : runsTo P plans ext k f args z = true) :
    Ret P f Args.toArray w fun V w' => V = .bool z ∧ Ext w w' := by
  unfold runsTo at h
  split at h
  · rename_i b st' he
    have hbz : b = z := by revert h; cases b <;> cases z <;> simp
    subst hbz
    refine (hb.call hext k f args ⟨.e, .e, 0, []⟩ _ _ he (fun _ => none) w Args hA (Sat.begin w hbase)).mono ?_
    rintro V w' ⟨r', _, h2, _, h4⟩
    refine ⟨rel_b h2, ?_⟩
    exact ⟨h4.os, h4.tape, h4.output, h4.size, fun k hk _ => h4.block k hk (Nat.not_le_of_lt hk)⟩
  · cases h
theorem extTrue_ok [Sig] {lo f : Nat} {z : Bool} (h : ∀ w, Ret P f #[] w fun V w' => V = .bool z ∧ Ext w w') : CallOK P lo (extAt f [] (.b z)) :=
  extAt_ok fun r w Args hA _ _ => by
    have := hA.of_nil
    subst this
    refine (h w).mono fun V w' ⟨k1, k2⟩ => ⟨?_, k2⟩
    subst k1
    unfold Rel
    rfl
end
end Go.Proofs.YtfoabgljfikklaaGreatDoor.V
namespace Go.Proofs.YtfoabgljfikklaaGreatDoor.V
structure Cmd where
  op : Int
  key : List UInt8
  keys : List (List UInt8)
  value : List UInt8
  tags : List (List UInt8)
  life : Nat
  version : Nat
  tag : List UInt8
  pre : List UInt8
  child : List UInt8
def cmdCells (c : Cmd) (ka : Option Addr) (kc : Nat) (va : Option Addr) (vc : Nat) (ta : Option Addr) (tc : Nat) : List Value :=
  [.int .i64 c.op, str c.key, .slice ka c.keys.length kc, .slice va c.value.length vc, .slice ta c.tags.length tc, .int .u64 c.life, .int .u64 c.version, str c.tag, str c.pre, str c.child]
def strsV (l : List (List UInt8)) : List Value := l.map str
@[simp] theorem length_strsV (l : List (List UInt8)) : (strsV l).length = l.length := by simp [strsV]
structure StrsAt (w : World) (a : Option Addr) (c : Nat) (l : List (List UInt8)) : Prop where
  cells : SlA w a (strsV l)
  cap : l.length ≤ c
  nil : a = none → c = 0
  lt : ∀ x, a = some x → l ≠ [] → x.block < w.heap.size
theorem StrsAt.mod {S : Nat → Prop} {w w' : World} {a : Option Addr} {c : Nat} {l : List (List UInt8)} (h : StrsAt w a c l) (hm : Mod S w w') (hn : ∀ x, a = some x → l ≠ [] → ¬ S x.block) : StrsAt w' a c l := by
  refine ⟨?_, h.cap, h.nil, fun x hx hne => Nat.lt_of_lt_of_le (h.lt x hx hne) hm.size⟩
  by_cases hl : l = []
  · subst hl; exact SlA.empty _ _
  · exact h.cells.mod hm (fun x hx => hn x hx hl)
theorem StrsAt.none (w : World) : StrsAt w none 0 [] := ⟨rfl, Nat.le_refl _, fun _ => rfl, by simp⟩
def CmdW (w : World) (l : List Value) (c : Cmd) : Prop :=
  ∃ ka kc va vc ta tc, l = cmdCells c ka kc va vc ta tc ∧ StrsAt w ka kc c.keys ∧ StrsAt w ta tc c.tags
theorem CmdW.old {w w' : World} {l : List Value} {c : Cmd} (h : CmdW w l c) (hm : Mod (fun k => w.heap.size ≤ k) w w') : CmdW w' l c := by
  obtain ⟨ka, kc, va, vc, ta, tc, h1, h2, h3⟩ := h
  exact ⟨ka, kc, va, vc, ta, tc, h1, h2.mod hm fun x hx hne => Nat.not_le_of_lt (h2.lt x hx hne), h3.mod hm fun x hx hne => Nat.not_le_of_lt (h3.lt x hx hne)⟩
theorem CmdW.length {w : World} {l : List Value} {c : Cmd} (h : CmdW w l c) : l.length = 10 := by
  obtain ⟨ka, kc, va, vc, ta, tc, rfl, _⟩ := h; rfl
theorem CmdW.one {w : World} {l : List Value} {c : Cmd} (h : CmdW w l c) : ∀ u ∈ l, u.oneCell' = true := by
  obtain ⟨ka, kc, va, vc, ta, tc, rfl, _⟩ := h
  simp [cmdCells, Value.oneCell', str]
end Go.Proofs.YtfoabgljfikklaaGreatDoor.V
namespace Go.Proofs.YtfoabgljfikklaaGreatDoor.V
theorem StrsAt.ext {w w' : World} {a : Option Addr} {c : Nat} {l : List (List UInt8)} (h : StrsAt w a c l) (hm : Ext w w') : StrsAt w' a c l := h.mod hm fun _ _ _ h => h
theorem OwnS.len_le {w : World} {el sz : Nat} {ob : Option Nat} {a : Option Addr} {len cap : Nat} {cs : List Value} (h : OwnS w el sz ob a len cap cs) : len ≤ cap := by
  obtain ⟨_, ⟨_, h2, _, h4⟩ | ⟨b, _, rfl, hl, h | ⟨g, c, cur, h, h0, hg, hle, rest⟩⟩⟩ := h
  · omega
  · cases h.1
  · cases h; exact hle
theorem OwnS.cap0 {w : World} {el sz : Nat} {ob : Option Nat} {a : Option Addr} {len cap : Nat} {cs : List Value} (h : OwnS w el sz ob a len cap cs) (ha : a = none) : cap = 0 := by
  obtain ⟨_, ⟨_, h2, _, h4⟩ | ⟨b, _, h, _⟩⟩ := h
  · rw [h2]; exact h4 ha
  · rw [ha] at h; cases h
end Go.Proofs.YtfoabgljfikklaaGreatDoor.V
namespace Go.Proofs.YtfoabgljfikklaaGreatDoor.V.Ky
attribute [local irreducible] GX GO
def attrV (a : Attr) : List Value := [str a.1, str a.2]
def attrsV (l : List Attr) : List Value := l.flatMap attrV
@[simp] theorem length_attrsV : ∀ l : List Attr, (attrsV l).length = l.length * 2
  | [] => rfl
  | a :: l => by
    have := length_attrsV l
    simp only [attrsV, List.flatMap_cons, List.length_append, attrV, List.length_cons, List.length_nil] at this ⊢
    omega
theorem attrsV_get : ∀ {l : List Attr} {i : Nat} (h : i < l.length) (k : Nat) (v : Value), (attrV l[i])[k]? = some v → (attrsV l)[i * 2 + k]? = some v
  | [], i, h, _, _, _ => by cases h
  | p :: l, 0, h, k, v, hv => by
    have hk : k < 2 := (List.getElem?_eq_some_iff.1 hv).1
    simp only [attrsV, List.flatMap_cons, Nat.zero_mul, Nat.zero_add]
    rw [List.getElem?_append_left (by simpa [attrV] using hk)]
    exact hv
  | p :: l, i + 1, h, k, v, hv => by
    have := attrsV_get (l := l) (i := i) (by simpa using h) k v (by simpa using hv)
    simp only [attrsV, List.flatMap_cons] at this ⊢
    rw [List.getElem?_append_right (by simp [attrV]; omega)]
    simpa [attrV, show (i + 1) * 2 + k - 2 = i * 2 + k by omega] using this
structure AttrsAt (w : World) (a : Option Addr) (c : Nat) (l : List Attr) : Prop where
  cells : SlA w a (attrsV l)
  cap : l.length ≤ c
  nil : a = none → c = 0
  lt : ∀ x, a = some x → l ≠ [] → x.block < w.heap.size
theorem AttrsAt.mod {S : Nat → Prop} {w w' : World} {a : Option Addr} {c : Nat} {l : List Attr} (h : AttrsAt w a c l) (hm : Mod S w w') (hn : ∀ x, a = some x → l ≠ [] → ¬ S x.block) : AttrsAt w' a c l := by
  refine ⟨?_, h.cap, h.nil, fun x hx hne => Nat.lt_of_lt_of_le (h.lt x hx hne) hm.size⟩
  by_cases hl : l = []
  · subst hl; exact SlA.empty _ _
  · exact h.cells.mod hm (fun x hx => hn x hx hl)
theorem AttrsAt.ext {w w' : World} {a : Option Addr} {c : Nat} {l : List Attr} (h : AttrsAt w a c l) (hm : Ext w w') : AttrsAt w' a c l := h.mod hm fun _ _ _ h => h
theorem strs_at {w : World} {a : Option Addr} {c : Nat} {l : List Bs} (h : StrsAt w a c l) {i : Nat} (hi : i < l.length) : ∃ b o, a = some ⟨b, o, none⟩ ∧ ∀ j : Int, j.toNat = i → At w b (o + j.toNat * 1) [str l[i]] := by
  obtain ⟨b, o, rfl, hA⟩ := h.cells.of_pos (by simp [strsV]; omega)
  refine ⟨b, o, rfl, fun j hj => ?_⟩
  rw [hj]
  have := At.one hA (show (strsV l)[i]? = some (str l[i]) by simp [strsV, hi])
  simpa using this
theorem strs_takeS {w : World} {a : Option Addr} {c : Nat} {l : List Bs} (h : StrsAt w a c l) (k : Nat) (hk : k ≤ l.length) : SlA w (sliced' a 0 c 1) (strsV (l.take k)) := by
  have := h.cells.sliced 0 c 1 k (fun e => by have := h.cap; omega)
  have e : ((strsV l).drop (0 * 1)).take (k * 1) = strsV (l.take k) := by
    simp [strsV]
  rwa [e] at this
theorem attrs_at {w : World} {a : Option Addr} {c : Nat} {l : List Attr} (h : AttrsAt w a c l) {i : Nat} (hi : i < l.length) : ∃ b o, a = some ⟨b, o, none⟩ ∧ ∀ j : Int, j.toNat = i → At w b (o + j.toNat * 2) [str l[i].1, str l[i].2] := by
  obtain ⟨b, o, rfl, hA⟩ := h.cells.of_pos (by simp; omega)
  refine ⟨b, o, rfl, fun j hj => ?_⟩
  rw [hj]
  exact hA.sub (i * 2) _ fun k v hv => attrsV_get hi k v hv
structure FewP (names : List Bs) (l : List Attr) : Prop where
  n : names.length ≤ 10
  m : l.length ≤ 10
  ns : ∀ s ∈ names, s.length ≤ 100
  az : ∀ x ∈ l, x.1.length ≤ 100 ∧ x.2.length ≤ 100
end Go.Proofs.YtfoabgljfikklaaGreatDoor.V.Ky
