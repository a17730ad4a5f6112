/-
  The reckoned run on rounds of a range over a function, and on the range itself. No condition: these are rules over any program.
-/
import Derived.Test.YtbjomeonjlialaaGreatEk
namespace Go.Proofs.YtbjomeonjlialaaGreat.V
section
variable {P : Program} {Q : Exit → Act → World → Prop} {n lo : Nat} {r : Rho} {e : Env} {w : World} {st st' : ST} {call : CallA} {plans : Nat → Nat → Option Plan} {ext : CallA}

theorem look_argE' : ∀ (l : List Value) (t s : Nat) (v : Value), l[s]? = some v → look (t + s) (argE t l) = some v
  | [], t, s, v, h => by simp at h
  | u :: l, t, 0, v, h => by
    simp at h
    subst h
    simp [argE, look]
  | u :: l, t, s + 1, v, h => by
    have h1 := look_argE' l (t + 1) s v (by simpa using h)
    have hb : Nat.beq t (t + (s + 1)) = false := by
      cases hb : Nat.beq t (t + (s + 1)) with
      | true => have := Nat.eq_of_beq_eq_true hb; omega
      | false => rfl
    simp only [argE, look, hb]
    rwa [show t + (s + 1) = t + 1 + s by omega]
theorem slots_env [Sig] {tmps : Array Value} {T : Tr AV} (h : SlotsR r n tmps T) : EnvR r (argE 0 tmps.toList) T := fun t a ht => by
  obtain ⟨A, h1, h2⟩ := h.2 t a ht
  refine ⟨A, ?_, h2⟩
  have := look_argE' tmps.toList 0 t A (by simpa using h1)
  simpa using this
theorem slots_knows {tmps : Array Value} (h : tmps.size = n) (rd : Option Nat) : @Knows ⟨rd, []⟩ { tmps := tmps, defers := [] } (argE 0 tmps.toList) n := by
  refine @Knows.mk ⟨rd, []⟩ _ _ _ rfl h fun t v ht => ?_
  obtain ⟨_, h2⟩ := look_argE tmps.toList 0 t v ht
  show tmps[t]? = some v
  simpa using h2
theorem putPs_slots [Sig] : ∀ {ps : List Nat} {args : List AV} {Args : List Value} {T T1 : Tr AV} {tmps : Array Value}, SlotsR r n tmps T → RelL r args Args → putPs n T ps args = some T1 →
    ps.length = Args.length ∧ SlotsR r n ((ps.zip Args).foldl (fun tm x => tm.setIfInBounds x.1 x.2) tmps) T1
  | [], [], Args, T, T1, tmps, h, hA, hp => by
    rw [hA.of_nil]
    simp only [putPs, Option.some.injEq] at hp
    subst hp
    exact ⟨rfl, h⟩
  | p :: ps, v :: vs, Args, T, T1, tmps, h, hA, hp => by
    obtain ⟨A, M, rfl, hA1, hA2⟩ := hA.of_cons
    simp only [putPs] at hp
    split at hp
    · rename_i hlt
      have hlt := blt_lt hlt
      have h' : SlotsR r n (tmps.setIfInBounds p A) (T.put p v) := ⟨by simp [h.1], fun t a ht => by
        rw [Tr.get_put] at ht
        split at ht
        · rename_i e
          subst e
          cases ht
          exact ⟨A, by simp [h.1, hlt], hA1⟩
        · rename_i e
          obtain ⟨X, h1, h2⟩ := h.2 t a ht
          exact ⟨X, by rw [Array.getElem?_setIfInBounds_ne (fun q => e q.symm)]; exact h1, h2⟩⟩
      obtain ⟨q1, q2⟩ := putPs_slots h' hA2 hp
      exact ⟨by simp [q1], by simpa using q2⟩
    · cases hp
  | [], _ :: _, _, _, _, _, _, _, hp => by simp [putPs] at hp
  | _ :: _, [], _, _, _, _, _, _, hp => by simp [putPs] at hp

set_option maxHeartbeats 1000000 in
/-- One round. -/
theorem evRound_ok [Sig] (hok : ∀ f c, Sig.ok f c → okC plans f c = true) {k : Nat} (h : RunOK P plans ext lo k) {l : Nat} {args : List AV} {v : AV} (hev : evRound (evRun P plans ext k) l args st = some (v, st')) {Args : List Value} {B K : Nat}
    (hA : RelL r args Args) (hs : Sat lo r st.H w) (hr : r l = some (B, K)) : YieldOK P B Args w fun V w' => After lo r w v st'.H V w' := by
  unfold evRound at hev
  split at hev
  · rename_i f n T ps asg body d hl
    obtain ⟨hlo, fn, tmps, D, KD, hd, ok1, ok2, hsl, hB⟩ := hs.here hl hr
    split at hev
    · rename_i T1 hT1
      obtain ⟨hlen, hsl1⟩ := putPs_slots hsl hA hT1
      split at hev
      · rename_i s1 hrun1
        split at hev
        · rename_i f' n' T' ps' asg' body' d' hl1 hm1
          split at hev
          · rename_i z hrun2
            obtain ⟨tm1, htm⟩ : ∃ x, x = (ps.zip Args).foldl (fun tm x => tm.setIfInBounds x.1 x.2) tmps := ⟨_, rfl⟩
            rw [← htm] at hsl1
            have hyl : (Instr.yield B Args.toArray).run P w = .ok (.round B fn tm1 asg body) w := by
              have := run_yield (P := P) (args := Args.toArray) hB (by simp [hlen])
              rw [this, htm]
              simp
            refine ⟨fn, tm1, asg, body, hyl, roundIn_of_wpIn (F := Fence.wide) trivial ?_⟩
            have hgc := h (some B) [] f n asg ⟨T1, st.H, st.next, []⟩ _ (hok _ _ ok1) hrun1 r _ w
              (Exit.then (fun a₁ w₁ => ∃ w₂, (Instr.beginRound B).run P w₁ = .ok () w₂ ∧ body.wpIn (Fence.wide.inRound B) 0 P (roundPost P B (fun en w' => ∃ V, en = .returned V ∧ After lo r w v st'.H V w')) a₁ w₂) (fun _ _ _ => False))
              (slots_env hsl1) hs rfl ?_
            · unfold GC at hgc
              exact hgc _ (slots_knows hsl1.1 (some B))
            intro y hy r1 e1 w1 ds1 k1 k2 k3 k4 k5
            simp only [List.mem_singleton] at hy
            subst hy
            rw [hm1] at k4
            have k4 : ds1 = [] := k4
            subst k4
            unfold GQ
            intro a ha
            obtain ⟨hlo1, fn1, tmps1, D1, KD1, hd1, ok11, ok21, hsl11, hB1⟩ := k3.here hl1 (k1 _ _ hr)
            have hbeg := run_beginRound (P := P) hB1 rfl
            refine ⟨_, hbeg, ?_⟩
            have hmod := mod_put w1 B (.loop { state := .busy, pending := pendC none, fn := fn1, tmps := tmps1, params := ps'.toArray, assign := asg', body := body', defers := D1 })
            have hlt := (Array.getElem?_eq_some_iff.1 hB1).1
            have hs2 := k3.upd hl1 rfl (k1 _ _ hr) (hlo1 rfl) hmod (ab' := .lp 1 none f' n' T' ps' asg' body' d') ⟨fn1, tmps1, D1, KD1, hd1, ok11, ok21, hsl11, World.putObj_heap_same hlt⟩
            have hM2 : Mod (fun k => lo ≤ k) w1 _ := hmod.weaken fun k _ hk => by subst hk; exact hlo1 rfl
            have hgc2 := h (some B) [] f n body ⟨s1.T, _, s1.next, []⟩ _ (hok _ _ ok2) hrun2 r1 e1 _ (roundPost P B (fun en w' => ∃ V, en = .returned V ∧ After lo r w v st'.H V w')) k2 hs2 rfl ?_
            · unfold GC at hgc2
              exact hgc2 a ha
            intro y hy r2 e2 w3 ds2 m1 m2 m3 m4 m5
            simp only [List.mem_singleton] at hy
            subst hy
            unfold GQ
            intro a' ha'
            unfold endRoundA at hev
            split at hev
            · rename_i f2 n2 T2 ps2 asg2 body2 d2 hl2 hm2
              obtain ⟨hlo2, fn2, tmps2, D2, KD2, hd2, ok12, ok22, hsl2, hB2⟩ := m3.here hl2 (m1 _ _ (k1 _ _ hr))
              have hlt2 := (Array.getElem?_eq_some_iff.1 hB2).1
              have fin : ∀ (jump : Option Code) (ph : Nat) (pend : Option (Option Nat)) (b : Bool), pendC pend = jump → phaseC ph = (if jump.isNone then .ready else .done) → jump.isNone = b → v = .b b → st'.H = y.2.H.put l (.lp ph pend f2 n2 T2 ps2 asg2 body2 d2) →
                  ∃ v0 w4, (Instr.endRound B jump).run P w3 = .ok v0 w4 ∧ ∃ V, Ending.returned v0 = .returned V ∧ After lo r w v st'.H V w4 := by
                intro jump ph pend b hj hp hb hv hH
                refine ⟨_, _, run_endRound jump hB2, _, rfl, r2, k1.trans m1, ?_, ?_, ?_⟩
                · rw [hv, hb]; exact mk_b b
                · rw [hH]
                  exact m3.upd hl2 rfl (m1 _ _ (k1 _ _ hr)) (hlo2 rfl) (mod_put w3 B _) ⟨fn2, tmps2, D2, KD2, hd2, ok12, ok22, hsl2, by rw [hj, hp]; exact World.putObj_heap_same hlt2⟩
                · exact ((k5.trans hM2).trans m5).trans ((mod_put w3 B _).weaken fun k _ hk => by subst hk; exact hlo2 rfl)
              split at hev
              · rename_i hz
                cases hev
                rw [hz]
                exact fin none 0 none true rfl rfl rfl rfl rfl
              · rename_i hz
                cases hev
                rw [hz]
                exact fin (some .ret) 2 (some none) false rfl rfl rfl rfl rfl
              · rename_i id hz
                cases hev
                rw [hz]
                exact fin (some (.exit id)) 2 (some (some id)) false rfl rfl rfl rfl rfl
            · cases hev
          · cases hev
        · cases hev
      · cases hev
    · cases hev
  · cases hev

set_option maxHeartbeats 1000000 in
/-- The range itself, in a function's frame. -/
theorem evRangeF_ok [Sig] (hany : AnyOK P lo call) {f : Nat} {ps : Array Tmp} {asg body : Code} {outs : List (Xt × ST)} {g : Operand} {ds : List Deferred} (ok1 : Sig.ok f asg) (ok2 : Sig.ok f body) (hE : EnvR r e st.T) (hs : Sat lo r st.H w) (hd : DsR P r st.mks ds)
    (h : evRangeF call f n (av st.T g) ps.toList asg body P st = some outs) (hfin : ∀ z ∈ outs, Fin P none lo n r w z Q) : @GC ⟨none, ds⟩ P (.rangeFunc g ps asg body) Q n e w := by
  unfold evRangeF at h
  split at h
  · rename_i hh cs hg hf1 hf2
    split at h
    · rename_i u s hcb hcall
      obtain ⟨G, hg1, hg2⟩ := av_rel hE hg
      obtain ⟨Cs, rfl, hCs⟩ := rel_f hg2
      unfold GC
      intro a ha
      have hsize : a.tmps.size = n := @Knows.size ⟨none, ds⟩ _ _ _ ha
      have hslot : ∀ t v, look t e = some v → a.tmps[t]? = some v := @Knows.slot ⟨none, ds⟩ _ _ _ ha
      have hdef : a.defers = ds := @Knows.defers ⟨none, ds⟩ _ _ _ ha
      have hev : a.eval g = .func (.func hh) #[] Cs.toArray := @ev_eq ⟨none, ds⟩ a e n ha _ _ hg1
      refine wpIn_rangeFunc (F := @Fr.F ⟨none, ds⟩) fun fn _ => ?_
      have hx1 := Ext.alloc w (.deferred (some []))
      obtain ⟨hle1, hs1⟩ := hs.newTop (K := 0) hf1 hx1 (ab := .df) (heap_alloc_new w _)
      obtain ⟨w1, hw1⟩ : ∃ x, x = w.alloc (.deferred (some [])) := ⟨_, rfl⟩
      rw [← hw1] at hx1 hs1
      have hsz1 : w1.heap.size = w.heap.size + 1 := by rw [hw1]; simp
      obtain ⟨rec, hrec⟩ : ∃ x : Loop, x = { state := .ready, pending := none, fn := fn, tmps := a.tmps, params := ps, assign := asg, body := body, defers := w.heap.size } := ⟨_, rfl⟩
      have hx2 := Ext.alloc w1 (.loop rec)
      obtain ⟨w2, hw2⟩ : ∃ x, x = w1.alloc (.loop rec) := ⟨_, rfl⟩
      have hne : ¬ st.next = st.next + 1 := by omega
      have hle2 := Rho.le.set (hs1.free (st.next + 1) (by rw [Tr.get_put, if_neg (by omega)]; exact hf2)) (w1.heap.size, 0)
      obtain ⟨_, hs2⟩ := hs1.newTop (K := 0) (b := st.next + 1) (by rw [Tr.get_put, if_neg (by omega)]; exact hf2) hx2 (ab := .lp 0 none f n st.T ps.toList asg body st.next)
        ⟨fn, a.tmps, w.heap.size, 0, by rw [Rho.set, if_neg hne]; exact Rho.set_same _ _ _, ok1, ok2, ⟨hsize, fun t x ht => by
          obtain ⟨A, q1, q2⟩ := hE t x ht
          exact ⟨A, hslot t A q1, q2.mono (hle1.trans hle2)⟩⟩, by
          rw [heap_alloc_new w1, hrec]
          rfl⟩
      rw [← hw2] at hx2 hs2
      have hx12 : Ext w w2 := hx1.trans hx2
      have he : (Instr.enterLoop fn a.tmps ps asg body (@Fr.F ⟨none, ds⟩).round).run P w = .ok (w.heap.size + 1, [{ target := .collected w.heap.size, args := #[] }]) w2 := by
        have := run_enterLoop_outer (P := P) (w := w) fn a.tmps ps asg body
        rw [hw2, hw1, hrec]
        exact this
      have hret := hany.fn hh _ _ _ _ hcb hcall _ w2 (.func (.yield (w.heap.size + 1)) #[] #[] :: Cs) (RelL.cons (by
          unfold Rel
          exact ⟨w1.heap.size, 0, Rho.set_same _ _ _, by rw [hsz1]⟩) (hCs.mono (hle1.trans hle2))) hs2
      haveI : CaF P hh := ⟨hcb⟩
      refine ⟨w.heap.size + 1, _, w2, { target := .fn (.func hh) Cs.toArray, args := #[.func (.yield (w.heap.size + 1)) #[] #[]] }, w2, hh, (.func (.yield (w.heap.size + 1)) #[] #[] :: Cs).toArray, w2, he, ?_, fun _ _ => trivial, ?_, fun h => (by cases h), ?_⟩
      · have hcv : ∀ v, a.eval (.const v) = v := fun v => rfl
        simp [resolve, rangeCall, Deferred.ofValue, hev, hcv]
      · simp [invoke, run_callFunc]
      · refine Fr.calls.2 (Calls.mono hret.calls fun en w3 ⟨V, he, hA⟩ => ?_)
        subst he
        obtain ⟨r3, hle3, _, hs3, hm3⟩ := hA
        have hr3d : r3 st.next = some (w.heap.size, 0) := hle3 _ _ (hle2 _ _ (Rho.set_same _ _ _))
        have hr3l : r3 (st.next + 1) = some (w1.heap.size, 0) := hle3 _ _ (Rho.set_same _ _ _)
        have hEr : EnvR r3 e st.T := hE.mono ((hle1.trans hle2).trans hle3)
        have hM3 : Mod (fun k => lo ≤ k) w w3 := (modLo hx12).trans hm3
        have hDs : DsR P r3 (.d st.next :: st.mks) ({ target := .collected w.heap.size, args := #[] } :: ds) := ⟨_, _, ds, hr3d, rfl, hd.mono ((hle1.trans hle2).trans hle3)⟩
        have fin : ∀ (ph : Nat) (pend : Option (Option Nat)) (f0 n0 : Nat) (T0 : Tr AV) (ps0 : List Nat) (a0 b0 : Code) (d0 : Nat) (x : Xt), s.H.get (st.next + 1) = some (.lp ph pend f0 n0 T0 ps0 a0 b0 d0) → phaseC ph ≠ .busy → outs = [(x, ⟨st.T, s.H.put (st.next + 1) .dead, s.next, .d st.next :: st.mks⟩)] →
            ∃ w4, (Instr.endLoop (w.heap.size + 1)).run P w3 = .ok (pendC pend) w4 ∧ ∀ a', a' = { a with defers := [{ target := .collected w.heap.size, args := #[] }] ++ a.defers } → Q x.toExit a' w4 := by
          intro ph pend f0 n0 T0 ps0 a0 b0 d0 x hget hph hout
          have hr3m : r3 (st.next + 1) = some (w.heap.size + 1, 0) := by rw [← hsz1]; exact hr3l
          obtain ⟨hlo4, fn4, tmps4, D4, KD4, hd4, ok14, ok24, hsl4, hB4⟩ := hs3.here hget hr3m
          obtain ⟨ob, hend⟩ : ∃ ob, (Instr.endLoop (w.heap.size + 1)).run P w3 = .ok (pendC pend) (w3.putObj (w.heap.size + 1) ob) := ⟨_, run_endLoop (P := P) hB4 hph⟩
          refine ⟨_, hend, ?_⟩
          rintro a' rfl
          have hs4 := hs3.upd hget rfl hr3m (hlo4 rfl) (mod_put w3 (w.heap.size + 1) ob) (ab' := .dead) trivial
          have hq := hfin _ (by rw [hout]; exact List.mem_cons_self) r3 e _ _ ((hle1.trans hle2).trans hle3) hEr hs4 hDs (hM3.trans ((mod_put w3 (w.heap.size + 1) ob).weaken fun k _ hk => by subst hk; exact hlo4 rfl))
          unfold GQ at hq
          refine hq _ ?_
          refine @Knows.mk ⟨none, { target := .collected w.heap.size, args := #[] } :: ds⟩ _ _ _ ?_ hsize hslot
          show { target := .collected w.heap.size, args := #[] } :: a.defers = { target := .collected w.heap.size, args := #[] } :: ds
          rw [hdef]
        split at h
        · rename_i hget
          cases h
          obtain ⟨w4, h1, h2⟩ := fin 0 none _ _ _ _ _ _ _ .normal hget (by simp [phaseC]) rfl
          exact ⟨_, w4, h1, h2 _ rfl⟩
        · rename_i hget
          cases h
          obtain ⟨w4, h1, h2⟩ := fin 2 (some none) _ _ _ _ _ _ _ .ret hget (by simp [phaseC]) rfl
          exact ⟨_, w4, h1, wpIn_ret (h2 _ rfl)⟩
        · rename_i id f0 n0 T0 ps0 a0 b0 d0 hget
          cases h
          obtain ⟨w4, h1, h2⟩ := fin 2 (some (some id)) _ _ _ _ _ _ _ (.exit id) hget (by simp [phaseC]) rfl
          exact ⟨_, w4, h1, wpIn_exit (h2 _ rfl)⟩
        · cases h
    · cases h
  · cases h
end
end Go.Proofs.YtbjomeonjlialaaGreat.V
