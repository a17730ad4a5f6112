/-
  The reckoned run on rounds of a range over a function, on the range itself, and on all code: what it says of a call holds of the call. No condition: these are rules over any program.
-/
import Derived.Test.YtbjomeonjlialaaGreatZat
set_option linter.unusedVariables false
set_option linter.unusedSimpArgs false
namespace Go.Proofs.YtbjomeonjlialaaGreat.V.S
section
variable {n : Nat}
theorem look_argE' : ∀ (l : List Value) (t s : Nat) (v : Value), l[s]? = some v → look (t + s) (argE t l) = some v
  | [], t, s, v, h => by simp at h
  | u :: l, t, 0, v, h => by
    simp at h
    subst h
    simp [argE, look]
  | u :: l, t, s + 1, v, h => by
    have h1 := look_argE' l (t + 1) s v (by simpa using h)
    have hb : Nat.beq t (t + (s + 1)) = false := by
      cases hb : Nat.beq t (t + (s + 1)) with
      | true => have := Nat.eq_of_beq_eq_true hb; omega
      | false => rfl
    simp only [argE, look, hb]
    rwa [show t + (s + 1) = t + 1 + s by omega]
theorem slots_knows {tmps : Array Value} (h : tmps.size = n) (rd : Option Nat) : @Knows ⟨rd, []⟩ { tmps := tmps, defers := [] } (argE 0 tmps.toList) n := by
  refine @Knows.mk ⟨rd, []⟩ _ _ _ rfl h fun t v ht => ?_
  obtain ⟨_, h2⟩ := look_argE tmps.toList 0 t v ht
  show tmps[t]? = some v
  simpa using h2
end
section
variable {X : Type} [Spec X] {P : Program} {Q : Exit → Act → World → Prop} {n lo : Nat} {r : Rho X} {e : Env} {w : World} {st st' : ST} {call : CallA} {plans : Nat → Nat → Option Plan} {ext : CallX} {lx : LoopX}
theorem slots_env [Sig] {tmps : Array Value} {T : Tr AV} (h : SlotsR r n tmps T) : EnvR r (argE 0 tmps.toList) T := fun t a ht => by
  obtain ⟨A, h1, h2⟩ := h.2 t a ht
  refine ⟨A, ?_, h2⟩
  have := look_argE' tmps.toList 0 t A (by simpa using h1)
  simpa using this
theorem putPs_slots [Sig] : ∀ {ps : List Nat} {args : List AV} {Args : List Value} {T T1 : Tr AV} {tmps : Array Value}, SlotsR r n tmps T → RelL r args Args → putPs n T ps args = some T1 →
    ps.length = Args.length ∧ SlotsR r n ((ps.zip Args).foldl (fun tm x => tm.setIfInBounds x.1 x.2) tmps) T1
  | [], [], Args, T, T1, tmps, h, hA, hp => by
    rw [hA.of_nil]
    simp only [putPs, Option.some.injEq] at hp
    subst hp
    exact ⟨rfl, h⟩
  | p :: ps, v :: vs, Args, T, T1, tmps, h, hA, hp => by
    obtain ⟨A, M, rfl, hA1, hA2⟩ := hA.of_cons
    simp only [putPs] at hp
    split at hp
    · rename_i hlt
      have hlt := blt_lt hlt
      have h' : SlotsR r n (tmps.setIfInBounds p A) (T.put p v) := ⟨by simp [h.1], fun t a ht => by
        rw [Tr.get_put] at ht
        split at ht
        · rename_i e
          subst e
          cases ht
          exact ⟨A, by simp [h.1, hlt], hA1⟩
        · rename_i e
          obtain ⟨X, h1, h2⟩ := h.2 t a ht
          exact ⟨X, by rw [Array.getElem?_setIfInBounds_ne (fun q => e q.symm)]; exact h1, h2⟩⟩
      obtain ⟨q1, q2⟩ := putPs_slots h' hA2 hp
      exact ⟨by simp [q1], by simpa using q2⟩
    · cases hp
  | [], _ :: _, _, _, _, _, _, _, hp => by simp [putPs] at hp
  | _ :: _, [], _, _, _, _, _, _, hp => by simp [putPs] at hp
set_option maxHeartbeats 1000000 in
theorem evRound_ok [Sig] (hok : ∀ f c, Sig.ok f c → okC plans f c = true ∧ InF P f c) {k : Nat} (h : RunOK X P plans ext lx lo k) {l : Nat} {args : List AV} {K : Val X → AV × ST → Prop} (hev : (evRound (evRun P plans ext lx k) l args st).vc K r.at') {Args : List Value} {B K' : Nat}
    (hA : RelL r args Args) (hs : Sat lo r st.H w) (hpc : PcOK r.at' st.pc) (hr : r l = some (B, K')) : YieldOK P B Args w (Left lo r st.H w K) := by
  unfold evRound at hev
  split at hev
  · rename_i f n T ps asg body d hl
    obtain ⟨hlo, fn, tmps, D, KD, hd, ok1, ok2, hsl, hB⟩ := hs.here hl hr
    split at hev
    · rename_i T1 hT1
      obtain ⟨hlen, hsl1⟩ := putPs_slots hsl hA hT1
      have hev := vc_bind hev
      obtain ⟨tm1, htm⟩ : ∃ x, x = (ps.zip Args).foldl (fun tm x => tm.setIfInBounds x.1 x.2) tmps := ⟨_, rfl⟩
      rw [← htm] at hsl1
      have hyl : (Instr.yield B Args.toArray).run P w = .ok (.round B fn tm1 asg body) w := by
        have := run_yield (P := P) (args := Args.toArray) hB (by simp [hlen])
        rw [this, htm]
        simp
      refine ⟨fn, tm1, asg, body, hyl, roundIn_of_wpIn (F := Fence.wide) trivial ?_⟩
      have hgc := h (some B) [] f n asg ⟨T1, st.H, st.next, [], st.pc⟩ _ r _ w
        (Exit.then (fun a₁ w₁ => ∃ w₂, (Instr.beginRound B).run P w₁ = .ok () w₂ ∧ body.wpIn (Fence.wide.inRound B) 0 P (roundPost P B (fun en w' => ∃ V, en = .returned V ∧ Left lo r st.H w K V w')) a₁ w₂) (fun _ _ _ => False))
        (hok _ _ ok1).1 (hok _ _ ok1).2 hev (slots_env hsl1) hs hpc rfl ?_
      · unfold GC at hgc
        exact hgc _ (slots_knows hsl1.1 (some B))
      intro r1 e1 w1 ds1 z kz k1 k2 k3 kp k4 k5
      split at kz
      · rename_i f' n' T' ps' asg' body' d' hz1 hl1 hm1
        rw [hm1] at k4
        have k4 : ds1 = [] := k4
        subst k4
        rw [hz1]
        unfold GQ
        intro a ha
        obtain ⟨hlo1, fn1, tmps1, D1, KD1, hd1, ok11, ok21, hsl11, hB1⟩ := k3.here hl1 (k1.b _ _ hr)
        have hbeg := run_beginRound (P := P) hB1 rfl
        refine ⟨_, hbeg, ?_⟩
        have hmod := mod_put w1 B (.loop { state := .busy, pending := pendC none, fn := fn1, tmps := tmps1, params := ps'.toArray, assign := asg', body := body', defers := D1 })
        have hlt := (Array.getElem?_eq_some_iff.1 hB1).1
        have hs2 := k3.upd hl1 rfl (k1.b _ _ hr) (hlo1 rfl) hmod (ab' := .lp 1 none f' n' T' ps' asg' body' d') ⟨fn1, tmps1, D1, KD1, hd1, ok11, ok21, hsl11, World.putObj_heap_same hlt⟩
        have hf2 : FrmC r1 z.2.H w1 r1 (z.2.H.put l (.lp 1 none f' n' T' ps' asg' body' d')) _ := (Frm.upd hl1 (k1.b _ _ hr) hmod).c
        have hgc2 := h (some B) [] f n body ⟨z.2.T, z.2.H.put l (.lp 1 none f' n' T' ps' asg' body' d'), z.2.next, [], z.2.pc⟩ _ r1 e1 _ (roundPost P B (fun en w' => ∃ V, en = .returned V ∧ Left lo r st.H w K V w')) (hok _ _ ok2).1 (hok _ _ ok2).2 (vc_bind kz) k2 hs2 kp rfl ?_
        · unfold GC at hgc2
          exact hgc2 a ha
        intro r2 e2 w3 ds2 y ky m1 m2 m3 mp m4 m5
        unfold GQ
        intro a' ha'
        unfold endRoundA at ky
        split at ky
        · rename_i f2 n2 T2 ps2 asg2 body2 d2 hl2 hm2
          obtain ⟨hlo2, fn2, tmps2, D2, KD2, hd2, ok12, ok22, hsl2, hB2⟩ := m3.here hl2 (m1.b _ _ (k1.b _ _ hr))
          have hlt2 := (Array.getElem?_eq_some_iff.1 hB2).1
          have fin : ∀ (jump : Option Code) (ph : Nat) (pend : Option (Option Nat)) (b : Bool), pendC pend = jump → phaseC ph = (if jump.isNone then .ready else .done) → jump.isNone = b → K r2.at' (.b b, ⟨.e, y.2.H.put l (.lp ph pend f2 n2 T2 ps2 asg2 body2 d2), y.2.next, [], y.2.pc⟩) →
              ∃ v0 w4, (Instr.endRound B jump).run P w3 = .ok v0 w4 ∧ ∃ V, Ending.returned v0 = .returned V ∧ Left lo r st.H w K V w4 := by
            intro jump ph pend b hj hp hb hK
            refine ⟨_, _, run_endRound jump hB2, _, rfl, r2, _, hK, k1.trans m1, ?_, ?_, ?_, mp⟩
            · rw [hb]; exact mk_b b
            · exact m3.upd hl2 rfl (m1.b _ _ (k1.b _ _ hr)) (hlo2 rfl) (mod_put w3 B _) ⟨fn2, tmps2, D2, KD2, hd2, ok12, ok22, hsl2, by rw [hj, hp]; exact World.putObj_heap_same hlt2⟩
            · exact ((k5.trans hf2).trans m5).trans (Frm.upd hl2 (m1.b _ _ (k1.b _ _ hr)) (mod_put w3 B _)).c
          split at ky
          · rename_i hz
            rw [hz]
            exact fin none 0 none true rfl rfl rfl ky
          · rename_i hz
            rw [hz]
            exact fin (some .ret) 2 (some none) false rfl rfl rfl ky
          · rename_i id hz
            rw [hz]
            exact fin (some (.exit id)) 2 (some (some id)) false rfl rfl rfl ky
        · exact ky.elim
      · exact kz.elim
    · exact hev.elim
  · exact hev.elim
set_option maxHeartbeats 1000000 in
theorem evRangeF_ok [Sig] (hany : AnyOK X P lo call) {f : Nat} {ps : Array Tmp} {asg body : Code} {K : Val X → Xt × ST → Prop} {g : Operand} {ds : List Deferred} (ok1 : Sig.ok f asg) (ok2 : Sig.ok f body) (hE : EnvR r e st.T) (hs : Sat lo r st.H w) (hpc : PcOK r.at' st.pc) (hd : DsR P r st.mks ds)
    (h : (evRangeF call f n (av st.T g) ps.toList asg body P st).vc K r.at') (hfin : Fin P none lo n r st.H w K Q) : @GC ⟨none, ds⟩ P (.rangeFunc g ps asg body) Q n e w := by
  unfold evRangeF at h
  split at h
  · rename_i hh cs hg hf1 hf2
    split at h
    · rename_i hcb
      have h := vc_bind h
      obtain ⟨G, hg1, hg2⟩ := av_rel hE hg
      obtain ⟨Cs, rfl, hCs⟩ := rel_f hg2
      unfold GC
      intro a ha
      have hsize : a.tmps.size = n := @Knows.size ⟨none, ds⟩ _ _ _ ha
      have hslot : ∀ t v, look t e = some v → a.tmps[t]? = some v := @Knows.slot ⟨none, ds⟩ _ _ _ ha
      have hdef : a.defers = ds := @Knows.defers ⟨none, ds⟩ _ _ _ ha
      have hev : a.eval g = .func (.func hh) #[] Cs.toArray := @ev_eq ⟨none, ds⟩ a e n ha _ _ hg1
      refine wpIn_rangeFunc (F := @Fr.F ⟨none, ds⟩) fun fn _ => ?_
      have hx1 := Ext.alloc w (.deferred (some []))
      obtain ⟨hle1, hs1⟩ := hs.newTop (K := 0) hf1 hx1 (ab := .df) (heap_alloc_new w _)
      have hF1 : FrmC r st.H w (r.set st.next (w.heap.size, 0)) (st.H.put st.next .df) (w.alloc (.deferred (some []))) := (Frm.top hx1).c
      obtain ⟨w1, hw1⟩ : ∃ x, x = w.alloc (.deferred (some [])) := ⟨_, rfl⟩
      rw [← hw1] at hx1 hs1 hF1
      have hsz1 : w1.heap.size = w.heap.size + 1 := by rw [hw1]; simp
      obtain ⟨rec, hrec⟩ : ∃ x : Loop, x = { state := .ready, pending := none, fn := fn, tmps := a.tmps, params := ps, assign := asg, body := body, defers := w.heap.size } := ⟨_, rfl⟩
      have hx2 := Ext.alloc w1 (.loop rec)
      obtain ⟨w2, hw2⟩ : ∃ x, x = w1.alloc (.loop rec) := ⟨_, rfl⟩
      have hne : ¬ st.next = st.next + 1 := by omega
      have hfree2 : (st.H.put st.next .df).get (st.next + 1) = none := by rw [Tr.get_put, if_neg (by omega)]; exact hf2
      have hle2 := Rho.le.set (hs1.free (st.next + 1) hfree2).1 (w1.heap.size, 0)
      obtain ⟨_, hs2⟩ := hs1.newTop (K := 0) (b := st.next + 1) hfree2 hx2 (ab := .lp 0 none f n st.T ps.toList asg body st.next)
        ⟨fn, a.tmps, w.heap.size, 0, by rw [Rho.set_ne hne]; exact Rho.set_same _ _ _, ok1, ok2, ⟨hsize, fun t x ht => by
          obtain ⟨A, q1, q2⟩ := hE t x ht
          exact ⟨A, hslot t A q1, q2.mono (hle1.trans hle2)⟩⟩, by
          rw [heap_alloc_new w1, hrec]
          rfl⟩
      have hF2 : FrmC (r.set st.next (w.heap.size, 0)) (st.H.put st.next .df) w1 ((r.set st.next (w.heap.size, 0)).set (st.next + 1) (w1.heap.size, 0)) ((st.H.put st.next .df).put (st.next + 1) (.lp 0 none f n st.T ps.toList asg body st.next)) (w1.alloc (.loop rec)) := (Frm.top hx2).c
      rw [← hw2] at hx2 hs2 hF2
      have hF12 := hF1.trans hF2
      have he : (Instr.enterLoop fn a.tmps ps asg body (@Fr.F ⟨none, ds⟩).round).run P w = .ok (w.heap.size + 1, [{ target := .collected w.heap.size, args := #[] }]) w2 := by
        have := run_enterLoop_outer (P := P) (w := w) fn a.tmps ps asg body
        rw [hw2, hw1, hrec]
        exact this
      have hret := hany.fn hh (.y (st.next + 1) :: cs) ⟨.e, (st.H.put st.next .df).put (st.next + 1) (.lp 0 none f n st.T ps.toList asg body st.next), st.next + 2, [], st.pc⟩ hcb _ ((r.set st.next (w.heap.size, 0)).set (st.next + 1) (w1.heap.size, 0)) w2 (.func (.yield (w.heap.size + 1)) #[] #[] :: Cs) h (RelL.cons (by
          unfold Rel
          exact ⟨w1.heap.size, 0, Rho.set_same _ _ _, by rw [hsz1]⟩) (hCs.mono (hle1.trans hle2))) hs2 hpc
      haveI : CaF P hh := ⟨hcb⟩
      refine ⟨w.heap.size + 1, _, w2, { target := .fn (.func hh) Cs.toArray, args := #[.func (.yield (w.heap.size + 1)) #[] #[]] }, w2, hh, (.func (.yield (w.heap.size + 1)) #[] #[] :: Cs).toArray, w2, he, ?_, fun _ _ => trivial, ?_, fun h => (by cases h), ?_⟩
      · have hcv : ∀ v, a.eval (.const v) = v := fun v => rfl
        simp [resolve, rangeCall, Deferred.ofValue, hev, hcv]
      · simp [invoke, run_callFunc]
      · refine Fr.calls.2 (Calls.mono hret.calls fun en w3 ⟨V, he, hA⟩ => ?_)
        subst he
        obtain ⟨r3, z, hz, hle3, _, hs3, hf3, hp3⟩ := hA
        have hr3d : r3 st.next = some (w.heap.size, 0) := hle3.b _ _ (hle2.b _ _ (Rho.set_same _ _ _))
        have hr3l : r3 (st.next + 1) = some (w1.heap.size, 0) := hle3.b _ _ (Rho.set_same _ _ _)
        have hEr : EnvR r3 e st.T := hE.mono ((hle1.trans hle2).trans hle3)
        have hDs : DsR P r3 (.d st.next :: st.mks) ({ target := .collected w.heap.size, args := #[] } :: ds) := ⟨_, _, ds, hr3d, rfl, hd.mono ((hle1.trans hle2).trans hle3)⟩
        have fin : ∀ (ph : Nat) (pend : Option (Option Nat)) (f0 n0 : Nat) (T0 : Tr AV) (ps0 : List Nat) (a0 b0 : Code) (d0 : Nat) (x : Xt), z.2.H.get (st.next + 1) = some (.lp ph pend f0 n0 T0 ps0 a0 b0 d0) → phaseC ph ≠ .busy → K r3.at' (x, ⟨st.T, z.2.H.put (st.next + 1) .dead, z.2.next, .d st.next :: st.mks, z.2.pc⟩) →
            ∃ w4, (Instr.endLoop (w.heap.size + 1)).run P w3 = .ok (pendC pend) w4 ∧ ∀ a', a' = { a with defers := [{ target := .collected w.heap.size, args := #[] }] ++ a.defers } → Q x.toExit a' w4 := by
          intro ph pend f0 n0 T0 ps0 a0 b0 d0 x hget hph hK
          have hr3m : r3 (st.next + 1) = some (w.heap.size + 1, 0) := by rw [← hsz1]; exact hr3l
          obtain ⟨hlo4, fn4, tmps4, D4, KD4, hd4, ok14, ok24, hsl4, hB4⟩ := hs3.here hget hr3m
          obtain ⟨ob, hend⟩ : ∃ ob, (Instr.endLoop (w.heap.size + 1)).run P w3 = .ok (pendC pend) (w3.putObj (w.heap.size + 1) ob) := ⟨_, run_endLoop (P := P) hB4 hph⟩
          refine ⟨_, hend, ?_⟩
          rintro a' rfl
          have hs4 := hs3.upd hget rfl hr3m (hlo4 rfl) (mod_put w3 (w.heap.size + 1) ob) (ab' := .dead) trivial
          have hq := hfin r3 e _ _ _ hK ((hle1.trans hle2).trans hle3) hEr hs4 hp3 hDs ((hF12.trans hf3).trans (Frm.upd hget hr3m (mod_put w3 (w.heap.size + 1) ob)).c)
          unfold GQ at hq
          refine hq _ ?_
          refine @Knows.mk ⟨none, { target := .collected w.heap.size, args := #[] } :: ds⟩ _ _ _ ?_ hsize hslot
          show { target := .collected w.heap.size, args := #[] } :: a.defers = { target := .collected w.heap.size, args := #[] } :: ds
          rw [hdef]
        unfold endLoopA at hz
        split at hz
        · rename_i hget
          obtain ⟨w4, h1, h2⟩ := fin 0 none _ _ _ _ _ _ _ .normal hget (by simp [phaseC]) hz
          exact ⟨_, w4, h1, h2 _ rfl⟩
        · rename_i hget
          obtain ⟨w4, h1, h2⟩ := fin 2 (some none) _ _ _ _ _ _ _ .ret hget (by simp [phaseC]) hz
          exact ⟨_, w4, h1, wpIn_ret (h2 _ rfl)⟩
        · rename_i id f0 n0 T0 ps0 a0 b0 d0 hget
          obtain ⟨w4, h1, h2⟩ := fin 2 (some (some id)) _ _ _ _ _ _ _ (.exit id) hget (by simp [phaseC]) hz
          exact ⟨_, w4, h1, wpIn_exit (h2 _ rfl)⟩
        · exact hz.elim
    · exact h.elim
  · exact h.elim
theorem evAny_ok [Sig] (hsz : P.funcs.size ≤ YB) (hok : ∀ f c, Sig.ok f c → okC plans f c = true ∧ InF P f c) (hfs : OkAll P plans) (hext : CallOK X P lo ext) {k : Nat} (h : RunOK X P plans ext lx lo k) : AnyOK X P lo (evAny P ext (evRun P plans ext lx k)) where
  fn f args st hcb K r w Args hev hA hs hpc := by
    have hlt : f < P.funcs.size := by
      unfold callB at hcb
      split at hcb
      · rename_i fn hf
        exact (Array.getElem?_eq_some_iff.1 hf).1
      · cases hcb
    unfold evAny at hev
    split at hev
    · rename_i hb
      have := Nat.le_of_ble_eq_true hb
      omega
    · exact evCall_ok hfs hext h f args st K r w Args hev hA hs hpc
  yl l args st K r w Args B K' hev hA hs hpc hr := by
    unfold evAny at hev
    split at hev
    · have he : Nat.sub (Nat.add YB l) YB = l := by show YB + l - YB = l; omega
      rw [he] at hev
      exact evRound_ok hok h hev hA hs hpc hr
    · rename_i hb
      have : Nat.ble YB (Nat.add YB l) = true := Nat.ble_eq_true_of_le (Nat.le_add_right YB l)
      rw [this] at hb
      cases hb
theorem Fin.of [Sig] {rd : Option Nat} {ds : List Deferred} {x : Xt} {K : Val X → Xt × ST → Prop} (hE : EnvR r e st.T) (hs : Sat lo r st.H w) (hpc : PcOK r.at' st.pc) (hd : DsR P r st.mks ds) (h : Fin P rd lo n r st.H w K Q) (hK : K r.at' (x, st)) : @GQ ⟨rd, ds⟩ Q x.toExit n e w :=
  h r e w ds _ hK (Rho.le.refl r) hE hs hpc hd (FrmC.refl r _ w)
theorem anyT_get {α : Type} {p : α → Bool} : ∀ {t : Tr α}, t.anyT p = true → ∃ k v, t.get k = some v ∧ p v = true
  | .e, h => by simp [Tr.anyT] at h
  | .n (some v) l r, h => by
    simp only [Tr.anyT] at h
    split at h
    · rename_i hv
      exact ⟨0, v, rfl, hv⟩
    · split at h
      · rename_i hl
        obtain ⟨k, u, h1, h2⟩ := anyT_get hl
        refine ⟨2 * k + 1, u, ?_, h2⟩
        simp only [Tr.get]
        have e1 : Nat.beq (2 * k % 2) 0 = true := by rw [show 2 * k % 2 = 0 by omega]; rfl
        rw [e1, show 2 * k / 2 = k by omega]
        exact h1
      · obtain ⟨k, u, h1, h2⟩ := anyT_get h
        refine ⟨2 * k + 2, u, ?_, h2⟩
        simp only [Tr.get]
        have e1 : Nat.beq ((2 * k + 1) % 2) 0 = false := by rw [show (2 * k + 1) % 2 = 1 by omega]; rfl
        rw [e1, show (2 * k + 1) / 2 = k by omega]
        exact h1
  | .n none l r, h => by
    simp only [Tr.anyT] at h
    split at h
    · rename_i hl
      obtain ⟨k, u, h1, h2⟩ := anyT_get hl
      refine ⟨2 * k + 1, u, ?_, h2⟩
      simp only [Tr.get]
      have e1 : Nat.beq (2 * k % 2) 0 = true := by rw [show 2 * k % 2 = 0 by omega]; rfl
      rw [e1, show 2 * k / 2 = k by omega]
      exact h1
    · obtain ⟨k, u, h1, h2⟩ := anyT_get h
      refine ⟨2 * k + 2, u, ?_, h2⟩
      simp only [Tr.get]
      have e1 : Nat.beq ((2 * k + 1) % 2) 0 = false := by rw [show (2 * k + 1) % 2 = 1 by omega]; rfl
      rw [e1, show (2 * k + 1) / 2 = k by omega]
      exact h1
theorem RelL.mem [Sig] : ∀ {l : List AV} {L : List Value} {a : AV}, RelL r l L → a ∈ l → ∃ A, Rel r a A
  | [], _, _, _, h => by simp at h
  | b :: l, L, a, hL, h => by
    obtain ⟨A, M, rfl, h1, h2⟩ := hL.of_cons
    rcases List.mem_cons.1 h with rfl | h
    · exact ⟨A, h1⟩
    · exact RelL.mem h2 h
theorem occV_rel [Sig] {a v : AV} {V : Value} (h : occV a v = true) (hv : Rel r v V) : ∃ A, Rel r a A := by
  unfold occV at h
  split at h
  · rename_i l
    obtain ⟨b, hb1, hb2⟩ := List.any_eq_true.1 h
    obtain ⟨L, rfl, hL⟩ := rel_g hv
    rw [sameV_eq hb2]
    exact hL.mem hb1
  · rw [sameV_eq h]
    exact ⟨V, hv⟩
theorem occS_ok [Sig] (hE : EnvR r e st.T) (hs : Sat lo r st.H w) : ∀ {l : List RI}, occS st l = true → ∀ a, RI.fz a ∈ l → ∃ A, Rel r a A
  | [], _, a, h => by simp at h
  | x :: l, h, a, ha => by
    have rest : occS st l = true := by
      cases x with
      | fz b =>
        simp only [occS] at h
        split at h
        · exact h
        · split at h
          · exact h
          · cases h
      | cells => simpa [occS] using h
      | look => simpa [occS] using h
    rcases List.mem_cons.1 ha with rfl | ha
    · simp only [occS] at h
      split at h
      · rename_i h1
        obtain ⟨k, v, h2, h3⟩ := anyT_get h1
        obtain ⟨V, _, hV⟩ := hE k v h2
        exact occV_rel h3 hV
      · split at h
        · rename_i h1
          obtain ⟨k, ab, h2, h3⟩ := anyT_get h1
          unfold occB at h3
          split at h3
          · rename_i c hc
            obtain ⟨v, hv1, hv2⟩ := List.any_eq_true.1 h3
            obtain ⟨B, K, hr, _, hh⟩ := hs.row k ab h2
            obtain ⟨L, hL, _⟩ := hh.cells hc
            obtain ⟨V, hV⟩ := hL.mem hv1
            exact occV_rel hv2 hV
          · cases h3
        · cases h
    · exact occS_ok hE hs rest a ha
set_option maxHeartbeats 1000000 in
theorem region_ok [Sig] (hmix : P.follows .mixedOrders = true) (hcall : AnyOK X P lo call) {rd : Option Nat} {ds : List Deferred} {f id : Nat} {ops : Array Oper} {draw : Bool} {K : Val X → Xt × ST → Prop} (hok : okC plans f (.region id ops draw) = true)
    (h : (evRegion P call n ops draw (plans f id) st).vc K r.at') (hE : EnvR r e st.T) (hs : Sat lo r st.H w) (hpc : PcOK r.at' st.pc) (hd : DsR P r st.mks ds) (hF : Fin P rd lo n r st.H w K Q) : @GC ⟨rd, ds⟩ P (.region id ops draw) Q n e w := by
  letI fr : Fr := ⟨rd, ds⟩
  unfold evRegion at h
  cases draw with
  | true =>
    simp only at h
    split at h
    · rename_i pl hpl
      simp only [okC, hpl] at hok
      obtain ⟨t, ht⟩ : ∃ t, t = evPlan P call n ops pl [] st := ⟨_, rfl⟩
      rw [← ht] at h
      have main : ∀ (RD : RI → Prop) (SN : Tr AB → Prop) (S : World → Prop), (∀ x, RD x → Rx r x ∧ ∀ w', S w' → Sx r w' x) → (∀ H, SN H → ∀ r' w', r.le r' → Sat lo r' H w' → S w') → (∀ x ∈ t.leaves, (∀ y ∈ x.rd, RD y) ∧ ∀ H ∈ x.sn, SN H) →
          (t.bind fun r => .leaf (.normal, r.st)).vc K r.at' → GC P (.region id ops true) Q n e w := by
        intro RD SN S h1 h2 h3 h4
        have h4 := vc_bind h4
        rw [ht] at h4 h3
        have hsd := hs.ext (Ext.drew w)
        refine GC.regionS pl S hmix hok (evPlan_sound hcall h1 h2 pl [] st (fun s x => K s (.normal, x)) r e _ h3 h4 (Rho.le.refl r) hE hsd hpc ?_)
        intro r' e' w' s k1 k2 k3 k4 k5 k6 k7
        have hq := hF r' e' w' ds (.normal, s) k1 k2 k3 k4 k5 (by rw [k6]; exact hd.mono k2) ((FrmC.ext (Ext.drew w)).trans k7)
        exact GX.doneD (by simpa [Xt.toExit] using hq)
      split at h
      · rename_i hnil
        refine main (fun _ => False) (fun _ => True) (fun _ => True) (fun _ h => h.elim) (fun _ _ _ _ _ _ => trivial) (fun x hx => ⟨fun y hy => ?_, fun _ _ => trivial⟩) h
        have : y ∈ t.leaves.flatMap (·.rd) := List.mem_flatMap.2 ⟨x, hx, hy⟩
        rw [hnil] at this
        simp at this
      · rename_i y l hcons
        split at h
        · rename_i ho hocc
          have hall := oksAll_mem ho
          have hoc := occS_ok hE hs hocc
          refine main (fun x => x ∈ y :: l) (fun H => H ∈ t.leaves.flatMap (·.sn)) (fun w' => ∀ x ∈ y :: l, Sx r w' x) (fun x hx => ⟨Rx_ok hs (oks_mem (hall st.H List.mem_cons_self) x hx) fun a ha => hoc a (ha ▸ hx), fun w' hS => hS x hx⟩) (fun H hH r' w' hle hsat x hx => Sx_ok hle hsat (oks_mem (hall H (List.mem_cons_of_mem _ hH)) x hx)) (fun x hx => ⟨fun z hz => ?_, fun H hH => List.mem_flatMap.2 ⟨x, hx, hH⟩⟩) h
          rw [← hcons]
          exact List.mem_flatMap.2 ⟨x, hx, hz⟩
        · exact h.elim
    · exact h.elim
  | false =>
    simp only at h
    have h := vc_bind h
    have hx := evOpsN_sound (Q := Q) hcall ops.toList 0 st r e w (by simp) h hE hs hpc (fun r' e' w' s k1 k2 k3 k4 k5 k6 k7 => GX.done (hF r' e' w' ds (.normal, s) k1 k2 k3 k4 k5 (by rw [k6]; exact hd.mono k2) k7))
    refine GC.region (effs (List.range' 0 ops.toList.length)) ?_ hx
    rw [planIdx_effs, List.range_eq_range']
    simp
theorem deferOf_spec {ops : Array Oper} {o : Oper} {x : Operand} (h : deferOf ops = some (o, x)) : ∃ ts ty pos aft, ops = #[o, ⟨none, .defer ⟨.value x, #[], ts⟩, ty, pos, aft, none⟩] := by
  unfold deferOf at h
  split at h
  · rename_i o' x' ts ty pos aft hl
    cases h
    exact ⟨ts, ty, pos, aft, Array.toList_inj.1 (by simpa using hl)⟩
  · cases h
theorem evDefer_ok [Sig] {ds : List Deferred} {id : Nat} {ops : Array Oper} {K : Val X → Xt × ST → Prop} {o : Oper} {x : Operand} (hops : deferOf ops = some (o, x)) (h : (evDefer P n o x st).vc K r.at')
    (hE : EnvR r e st.T) (hs : Sat lo r st.H w) (hpc : PcOK r.at' st.pc) (hd : DsR P r st.mks ds) (hF : Fin P none lo n r st.H w K Q) : @GC ⟨none, ds⟩ P (.region id ops false) Q n e w := by
  letI fr : Fr := ⟨none, ds⟩
  obtain ⟨ts, ty, pos, aft, rfl⟩ := deferOf_spec hops
  unfold evDefer at h
  split at h
  · rename_i v hg hv
    split at h
    · rename_i s hp
      split at h
      · rename_i g cs hx
        split at h
        · rename_i hcb
          obtain ⟨hdst, hH, _, hmk, hpc', hP⟩ := put_spec (X := X) hp
          refine GC.region (.eff 0 (.eff 1 .done)) rfl (GX.eff (o := o) rfl ?_)
          obtain ⟨dst, op, ty0, pos0, aft0, g0⟩ := o
          simp only at hg
          subst hg
          refine evPure_sound rfl hE hv (by simp [wantedE]) hdst fun A hA => ?_
          have hE' := hP r e A hE hA
          obtain ⟨V, h1, h2⟩ := av_rel hE' hx
          obtain ⟨Cs, rfl, hCs⟩ := rel_f h2
          intro a ha
          have ha : @Knows ⟨none, ds⟩ a _ n := ha
          have hev : a.eval x = .func (.func g) #[] Cs.toArray := ev_eq ha h1
          have hr : (execOp a.eval ⟨none, .defer ⟨.value x, #[], ts⟩, ty, pos, aft, none⟩).run P w = .ok (.defer { target := .fn (.func g) Cs.toArray, args := #[] }) w := by
            simp [execOp, resolve, Deferred.ofValue, hev]
          show wpOpIn Fr.F 0 P _ Q 1 _ a w
          unfold wpOpIn
          simp only [List.getElem?_toArray, List.getElem?_cons_succ, List.getElem?_cons_zero, Region.wanted, if_true]
          refine ⟨fun _ _ => trivial, ?_⟩
          have hsem : Oper.semAt (@Fr.F ⟨none, ds⟩).round a.eval ⟨none, .defer ⟨.value x, #[], ts⟩, ty, pos, aft, none⟩ = execOp a.eval ⟨none, .defer ⟨.value x, #[], ts⟩, ty, pos, aft, none⟩ := rfl
          rw [hsem, hr, Oper.uponIn_defer]
          refine ⟨fun _ h => h, ?_⟩
          have hq := hF r _ w ({ target := .fn (.func g) Cs.toArray, args := #[] } :: ds) _ h (Rho.le.refl r) hE' (by rw [hH]; exact hs) (by rw [hpc']; exact hpc) ⟨Cs.toArray, ds, by simp [hCs.length], hcb, rfl, by rw [hmk]; exact hd⟩ (by rw [hH]; exact FrmC.refl r _ w)
          unfold GQ at hq
          have hdef : a.defers = ds := @Knows.defers ⟨none, ds⟩ _ _ _ ha
          have hsz := @Knows.size ⟨none, ds⟩ _ _ _ ha
          have hsl := @Knows.slot ⟨none, ds⟩ _ _ _ ha
          exact hq _ (@Knows.mk ⟨none, { target := .fn (.func g) Cs.toArray, args := #[] } :: ds⟩ { tmps := a.tmps, defers := { target := .fn (.func g) Cs.toArray, args := #[] } :: a.defers } _ n (congrArg (_ :: ·) hdef) hsz hsl)
        · exact h.elim
      · exact h.elim
    · exact h.elim
  · exact h.elim
theorem normal_fin [Sig] {rd : Option Nat} {H : Tr AB} {K : Val X → Xt × ST → Prop} {k : ST → Out (Xt × ST)} {G : Act → World → Prop} (hF : Fin P rd lo n r H w K Q)
    (hn : ∀ r1 e1 w1 ds1 s, (k s).vc K r1.at' → r.le r1 → EnvR r1 e1 s.T → Sat lo r1 s.H w1 → PcOK r1.at' s.pc → DsR P r1 s.mks ds1 → FrmC r H w r1 s.H w1 → ∀ a, @Knows ⟨rd, ds1⟩ a e1 n → G a w1) :
    Fin P rd lo n r H w (fun s z => (onNormal k z).vc K s) (Exit.then G Q) := by
  intro r1 e1 w1 ds1 z hz k1 k2 k3 k4 k5 k6
  obtain ⟨zx, zs⟩ := z
  unfold GQ
  intro a ha
  cases zx with
  | normal => exact hn r1 e1 w1 ds1 zs hz k1 k2 k3 k4 k5 k6 a ha
  | exit id =>
    have hq := hF r1 e1 w1 ds1 _ hz k1 k2 k3 k4 k5 k6
    unfold GQ at hq
    exact hq a ha
  | ret =>
    have hq := hF r1 e1 w1 ds1 _ hz k1 k2 k3 k4 k5 k6
    unfold GQ at hq
    exact hq a ha
set_option maxHeartbeats 1000000 in
theorem run_sound [Sig] (hmix : P.follows .mixedOrders = true) (hsz : P.funcs.size ≤ YB) (hok0 : ∀ f c, Sig.ok f c ↔ (okC plans f c = true ∧ InF P f c)) (hfs : OkAll P plans) (hext : CallOK X P lo ext) (hlx : LoopXOK X P plans lo lx) : ∀ k, RunOK X P plans ext lx lo k ∧ LoopOK X P plans ext lx lo k
  | 0 => ⟨fun _ _ _ _ _ _ _ _ _ _ _ _ _ h => h.elim, fun _ _ _ _ _ _ _ _ _ _ _ _ _ h => h.elim⟩
  | k + 1 => by
    obtain ⟨ihR, ihL⟩ := run_sound hmix hsz hok0 hfs hext hlx k
    have hcall : AnyOK X P lo (evAny P ext (evRun P plans ext lx k)) := evAny_ok hsz (fun f c => (hok0 f c).1) hfs hext ihR
    have hloop : LoopOK X P plans ext lx lo (k + 1) := by
      intro rd ds f n c st K r e w Q hok hin h hE hs hpc hd hF a ha
      simp only [evRun] at h
      rw [roundsIn_succ]
      have hgc : @GC ⟨rd, ds⟩ P c (Exit.then (Code.roundsIn (@Fr.F ⟨rd, []⟩) 0 P c Q k) Q) n e w := ihR rd ds f n c st _ r e w _ hok (hin.map fun _ => .loop) (vc_bind h) hE hs hpc hd
        (normal_fin hF fun r1 e1 w1 ds1 s k0 k1 k2 k3 k4 k5 k6 a1 ha1 => ihL rd ds1 f n c s K r1 e1 w1 Q hok hin k0 k2 k3 k4 k5 (hF.after k1 k6) a1 ha1)
      unfold GC at hgc
      exact hgc a ha
    refine ⟨?_, hloop⟩
    intro rd ds f n c st K r e w Q hok hin h hE hs hpc hd hF
    cases c with
    | skip => exact @GC.skip _ _ _ _ _ ⟨rd, ds⟩ (Fin.of hE hs hpc hd hF h)
    | label l =>
      have hq := Fin.of (x := .normal) hE hs hpc hd hF h
      unfold GC
      unfold GQ at hq
      exact fun a ha => wpIn_label (hq a ha)
    | region id ops draw =>
      simp only [evRun] at h
      split at h
      · exact region_ok hmix hcall hok h hE hs hpc hd hF
      · rename_i o x ho
        split at h
        · rename_i hrd
          have hrd : rd = none := by cases rd <;> simp_all
          subst hrd
          exact evDefer_ok ho h hE hs hpc hd hF
        · exact h.elim
    | seq a b =>
      simp only [evRun] at h
      simp only [okC] at hok
      split at hok
      · rename_i hoka
        have hgc : @GC ⟨rd, ds⟩ P a (Exit.then (fun a1 w1 => b.wpIn (@Fr.F ⟨rd, []⟩) 0 P Q a1 w1) Q) n e w := ihR rd ds f n a st _ r e w _ hoka (hin.map fun _ => .seq1) (vc_bind h) hE hs hpc hd
          (normal_fin hF fun r1 e1 w1 ds1 s k0 k1 k2 k3 k4 k5 k6 a1 ha1 => by
            have hgb := ihR rd ds1 f n b s K r1 e1 w1 Q hok (hin.map fun _ => .seq2) k0 k2 k3 k4 k5 (hF.after k1 k6)
            unfold GC at hgb
            exact hgb a1 ha1)
        unfold GC at hgc ⊢
        exact fun a1 ha1 => wpIn_seq (hgc a1 ha1)
      · cases hok
    | cond y a b =>
      simp only [evRun, evCond] at h
      simp only [okC] at hok
      split at hok
      · rename_i hoka
        have h1 := fun (st : ST) (h : (evRun P plans ext lx k rd.isSome f n a st).vc K r.at') hE hs hpc hd hF => ihR rd ds f n a st K r e w Q hoka (hin.map fun _ => .cond1) h hE hs hpc hd hF
        have h2 := fun (st : ST) (h : (evRun P plans ext lx k rd.isSome f n b st).vc K r.at') hE hs hpc hd hF => ihR rd ds f n b st K r e w Q hok (hin.map fun _ => .cond2) h hE hs hpc hd hF
        split at h
        · rename_i hy
          obtain ⟨V, k1, k2⟩ := av_rel hE hy
          have := rel_b k2
          subst this
          exact @GC.cond _ _ _ _ _ ⟨rd, ds⟩ _ _ _ _ k1 (fun _ => h1 st h hE hs hpc hd hF) (fun h => by cases h)
        · rename_i hy
          obtain ⟨V, k1, k2⟩ := av_rel hE hy
          have := rel_b k2
          subst this
          exact @GC.cond _ _ _ _ _ ⟨rd, ds⟩ _ _ _ _ k1 (fun h => by cases h) (fun _ => h2 st h hE hs hpc hd hF)
        · rename_i c hy
          obtain ⟨V, k1, k2⟩ := av_rel hE hy
          obtain ⟨d, k3, rfl⟩ := rel_xb k2
          split at h
          · rename_i hf
            obtain ⟨d', k4, k5⟩ := pcFind_ok hpc hf
            rw [k3] at k4
            cases k4
            exact @GC.cond _ _ _ _ _ ⟨rd, ds⟩ _ _ _ _ k1 (fun _ => h1 st h hE hs hpc hd hF) (fun h => by rw [k5] at h; cases h)
          · rename_i hf
            obtain ⟨d', k4, k5⟩ := pcFind_ok hpc hf
            rw [k3] at k4
            cases k4
            exact @GC.cond _ _ _ _ _ ⟨rd, ds⟩ _ _ _ _ k1 (fun h => by rw [k5] at h; cases h) (fun _ => h2 st h hE hs hpc hd hF)
          · obtain ⟨d', k4, k5, k6⟩ := h
            rw [k3] at k4
            cases k4
            exact @GC.cond _ _ _ _ _ ⟨rd, ds⟩ _ _ _ _ k1 (fun hb => h1 (st.know c true) (k5 hb) hE hs (hpc.cons k3 hb) hd hF) (fun hb => h2 (st.know c false) (k6 hb) hE hs (hpc.cons k3 hb) hd hF)
        · exact h.elim
      · cases hok
    | block id a =>
      simp only [evRun] at h
      simp only [okC] at hok
      split at h
      · rename_i t ht
        exact hlx rd ds f id n a st t ht hok hin K r e w Q h hE hs hpc hd hF
      · refine @GC.block _ _ _ _ _ ⟨rd, ds⟩ _ _ ?_
        refine ihR rd ds f n a st _ r e w _ hok (hin.map fun _ => .block) (vc_bind h) hE hs hpc hd fun r1 e1 w1 ds1 z hz k1 k2 k3 k4 k5 k6 => ?_
        have hgo := hF r1 e1 w1 ds1 (inBlockA id z) hz k1 (by unfold inBlockA; split <;> first | (split <;> exact k2) | exact k2) (by unfold inBlockA; split <;> first | (split <;> exact k3) | exact k3) (by unfold inBlockA; split <;> first | (split <;> exact k4) | exact k4) (by unfold inBlockA; split <;> first | (split <;> exact k5) | exact k5) (by unfold inBlockA; split <;> first | (split <;> exact k6) | exact k6)
        obtain ⟨zx, zs⟩ := z
        cases zx with
        | normal => exact @GQ.inNormal _ _ _ _ ⟨rd, ds1⟩ _ hgo
        | exit j =>
          unfold inBlockA at hgo
          simp only at hgo
          split at hgo
          · rename_i hj
            have hj := Nat.eq_of_beq_eq_true hj
            subst hj
            exact @GQ.inExit _ _ _ _ ⟨rd, ds1⟩ _ hgo
          · rename_i hj
            exact @GQ.inExitNe _ _ _ _ ⟨rd, ds1⟩ _ _ hj hgo
        | ret => exact @GQ.inRet _ _ _ _ ⟨rd, ds1⟩ _ hgo
    | loop a =>
      simp only [okC] at hok
      have hm := hloop rd ds f n a st K r e w Q hok hin h hE hs hpc hd hF
      unfold GC
      exact fun act ha => wpIn_loop_rounds (k + 1) (hm act ha)
    | scope a =>
      simp only [evRun] at h
      simp only [okC] at hok
      have hgc : @GC ⟨rd, ds⟩ P a (Exit.noGoto Q) n e w := ihR rd ds f n a st K r e w _ hok (hin.map fun _ => .scope) h hE hs hpc hd fun r1 e1 w1 ds1 z hz k1 k2 k3 k4 k5 k6 => by
        have hq := hF r1 e1 w1 ds1 z hz k1 k2 k3 k4 k5 k6
        obtain ⟨zx, zs⟩ := z
        cases zx with
        | normal => unfold GQ at hq ⊢; exact hq
        | exit id => unfold GQ at hq ⊢; exact hq
        | ret => unfold GQ at hq ⊢; exact hq
      unfold GC at hgc ⊢
      exact fun act ha => wpIn_scope (hgc act ha)
    | exit id => exact @GC.exit _ _ _ _ _ ⟨rd, ds⟩ _ (Fin.of (x := .exit id) hE hs hpc hd hF h)
    | ret => exact @GC.ret _ _ _ _ _ ⟨rd, ds⟩ (Fin.of (x := .ret) hE hs hpc hd hF h)
    | rangeFunc g ps asg body =>
      simp only [evRun] at h
      simp only [okC] at hok
      split at hok
      · rename_i hoka
        cases rd with
        | none => exact evRangeF_ok hcall ((hok0 _ _).2 ⟨hoka, hin.map fun _ => .asg⟩) ((hok0 _ _).2 ⟨hok, hin.map fun _ => .bod⟩) hE hs hpc hd h hF
        | some l => exact h.elim
      · cases hok
    | goto => exact h.elim
    | refuse => exact h.elim
theorem evText_sound [Sig] (hmix : P.follows .mixedOrders = true) (hsz : P.funcs.size ≤ YB) (hok0 : ∀ f c, Sig.ok f c ↔ (okC plans f c = true ∧ InF P f c)) (hfs : OkAll P plans) (hext : CallOK X P lo ext) (hlx : LoopXOK X P plans lo lx) (k : Nat) (g : Nat) (args : List AV) (st : ST) (K : Val X → AV × ST → Prop) (r : Rho X) (w : World) (Args : List Value)
    (hev : (evText P plans ext lx k g args st).vc K r.at') (hArgs : RelL r args Args) (hs : Sat lo r st.H w) (hpc : PcOK r.at' st.pc) : Ret P g Args.toArray w (Left lo r st.H w K) :=
  evCall_ok hfs hext (run_sound hmix hsz hok0 hfs hext hlx k).1 g args st K r w Args hev hArgs hs hpc
end
end Go.Proofs.YtbjomeonjlialaaGreat.V.S
