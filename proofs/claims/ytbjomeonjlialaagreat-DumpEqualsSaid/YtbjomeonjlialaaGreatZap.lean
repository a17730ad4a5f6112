/-
  The reckoned run on any operation on memory. No condition: these are rules over any program.
-/
import Derived.Test.YtbjomeonjlialaaGreatZao
set_option linter.unusedVariables false
set_option linter.unusedSimpArgs false
namespace Go.Proofs.YtbjomeonjlialaaGreat.V.S
section
variable {X : Type} [Spec X] {P : Program} {lo n : Nat} {r : Rho X} {e : Env} {T : Tr AV} {H : Tr AB} {w : World} {st st' : ST} {dst : Option Tmp} {ty : TypeId} {pos : String} {aft : Array Edge} {g : Option (Nat × Bool)}
theorem findBorn_rel [Sig] {q : Nat} {y : ME} : ∀ {es : List ME} {E : List MapEntry}, RelE r es E → findBorn q es = some y → ∃ k v, E.find? (fun x => x.born == q) = some ⟨k, v, y.born⟩ ∧ Rel r y.k k ∧ Rel r y.v v
  | [], E, _, h => by simp [findBorn] at h
  | x :: l, E, hE, h => by
    obtain ⟨kx, vx, M, rfl, h2, h3, h4⟩ := hE.cons_inv
    simp only [findBorn] at h
    split at h
    · rename_i hb
      have hb := Nat.eq_of_beq_eq_true hb
      cases h
      exact ⟨kx, vx, by simp [hb], h2, h3⟩
    · rename_i hb
      have hb := Nat.ne_of_beq_eq_false hb
      obtain ⟨k, v, h5, h6, h7⟩ := findBorn_rel h4 h
      exact ⟨k, v, by simp [hb, h5], h6, h7⟩
theorem lastOf_spec : ∀ {l : List Nat} {q : Nat}, lastOf l = some q → l.toArray.back? = some q
  | [], _, h => by simp [lastOf] at h
  | [x], q, h => by simp [lastOf] at h; simp [h]
  | x :: y :: l, q, h => by
    have := lastOf_spec (l := y :: l) (by simpa [lastOf] using h)
    simpa [Array.back?] using this
theorem evIter_sound [Sig] (hs : Sat lo r st.H w) {x v : AV} {X : Value} (hX : Rel r x X) (h : evIter st (some x) = some (v, st')) :
    ∃ V w', (Instr.entry X).run P w = .ok V w' ∧ After lo r st.H w v st'.H V w' := by
  unfold evIter at h
  split at h
  · rename_i b hx
    cases hx
    obtain ⟨B, Kc, hr, rfl⟩ := rel_p hX
    split at h
    · rename_i m since seen last hb
      obtain ⟨hlo, M, ⟨Bm, Km, hrm, rfl⟩, hB⟩ := hs.here hb hr
      split at h
      · rename_i es clock q hbm hq
        obtain ⟨_, E, hE, hBm⟩ := hs.here hbm hrm
        split at h
        · rename_i y hc hf
          have hc := Nat.eq_of_beq_eq_true hc
          subst hc
          obtain ⟨k, u, h1, h2, h3⟩ := findBorn_rel hE hf
          cases h
          refine ⟨.tuple #[k, u], w, ?_, After.same hs (by simpa using mk_t (RelL.cons h2 (RelL.cons h3 (RelL.nil r))))⟩
          have h4 : E.toArray.find? (fun x => x.born == q) = some ⟨k, u, y.born⟩ := by simpa using h1
          simp only [Instr.entry, Sem.run_bind, getObj_mit hB, Result.andThen_ok, lastOf_spec hq, getObj_map hBm, h4]
          simp
        · cases h
      · cases h
    · cases h
  · cases h
theorem MR.of [Fr] [Sig] {o : Oper} {v : AV} {H' : Tr AB} (h : ∀ a, Knows a e n → ∃ V w', (execOp a.eval o).run P w = .ok (.value V) w' ∧ After lo r H w v H' V w') : MR P lo n r H e w o v H' := fun a ha =>
  let ⟨V, w', h1, h2⟩ := h a ha
  ⟨_, V, w', h1, .inl rfl, h2⟩
theorem MR.ofU [Fr] [Sig] {o : Oper} {H' : Tr AB} (h : ∀ a, Knows a e n → ∃ w', (execOp a.eval o).run P w = .ok .skip w' ∧ After lo r H w (.t []) H' undef w') : MR P lo n r H e w o (.t []) H' := fun a ha =>
  let ⟨w', h1, h2⟩ := h a ha
  ⟨_, undef, w', h1, .inr ⟨rfl, rfl⟩, h2⟩
theorem evLookup_some {t : TypeId} {x i : Option AV} {ok : Bool} {z : AV × ST} (h : evLookup P st t x i ok = some z) : ∃ X I, x = some X ∧ i = some I := by
  unfold evLookup at h
  split at h
  · exact ⟨_, _, rfl, rfl⟩
  · cases h
theorem evUpdate_some {t : TypeId} {m k u : Option AV} {z : AV × ST} (h : evUpdate P st t m k u = some z) : ∃ M K U, m = some M ∧ k = some K ∧ u = some U := by
  unfold evUpdate at h
  split at h
  · exact ⟨_, _, _, rfl, rfl, rfl⟩
  · cases h
theorem evEntry_some {t : TypeId} {m k : Option AV} {z : AV × ST} (h : evEntry P st t m k = some z) : ∃ M K, m = some M ∧ k = some K := by
  unfold evEntry at h
  split at h
  · exact ⟨_, _, rfl, rfl⟩
  · cases h
theorem evEntryStore_some {m s u : Option AV} {z : AV × ST} (h : evEntryStore st m s u = some z) : ∃ M S U, m = some M ∧ s = some S ∧ u = some U := by
  unfold evEntryStore at h
  split at h
  · exact ⟨_, _, _, rfl, rfl, rfl⟩
  · cases h
theorem evDelete_some {t : TypeId} {m k : Option AV} {z : AV × ST} (h : evDelete P st t m k = some z) : ∃ M K, m = some M ∧ k = some K := by
  unfold evDelete at h
  split at h
  · exact ⟨_, _, rfl, rfl⟩
  · cases h
theorem evRange_some {t : TypeId} {x : Option AV} {z : AV × ST} (h : evRange P st t x = some z) : ∃ X, x = some X := by
  unfold evRange at h
  split at h
  · exact ⟨_, rfl⟩
  · exact ⟨_, rfl⟩
  · cases h
theorem evNext_some {x : Option AV} {z : AV × ST} (h : evNext st x = some z) : ∃ X, x = some X := by
  unfold evNext at h
  split at h
  · exact ⟨_, rfl⟩
  · cases h
theorem evIter_some {x : Option AV} {z : AV × ST} (h : evIter st x = some z) : ∃ X, x = some X := by
  unfold evIter at h
  split at h
  · exact ⟨_, rfl⟩
  · cases h
theorem evAppend_some {t : TypeId} {a b : Option AV} {z : AV × ST} (h : evAppend P st t a b = some z) : ∃ A B, a = some A ∧ b = some B := by
  unfold evAppend at h
  split at h
  · exact ⟨_, _, rfl, rfl⟩
  · cases h
theorem evGrow_some {t t2 : TypeId} {a b : Option AV} {z : AV × ST} (h : evGrow P st t t2 a b = some z) : ∃ A B, a = some A ∧ b = some B := by
  unfold evGrow at h
  split at h
  · exact ⟨_, _, rfl, rfl⟩
  · cases h
theorem evAppendS_some {t t2 : TypeId} {a b : Option AV} {z : AV × ST} (h : evAppendS P st t t2 a b = some z) : ∃ A B, a = some A ∧ b = some B := by
  unfold evAppendS at h
  split at h
  · exact ⟨_, _, rfl, rfl⟩
  · cases h
theorem evClear_some {t : TypeId} {a : Option AV} {z : AV × ST} (h : evClear P st t a = some z) : ∃ A, a = some A := by
  unfold evClear at h
  split at h
  · exact ⟨_, rfl⟩
  · exact ⟨_, rfl⟩
  · exact ⟨_, rfl⟩
  · exact ⟨_, rfl⟩
  · exact ⟨_, rfl⟩
  · cases h
theorem evCopy_some {t : TypeId} {a b : Option AV} {z : AV × ST} (h : evCopy P st t a b = some z) : ∃ A B, a = some A ∧ b = some B := by
  unfold evCopy at h
  split at h
  · exact ⟨_, _, rfl, rfl⟩
  · cases h
theorem mr_buildSlice0' [Fr] [Sig] (hs : Sat lo r st.H w) {t el sz by_ len : Nat} {parts : Array (Nat × Operand)} {v : AV} (h1 : Nat.blt 0 len = false) (hf : sliceB P t = some (el, sz, by_)) (hp : partsA st.T parts.toList = some []) (h : st.new (.own el sz []) (.sl st.next 0 0 0 (some 0)) = some (v, st')) :
    MR P lo n r st.H e w ⟨dst, .buildSlice t len parts, ty, pos, aft, g⟩ v st'.H := by
  have h0 : len = 0 := by
    cases len with
    | zero => rfl
    | succ k => rw [blt_dec] at h1; simp at h1
  subst h0
  exact mr_buildSlice0 hs hf hp h
theorem args1 {c : Call} {x : Operand} (h : c.args.toList = [x]) : c.args = #[x] := by
  apply Array.toList_inj.1; simpa using h
theorem args2 {c : Call} {x y : Operand} (h : c.args.toList = [x, y]) : c.args = #[x, y] := by
  apply Array.toList_inj.1; simpa using h
theorem types1 {c : Call} {x : TypeId} (h : c.argTypes.toList = [x]) : c.argTypes = #[x] := by
  apply Array.toList_inj.1; simpa using h
theorem types2 {c : Call} {x y : TypeId} (h : c.argTypes.toList = [x, y]) : c.argTypes = #[x, y] := by
  apply Array.toList_inj.1; simpa using h
theorem evMem_sound [Fr] [Sig] (hE : EnvR r e st.T) (hs : Sat lo r st.H w) {op : Op} {v : AV} (h : evMem P st op = some (v, st')) : MR P lo n r st.H e w ⟨dst, op, ty, pos, aft, g⟩ v st'.H := by
  unfold evMem at h
  split at h
  · -- load
    split at h
    · rename_i hx
      split at h
      · rename_i ht
        split at h
        · rename_i hp
          split at h
          · rename_i hv
            cases h
            exact mr_load hE hs hx ht hp hv
          · cases h
        · cases h
      · cases h
    · cases h
  · -- store
    split at h
    · rename_i hx hy
      split at h
      · rename_i hb ht
        split at h
        · rename_i hc
          split at h
          · rename_i hp hl ho
            split at h
            · rename_i hset
              cases h
              exact mr_store hE hs hx hy hb ht hc hp (Nat.eq_of_beq_eq_true hl) ho hset
            · cases h
          · cases h
        · cases h
      · cases h
    · cases h
  · -- alloc
    split at h
    · rename_i hz; exact mr_alloc hs hz h
    · cases h
  · -- box
    split at h
    · rename_i hx; exact mr_box hE hs hx h
    · cases h
  · -- a slice literal
    split at h
    · rename_i hf hp
      split at h
      · rename_i hz h1 h2 h3
        split at h
        · rename_i hfill
          exact mr_buildSlice hE hs hf hp hz (blt_lt h1) (blt_lt h3) (Nat.le_of_ble_eq_true h2) hfill h
        · cases h
      · rename_i h1 _ _ _
        split at h
        · exact mr_buildSlice0' hs ‹_› hf hp h
        · cases h
      · cases h
    · cases h
  · -- make a slice
    split at h
    · rename_i hf hx hy
      split at h
      · rename_i hz h1 h2 h3
        split at h
        · exact mr_makeSlice hE hs hf hx hy hz (Nat.le_of_ble_eq_true h1) h2 h
        · rename_i hbig
          exact mr_makeBig hE hs hf hx hy hz (Nat.le_of_ble_eq_true h1) h2 h3 hbig h
      · cases h
    · cases h
  · exact evSliceH_sound hE hs h
  · -- make a map
    exact mr_makeMap hs (fun a ha => by simp [Instr.makeMap]) h
  · split at h
    · rename_i hx hm
      obtain ⟨V, h1, h2⟩ := av_rel hE hx
      have := rel_i h2
      subst this
      obtain ⟨kt, hu, _⟩ := mapB_spec hm
      exact mr_makeMap hs (fun a ha => by simp [Instr.makeMap, ev_eq ha h1, run_underlying hu, asInt, asIntOf]) h
    · cases h
  · -- look up
    obtain ⟨X, I, hx, hi⟩ := evLookup_some h
    rw [hx, hi] at h
    obtain ⟨A, h1, h2⟩ := av_rel hE hx
    obtain ⟨B, h3, h4⟩ := av_rel hE hi
    obtain ⟨rfl, V, h5, h6⟩ := evLookup_sound hs h2 h4 h
    exact MR.of fun a ha => ⟨V, w, by simp [execOp, ev_eq ha h1, ev_eq ha h3, h6], After.same hs h5⟩
  · -- a map is written
    obtain ⟨M, K, U, hm, hk, hu⟩ := evUpdate_some h
    rw [hm, hk, hu] at h
    obtain ⟨A, h1, h2⟩ := av_rel hE hm
    obtain ⟨B, h3, h4⟩ := av_rel hE hk
    obtain ⟨C, h5, h6⟩ := av_rel hE hu
    obtain ⟨rfl, w', h7, h8⟩ := evUpdate_sound hs h2 h4 h6 h
    exact MR.ofU fun a ha => ⟨w', by simp [execOp, ev_eq ha h1, ev_eq ha h3, ev_eq ha h5, h7], h8⟩
  · obtain ⟨M, K, U, hm, hk, hu⟩ := evUpdate_some h
    rw [hm, hk, hu] at h
    obtain ⟨A, h1, h2⟩ := av_rel hE hm
    obtain ⟨B, h3, h4⟩ := av_rel hE hk
    obtain ⟨C, h5, h6⟩ := av_rel hE hu
    obtain ⟨rfl, w', h7, h8⟩ := evUpdate_sound hs h2 h4 h6 h
    exact MR.ofU fun a ha => ⟨w', by simp [execOp, ev_eq ha h1, ev_eq ha h3, ev_eq ha h5, h7], h8⟩
  · obtain ⟨M, K, hm, hk⟩ := evEntry_some h
    rw [hm, hk] at h
    obtain ⟨A, h1, h2⟩ := av_rel hE hm
    obtain ⟨B, h3, h4⟩ := av_rel hE hk
    obtain ⟨V, w', h7, h8⟩ := evEntry_sound hs h2 h4 h
    exact MR.of fun a ha => ⟨V, w', by simp [execOp, ev_eq ha h1, ev_eq ha h3, h7], h8⟩
  · obtain ⟨X, hx⟩ := evRange_some h
    rw [hx] at h
    obtain ⟨A, h1, h2⟩ := av_rel hE hx
    obtain ⟨V, w', h7, h8⟩ := evRange_sound hs h2 h
    exact MR.of fun a ha => ⟨V, w', by simp [execOp, ev_eq ha h1, h7], h8⟩
  · obtain ⟨X, hx⟩ := evNext_some h
    rw [hx] at h
    obtain ⟨A, h1, h2⟩ := av_rel hE hx
    obtain ⟨V, w', h7, h8⟩ := evNext_sound (P := P) (ty := ty) hs h2 h
    exact MR.of fun a ha => ⟨V, w', by simp [execOp, ev_eq ha h1, h7], h8⟩
  · obtain ⟨X, hx⟩ := evIter_some h
    rw [hx] at h
    obtain ⟨A, h1, h2⟩ := av_rel hE hx
    obtain ⟨V, w', h7, h8⟩ := evIter_sound (P := P) hs h2 h
    exact MR.of fun a ha => ⟨V, w', by simp [execOp, ev_eq ha h1, h7], h8⟩
  · obtain ⟨M, K, U, hm, hk, hu⟩ := evEntryStore_some h
    rw [hm, hk, hu] at h
    obtain ⟨A, h1, h2⟩ := av_rel hE hm
    obtain ⟨B, h3, h4⟩ := av_rel hE hk
    obtain ⟨C, h5, h6⟩ := av_rel hE hu
    obtain ⟨rfl, w', h7, h8⟩ := evEntryStore_sound (P := P) (t := 0) hs h2 h4 h6 h
    have h7' : ∀ t, (Instr.entryStore t A B C).run P w = .ok () w' := fun _ => h7
    exact MR.ofU fun a ha => ⟨w', by simp [execOp, ev_eq ha h1, ev_eq ha h3, ev_eq ha h5, h7'], h8⟩
  · -- bytes and strings
    split at h
    · rename_i hx h1 h2
      split at h
      · rename_i h3 hc
        split at h
        · rename_i hb
          cases h
          exact mr_toStr hE hs hx h1 h2 h3 hc hb
        · cases h
      · cases h
    · rename_i hx h1 h2
      split at h
      · rename_i h3
        split at h
        · exact mr_toBytes0 hE hs hx h1 h2 h3 h
        · exact mr_toBytes hE hs hx h1 h2 h3 h
      · cases h
    · rename_i hx h1 h2
      split at h
      · rename_i hsd h3
        have hsd := Nat.eq_of_beq_eq_true hsd
        subst hsd
        exact evMark_sound hE hs hx h2 h3 h
      · cases h
    · cases h
  · -- what is built in
    split at h
    · rename_i c x y hcal hargs
      split at h
      · rename_i t t2 hts
        split at h
        · rename_i htt
          have htt := Nat.eq_of_beq_eq_true htt
          subst htt
          obtain ⟨M, K, hm, hk⟩ := evAppend_some h
          rw [hm, hk] at h
          obtain ⟨A, h1, h2⟩ := av_rel hE hm
          obtain ⟨B, h3, h4⟩ := av_rel hE hk
          obtain ⟨V, w', h7, h8⟩ := evAppend_sound (ty := ty) hs h2 h4 h
          refine MR.of fun a ha => ⟨V, w', ?_, h8⟩
          have e1 := args2 hargs
          have e2 := types2 hts
          simp [execOp, resolve, invoke, builtin, hcal, e1, e2, ev_eq ha h1, ev_eq ha h3, h7]
        · split at h
          · rename_i z hgr
            cases h
            obtain ⟨M, K, hm, hk⟩ := evGrow_some hgr
            rw [hm, hk] at hgr
            obtain ⟨A, h1, h2⟩ := av_rel hE hm
            obtain ⟨B, h3, h4⟩ := av_rel hE hk
            obtain ⟨V, w', h7, h8⟩ := evGrow_sound (ty := ty) hs h2 h4 hgr
            refine MR.of fun a ha => ⟨V, w', ?_, h8⟩
            have e1 := args2 hargs
            have e2 := types2 hts
            simp [execOp, resolve, invoke, builtin, hcal, e1, e2, ev_eq ha h1, ev_eq ha h3, h7]
          · obtain ⟨M, K, hm, hk⟩ := evAppendS_some h
            rw [hm, hk] at h
            obtain ⟨A, h1, h2⟩ := av_rel hE hm
            obtain ⟨B, h3, h4⟩ := av_rel hE hk
            obtain ⟨V, w', h7, h8⟩ := evAppendS_sound (ty := ty) hs h2 h4 h
            refine MR.of fun a ha => ⟨V, w', ?_, h8⟩
            have e1 := args2 hargs
            have e2 := types2 hts
            simp [execOp, resolve, invoke, builtin, hcal, e1, e2, ev_eq ha h1, ev_eq ha h3, h7]
      · cases h
    · rename_i c x hcal hargs
      split at h
      · rename_i t hts
        have e1 := args1 hargs
        have e2 := types1 hts
        split at h
        · rename_i hu hx
          cases h
          obtain ⟨A, h1, h2⟩ := av_rel hE hx
          have := rel_sl0 h2
          subst this
          exact MR.of fun a ha => ⟨_, w, by simp [execOp, resolve, invoke, builtin, hcal, e1, e2, ev_eq ha h1, Builtin.cap_, run_underlying hu, goInt], After.same hs (mk_i .i64 (.ofNat 0))⟩
        · rename_i k hu hx
          cases h
          obtain ⟨A, h1, h2⟩ := av_rel hE hx
          obtain ⟨B, K, _, rfl, _⟩ := rel_sl h2
          exact MR.of fun a ha => ⟨_, w, by simp [execOp, resolve, invoke, builtin, hcal, e1, e2, ev_eq ha h1, Builtin.cap_, run_underlying hu, goInt], After.same hs (mk_i .i64 (.ofNat k))⟩
        · cases h
      · cases h
    · rename_i c x hcal hargs
      split at h
      · rename_i t hts
        obtain ⟨M, hm⟩ := evClear_some h
        rw [hm] at h
        obtain ⟨A, h1, h2⟩ := av_rel hE hm
        obtain ⟨V, w', h7, h8⟩ := evClear_sound (ty := ty) hs h2 h
        refine MR.of fun a ha => ⟨V, w', ?_, h8⟩
        have e1 := args1 hargs
        have e2 := types1 hts
        simp [execOp, resolve, invoke, builtin, hcal, e1, e2, ev_eq ha h1, h7]
      · cases h
    · rename_i c x y hcal hargs
      split at h
      · rename_i t t2 hts
        split at h
        · rename_i htt
          have htt := Nat.eq_of_beq_eq_true htt
          subst htt
          obtain ⟨M, K, hm, hk⟩ := evCopy_some h
          rw [hm, hk] at h
          obtain ⟨A, h1, h2⟩ := av_rel hE hm
          obtain ⟨B, h3, h4⟩ := av_rel hE hk
          obtain ⟨V, w', h7, h8⟩ := evCopy_sound (ty := ty) hs h2 h4 h
          refine MR.of fun a ha => ⟨V, w', ?_, h8⟩
          have e1 := args2 hargs
          have e2 := types2 hts
          simp [execOp, resolve, invoke, builtin, hcal, e1, e2, ev_eq ha h1, ev_eq ha h3, h7]
        · cases h
      · cases h
    · rename_i c _ _ x y hcal hargs
      split at h
      · rename_i t l hts
        obtain ⟨M, K, hm, hk⟩ := evDelete_some h
        rw [hm, hk] at h
        obtain ⟨A, h1, h2⟩ := av_rel hE hm
        obtain ⟨B, h3, h4⟩ := av_rel hE hk
        have e2 : c.argTypes[0]? = some t := by
          rw [← Array.getElem?_toList, hts]; rfl
        obtain ⟨V, w', h7, h8⟩ := evDelete_sound (ty := ty) hs e2 h2 h4 h
        refine MR.of fun a ha => ⟨V, w', ?_, h8⟩
        have e1 := args2 hargs
        simp [execOp, resolve, invoke, builtin, hcal, e1, ev_eq ha h1, ev_eq ha h3, h7]
      · cases h
    · rename_i c x hcal hargs
      split at h
      · rename_i t m hts hm
        split at h
        · rename_i hmb hmo
          cases h
          obtain ⟨A, h1, h2⟩ := av_rel hE hm
          have h7 := run_lenMap (ty := ty) hs hmb hmo h2
          refine MR.of fun a ha => ⟨_, w, ?_, After.same hs (mk_i _ _)⟩
          have e1 := args1 hargs
          have e2 := types1 hts
          simp [execOp, resolve, invoke, builtin, hcal, e1, e2, ev_eq ha h1, h7]
        · cases h
      · cases h
    · cases h
  · cases h
end
end Go.Proofs.YtbjomeonjlialaaGreat.V.S
