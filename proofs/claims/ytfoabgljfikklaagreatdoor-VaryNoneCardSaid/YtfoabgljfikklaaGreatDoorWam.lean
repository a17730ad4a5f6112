/-
  The reckoned run on maps. No condition: these are rules over any program.
-/
import Derived.Test.YtfoabgljfikklaaGreatDoorWal
import Derived.Laws.StructEq
set_option linter.unusedVariables false
set_option linter.unusedSimpArgs false
namespace Go.Proofs.YtfoabgljfikklaaGreatDoor.V
section
variable {P : Program} {lo n : Nat} {r : Rho} {e : Env} {T : Tr AV} {H : Tr AB} {w : World} {st st' : ST} {dst : Option Tmp} {ty : TypeId} {pos : String} {aft : Array Edge} {g : Option (Nat × Bool)}
theorem keyFits_cases {d : TypeDesc} {k : AV} (h : keyFits d k = true) : (∃ j q m, d = .int j ∧ k = .i q m) ∨ (d = .string ∧ ∃ l, k = .s l) ∨ (d = .bool ∧ ∃ b, k = .b b) := by
  unfold keyFits at h
  split at h
  · exact .inl ⟨_, _, _, rfl, rfl⟩
  · exact .inr (.inl ⟨rfl, _, rfl⟩)
  · exact .inr (.inr ⟨rfl, _, rfl⟩)
  · cases h
theorem sameNow_rel [Sig] {d : TypeDesc} {a b : AV} {A B : Value} {z : Bool} (ha : keyFits d a = true) (hb : keyFits d b = true) (h : keyEq a b = some z) (hA : Rel r a A) (hB : Rel r b B) : Instr.sameNow d A B = some z ∧ (z = true → A = B) := by
  rcases keyFits_cases ha with ⟨j, q, m, rfl, rfl⟩ | ⟨rfl, l, rfl⟩ | ⟨rfl, x, rfl⟩
  · rcases keyFits_cases hb with ⟨j2, q2, m2, h1, rfl⟩ | ⟨h1, _⟩ | ⟨h1, _⟩
    · have := rel_i hA
      subst this
      have := rel_i hB
      subst this
      simp only [keyEq] at h
      split at h
      · rename_i hk
        have hk := kindEq_eq hk
        subst hk
        simp only [Option.some.injEq] at h
        subst h
        simp only [Instr.sameNow, if_true, intEq_eq]
        refine ⟨by rw [Bool.beq_eq_decide_eq], fun h => by rw [of_decide_eq_true h]⟩
      · cases h
    · cases h1
    · cases h1
  · rcases keyFits_cases hb with ⟨j2, q2, m2, h1, rfl⟩ | ⟨_, l2, rfl⟩ | ⟨h1, _⟩
    · cases h1
    · obtain ⟨rfl, h1⟩ := rel_s hA
      obtain ⟨rfl, h2⟩ := rel_s hB
      simp only [keyEq, Option.some.injEq] at h
      subst h
      simp only [str, Instr.sameNow, natsEq_eq, beq_bytes, strN_inj h1 h2, true_and]
      intro h
      rw [of_decide_eq_true h]
    · cases h1
  · rcases keyFits_cases hb with ⟨j2, q2, m2, h1, rfl⟩ | ⟨h1, _⟩ | ⟨_, y, rfl⟩
    · cases h1
    · cases h1
    · have := rel_b hA
      subst this
      have := rel_b hB
      subst this
      simp only [keyEq, Option.some.injEq] at h
      subst h
      cases x <;> cases y <;> simp [Instr.sameNow]
theorem RelE.nil_inv [Sig] {E : List MapEntry} (h : RelE r [] E) : E = [] := h
theorem RelE.cons_inv [Sig] {x : ME} {l : List ME} {E : List MapEntry} (h : RelE r (x :: l) E) : ∃ k v M, E = ⟨k, v, x.born⟩ :: M ∧ Rel r x.k k ∧ Rel r x.v v ∧ RelE r l M := h
theorem RelE.length [Sig] : ∀ {l : List ME} {E : List MapEntry}, RelE r l E → l.length = E.length
  | [], _, h => by rw [h.nil_inv]; rfl
  | x :: l, _, h => by
    obtain ⟨k, v, M, rfl, _, _, h4⟩ := h.cons_inv
    simp [h4.length]
theorem RelE.app [Sig] : ∀ {l : List ME} {E : List MapEntry} {m : List ME} {M : List MapEntry}, RelE r l E → RelE r m M → RelE r (l ++ m) (E ++ M)
  | [], _, _, _, h, k => by rw [h.nil_inv]; exact k
  | x :: l, _, _, _, h, k => by
    obtain ⟨a, v, M, rfl, h2, h3, h4⟩ := h.cons_inv
    exact ⟨a, v, _, rfl, h2, h3, h4.app k⟩
theorem findA_rel [Sig] {d : TypeDesc} {k : AV} {K : Value} (hk : keyFits d k = true) (hK : Rel r k K) : ∀ {es : List ME} {E : List MapEntry} {i : Nat} {res : Option (Nat × AV × Nat)}, RelE r es E → findA d k es i = some res →
    (res = none → Instr.findNow d K E i = some none) ∧ ∀ j v born, res = some (j, v, born) → i ≤ j ∧ ∃ V, Instr.findNow d K E i = some (some (j, V)) ∧ Rel r v V ∧ E[j - i]? = some ⟨K, V, born⟩
  | [], E, i, res, hE, h => by
    rw [hE.nil_inv]
    simp only [findA, Option.some.injEq] at h
    subst h
    exact ⟨fun _ => rfl, fun _ _ _ h => (by cases h)⟩
  | x :: l, E, i, res, hE, h => by
    obtain ⟨kx, vx, M, rfl, h2, h3, h4⟩ := hE.cons_inv
    simp only [findA] at h
    split at h
    · rename_i hf
      split at h
      · rename_i hq
        obtain ⟨hs, heq⟩ := sameNow_rel hk hf hq hK h2
        have := heq rfl
        subst this
        simp only [Option.some.injEq] at h
        subst h
        refine ⟨fun h => (by cases h), fun j v born h => ?_⟩
        cases h
        exact ⟨Nat.le_refl _, vx, by simp [Instr.findNow, hs], h3, by simp⟩
      · rename_i hq
        obtain ⟨hs, _⟩ := sameNow_rel hk hf hq hK h2
        obtain ⟨h5, h6⟩ := findA_rel hk hK h4 h
        refine ⟨fun h => (by simp [Instr.findNow, hs, h5 h]), fun j v born h => ?_⟩
        obtain ⟨h7, V, h8, h9, h10⟩ := h6 j v born h
        refine ⟨by omega, V, by simp [Instr.findNow, hs, h8], h9, ?_⟩
        have : j - i = (j - (i + 1)) + 1 := by omega
        rw [this, List.getElem?_cons_succ]
        exact h10
      · cases h
    · cases h
theorem run_findKey {kt : TypeId} {d : TypeDesc} (hu : P.underlying kt = some d) {K : Value} {E : List MapEntry} {R : Option (Nat × Value)} (h : Instr.findNow d K E 0 = some R) : (Instr.findKey kt K E).run P w = .ok R w := by
  simp [Instr.findKey, run_underlying hu, h]
theorem run_checkKey [Sig] {kt : TypeId} {d : TypeDesc} (hu : P.underlying kt = some d) {k : AV} {K : Value} (hk : keyFits d k = true) (hK : Rel r k K) (em : Bool) : (Instr.checkKey em 10000 kt K).run P w = .ok () w := by
  have h : (10000 : Nat) = 9999 + 1 := rfl
  rw [h, Instr.checkKey]
  rcases keyFits_cases hk with ⟨j, q, m, rfl, rfl⟩ | ⟨rfl, l, rfl⟩ | ⟨rfl, x, rfl⟩
  · have := rel_i hK
    subst this
    simp [run_underlying hu]
  · obtain ⟨rfl, _⟩ := rel_s hK
    simp [run_underlying hu, str]
  · have := rel_b hK
    subst this
    simp [run_underlying hu]
theorem run_stays [Sig] {d : TypeDesc} {k : AV} {K : Value} (hk : keyFits d k = true) (hK : Rel r k K) : (Instr.keyThatStays K K).run P w = .ok K w := by
  have : Instr.sameBits 10000 K K = true := by
    rcases keyFits_cases hk with ⟨j, q, m, rfl, rfl⟩ | ⟨rfl, l, rfl⟩ | ⟨rfl, x, rfl⟩
    · have := rel_i hK
      subst this
      simp [Instr.sameBits]
    · obtain ⟨rfl, _⟩ := rel_s hK
      simp [Instr.sameBits, str, beq_bytes]
    · have := rel_b hK
      subst this
      simp [Instr.sameBits]
  simp [Instr.keyThatStays, this]
theorem mapB_spec {t : TypeId} {d : TypeDesc} {el : TypeId} (h : mapB P t = some (d, el)) : ∃ kt, P.underlying t = some (.map kt el) ∧ P.underlying kt = some d := by
  unfold mapB at h
  split at h
  · rename_i k x h1
    split at h
    · rename_i d' h2
      cases h
      exact ⟨k, h1, h2⟩
    · cases h
  · cases h
theorem mapOf_sound [Sig] (hs : Sat lo r H w) {m : AV} {M : Value} {es : List ME} (h : mapOf H m = some es) (hM : Rel r m M) :
    ∃ E, RelE r es E ∧ ((M = .map none ∧ E = []) ∨ ∃ B clock, M = .map (some B) ∧ w.heap[B]? = some (.map E.toArray clock)) := by
  unfold mapOf at h
  split at h
  · cases h
    unfold Rel at hM
    exact ⟨[], rfl, .inl ⟨hM, rfl⟩⟩
  · rename_i b
    split at h
    · rename_i es' clock hb
      cases h
      unfold Rel at hM
      obtain ⟨B, K, hr, rfl⟩ := hM
      obtain ⟨_, E, h1, h2⟩ := hs.here hb hr
      exact ⟨E, h1, .inr ⟨B, clock, rfl, h2⟩⟩
    · cases h
  · cases h
theorem avZ_rel [Sig] {v : Value} {a : AV} (h : avZ v = some a) : Rel r a v := by
  unfold avZ at h
  split at h
  · split at h
    · rename_i l hl
      cases h
      have := mk_g (r := r) (avCs_rel hl)
      simpa using this
    · cases h
  · exact avC_rel h
theorem zeroV_rel [Sig] {t : TypeId} {a : AV} (h : zeroV P t = some a) : ∃ Z, Rel r a Z ∧ ∀ w, (zeroValue t).run P w = .ok Z w := by
  unfold zeroV at h
  split at h
  · rename_i i hi
    split at h
    · rename_i z hz
      exact ⟨z, avZ_rel h, fun w => by simp [zeroValue, typeInfo, hi, hz]⟩
    · cases h
  · cases h
theorem getObj_map {B clock : Nat} {E : Array MapEntry} (h : w.heap[B]? = some (.map E clock)) : (getObj B).run P w = .ok (.map E clock) w := by simp [getObj, Sem.run, h]
theorem evLookup_sound [Sig] (hs : Sat lo r st.H w) {t : TypeId} {x i v : AV} {X I : Value} {ok : Bool} (hX : Rel r x X) (hI : Rel r i I) (h : evLookup P st t (some x) (some i) ok = some (v, st')) :
    st' = st ∧ ∃ V, Rel r v V ∧ (Instr.lookup t X I ok).run P w = .ok V w := by
  unfold evLookup at h
  split at h
  · rename_i d el m k hm hx hi
    cases hx
    cases hi
    obtain ⟨kt, hu, hk⟩ := mapB_spec hm
    split at h
    · rename_i es hf hmo
      obtain ⟨E, hE, hEM⟩ := mapOf_sound hs hmo hX
      have hck := fun em => run_checkKey (w := w) hk hf hI em
      have main : ∀ R, Instr.findNow d I E 0 = some R → (Instr.lookup t X I ok).run P w = (do
          let (v, ok') ← match R with
            | some (_, v) => pure (v, true)
            | none => pure (← zeroValue el, false)
          pure (if ok then Value.tuple #[v, .bool ok'] else v) : Sem Value).run P w := by
        intro R hR
        have hfk := run_findKey (w := w) hk hR
        rcases hEM with ⟨rfl, rfl⟩ | ⟨B, clock, rfl, hB⟩
        · simp only [Instr.lookup, Sem.run_bind, run_underlying hu, Result.andThen_ok, Sem.run_pure, hck, hfk]
          rfl
        · simp only [Instr.lookup, Sem.run_bind, run_underlying hu, Result.andThen_ok, Sem.run_pure, getObj_map hB, hck, List.toList_toArray, hfk]
          rfl
      split at h
      · rename_i j u born hfa
        obtain ⟨_, V, h1, h2, _⟩ := (findA_rel hf hI hE hfa).2 _ _ _ rfl
        cases h
        refine ⟨rfl, ?_⟩
        have hrun := main _ h1
        cases ok with
        | true => exact ⟨_, mk_t (RelL.cons h2 (RelL.cons (mk_b true) (RelL.nil r))), by rw [hrun]; simp⟩
        | false => exact ⟨_, h2, by rw [hrun]; simp⟩
      · rename_i hfa
        have h1 := (findA_rel hf hI hE hfa).1 rfl
        split at h
        · rename_i z hz
          obtain ⟨Z, h2, h3⟩ := zeroV_rel (r := r) hz
          cases h
          refine ⟨rfl, ?_⟩
          have hrun := main _ h1
          cases ok with
          | true => exact ⟨_, mk_t (RelL.cons h2 (RelL.cons (mk_b false) (RelL.nil r))), by rw [hrun]; simp [h3]⟩
          | false => exact ⟨_, h2, by rw [hrun]; simp [h3]⟩
        · cases h
      · cases h
    · cases h
  · cases h
def setB (w : World) (b : Nat) (o : Obj) : World := { w with heap := w.heap.setIfInBounds b o }
theorem mod_setB (w : World) (b : Nat) (o : Obj) : Mod (· = b) w (setB w b o) :=
  ⟨rfl, rfl, rfl, by simp [setB], fun k _ hk => by simp only [setB]; rw [Array.getElem?_setIfInBounds_ne (fun h => hk h.symm)]⟩
theorem setB_same {w : World} {b : Nat} (o : Obj) (h : b < w.heap.size) : (setB w b o).heap[b]? = some o := by simp [setB, h]
theorem setObj_map {B clock : Nat} {E : Array MapEntry} (h : w.heap[B]? = some (.map E clock)) (o : Obj) : (setObj B o).run P w = .ok () (setB w B o) := by simp [setObj, Sem.run, h, setB]
theorem setObj_mit {B s c : Nat} {M : Option Nat} {sn : Array Nat} (h : w.heap[B]? = some (.mapIter M s sn c)) (o : Obj) : (setObj B o).run P w = .ok () (setB w B o) := by simp [setObj, Sem.run, h, setB]
def setL : List MapEntry → Nat → (MapEntry → MapEntry) → List MapEntry
  | [], _, _ => []
  | x :: l, 0, f => f x :: l
  | x :: l, i + 1, f => x :: setL l i f
theorem setL_get (f : MapEntry → MapEntry) : ∀ (E : List MapEntry) (i j : Nat), (setL E i f)[j]? = if i = j then (E[j]?).map f else E[j]?
  | [], i, j => by simp [setL]
  | x :: l, 0, j => by cases j <;> simp [setL]
  | x :: l, i + 1, j => by
    cases j with
    | zero => simp [setL]
    | succ j => simp [setL, setL_get f l i j]
theorem modify_eq (f : MapEntry → MapEntry) (E : List MapEntry) (i : Nat) : E.toArray.modify i f = (setL E i f).toArray := by
  apply Array.ext_getElem?
  intro j
  rw [Array.getElem?_modify]
  simp [setL_get]
theorem setE_rel [Sig] {f : ME → ME} {F : MapEntry → MapEntry} : ∀ {es : List ME} {E : List MapEntry} (i : Nat), RelE r es E → (∀ x k v, E[i]? = some ⟨k, v, x.born⟩ → es[i]? = some x → Rel r x.k k → Rel r x.v v → ∃ k' v', F ⟨k, v, x.born⟩ = ⟨k', v', (f x).born⟩ ∧ Rel r (f x).k k' ∧ Rel r (f x).v v') → RelE r (setE es i f) (setL E i F)
  | [], E, i, h, _ => by rw [h.nil_inv]; exact rfl
  | x :: l, E, 0, h, hf => by
    obtain ⟨k, v, M, rfl, h2, h3, h4⟩ := h.cons_inv
    obtain ⟨k', v', h5, h6, h7⟩ := hf x k v rfl rfl h2 h3
    exact ⟨k', v', M, by simp only [setL, h5], h6, h7, h4⟩
  | x :: l, E, i + 1, h, hf => by
    obtain ⟨k, v, M, rfl, h2, h3, h4⟩ := h.cons_inv
    exact ⟨k, v, _, rfl, h2, h3, setE_rel i h4 fun y ky vy h5 h6 => hf y ky vy (by simpa using h5) (by simpa using h6)⟩
def delL : List MapEntry → Nat → List MapEntry
  | [], _ => []
  | _ :: l, 0 => l
  | x :: l, i + 1 => x :: delL l i
theorem delL_eq : ∀ (E : List MapEntry) (i : Nat), delL E i = E.eraseIdx i
  | [], _ => rfl
  | _ :: _, 0 => rfl
  | x :: l, i + 1 => by simp [delL, delL_eq l i]
theorem erase_eq (E : List MapEntry) (i : Nat) : E.toArray.eraseIdxIfInBounds i = (delL E i).toArray := by
  rw [delL_eq]
  by_cases h : i < E.length
  · simp [Array.eraseIdxIfInBounds, h]
  · simp [Array.eraseIdxIfInBounds, h, List.eraseIdx_of_length_le (Nat.le_of_not_lt h)]
theorem delE_rel [Sig] : ∀ {es : List ME} {E : List MapEntry} (i : Nat), RelE r es E → RelE r (delE es i) (delL E i)
  | [], E, i, h => by rw [h.nil_inv]; exact rfl
  | x :: l, E, 0, h => by
    obtain ⟨k, v, M, rfl, h2, h3, h4⟩ := h.cons_inv
    exact h4
  | x :: l, E, i + 1, h => by
    obtain ⟨k, v, M, rfl, h2, h3, h4⟩ := h.cons_inv
    exact ⟨k, v, _, rfl, h2, h3, delE_rel i h4⟩
theorem after_map [Sig] (hs : Sat lo r H w) {b B K clock clock' : Nat} {es es' : List ME} {E' : List MapEntry} {v : AV} {V : Value} (hb : H.get b = some (.map es clock)) (hr : r b = some (B, K)) (hE : RelE r es' E') (hv : Rel r v V) :
    After lo r w v (H.put b (.map es' clock')) V (setB w B (.map E'.toArray clock')) := by
  obtain ⟨hlo, hh⟩ := hs.here hb hr
  have hlt := hh.lt rfl
  exact ⟨r, Rho.le.refl r, hv, hs.upd hb rfl hr (hlo rfl) (mod_setB _ _ _) ⟨E', hE, setB_same _ hlt⟩, (mod_setB w B _).weaken fun k _ hk => by subst hk; exact hlo rfl⟩
theorem rel_m [Sig] {b : Nat} {A : Value} (h : Rel r (.m b) A) : ∃ B K, r b = some (B, K) ∧ A = .map (some B) := by unfold Rel at h; exact h
theorem evUpdate_sound [Sig] (hs : Sat lo r st.H w) {t : TypeId} {m k u v : AV} {M K U : Value} (hM : Rel r m M) (hK : Rel r k K) (hU : Rel r u U) (h : evUpdate P st t (some m) (some k) (some u) = some (v, st')) :
    v = .t [] ∧ ∃ w', (Instr.mapUpdate t M K U).run P w = .ok () w' ∧ After lo r w (.t []) st'.H undef w' := by
  unfold evUpdate at h
  split at h
  · rename_i d el b k' u' hm h1 h2 h3
    cases h1
    cases h2
    cases h3
    obtain ⟨kt, hu, hk⟩ := mapB_spec hm
    obtain ⟨B, Kc, hr, rfl⟩ := rel_m hM
    split at h
    · rename_i es clock hf hb
      obtain ⟨_, E, hE, hB⟩ := hs.here hb hr
      have hck := fun em => run_checkKey (w := w) hk hf hK em
      split at h
      · rename_i i x born hfa
        obtain ⟨_, V, h1, h2, h3⟩ := (findA_rel hf hK hE hfa).2 _ _ _ rfl
        have h3 : E[i]? = some ⟨K, V, born⟩ := by simpa using h3
        have hfk := run_findKey (w := w) hk h1
        cases h
        refine ⟨rfl, _, ?_, after_map hs hb hr (setE_rel (F := fun x => { x with key := K, val := U }) i hE fun x a c _ _ _ _ => ⟨K, U, rfl, hK, hU⟩) (mk_t (RelL.nil r))⟩
        simp only [Instr.mapUpdate, Sem.run_bind, run_underlying hu, Result.andThen_ok, getObj_map hB, hck, List.toList_toArray, hfk]
        simp only [List.getElem?_toArray, h3, Option.map_some, Option.getD_some, run_stays hf hK, Result.andThen_ok, modify_eq]
        rw [setObj_map hB]
      · rename_i hfa
        have h1 := (findA_rel hf hK hE hfa).1 rfl
        have hfk := run_findKey (w := w) hk h1
        cases h
        refine ⟨rfl, _, ?_, after_map hs hb hr (clock' := clock + 1) (hE.app (M := [⟨K, U, clock⟩]) ⟨K, U, [], rfl, hK, hU, rfl⟩) (mk_t (RelL.nil r))⟩
        simp only [Instr.mapUpdate, Sem.run_bind, run_underlying hu, Result.andThen_ok, getObj_map hB, hck, List.toList_toArray, hfk]
        rw [setObj_map hB]
        simp
      · cases h
    · cases h
  · cases h
theorem evDelete_sound [Sig] (hs : Sat lo r st.H w) {ts : Array TypeId} {t : TypeId} (hts : ts[0]? = some t) {m k v : AV} {M K : Value} (hM : Rel r m M) (hK : Rel r k K) (h : evDelete P st t (some m) (some k) = some (v, st')) :
    ∃ V w', (Builtin.delete_ ts ty #[M, K]).run P w = .ok V w' ∧ After lo r w v st'.H V w' := by
  unfold evDelete at h
  split at h
  · rename_i d el b k' hm h1 h2
    cases h1
    cases h2
    obtain ⟨kt, hu, hk⟩ := mapB_spec hm
    obtain ⟨B, Kc, hr, rfl⟩ := rel_m hM
    split at h
    · rename_i es clock hf hb
      obtain ⟨_, E, hE, hB⟩ := hs.here hb hr
      have hck := fun em => run_checkKey (w := w) hk hf hK em
      split at h
      · rename_i i x born hfa
        obtain ⟨_, V, h1, h2, h3⟩ := (findA_rel hf hK hE hfa).2 _ _ _ rfl
        have hfk := run_findKey (w := w) hk h1
        cases h
        refine ⟨_, _, ?_, after_map hs hb hr (delE_rel i hE) (mk_t (RelL.nil r))⟩
        simp only [Builtin.delete_, hts, List.getElem?_toArray, List.getElem?_cons_zero, List.getElem?_cons_succ, Sem.run_bind, run_underlying hu, Result.andThen_ok, getObj_map hB, hck, hfk, setObj_map hB, Sem.run_pure, erase_eq]
      · rename_i hfa
        have h1 := (findA_rel hf hK hE hfa).1 rfl
        have hfk := run_findKey (w := w) hk h1
        cases h
        refine ⟨.tuple #[], setB w B (.map E.toArray clock), ?_, ?_⟩
        · simp only [Builtin.delete_, hts, List.getElem?_toArray, List.getElem?_cons_zero, List.getElem?_cons_succ, Sem.run_bind, run_underlying hu, Result.andThen_ok, getObj_map hB, hck, hfk, setObj_map hB, Sem.run_pure]
        · have : setB w B (.map E.toArray clock) = w := by
            have hlt := (Array.getElem?_eq_some_iff.1 hB).1
            have : w.heap.setIfInBounds B (.map E.toArray clock) = w.heap := by
              apply Array.ext_getElem?
              intro j
              by_cases hj : B = j
              · subst hj; rw [hB]; simp [hlt]
              · rw [Array.getElem?_setIfInBounds_ne hj]
            cases w
            simp only [setB] at this ⊢
            rw [this]
          rw [this]
          exact After.same hs (by simpa using mk_t (RelL.nil r))
      · cases h
    · cases h
  · cases h
theorem evMark_sound [Fr] [Sig] (hE : EnvR r e st.T) (hs : Sat lo r st.H w) {t el : TypeId} {x : Operand} {b o q m : Nat} {c : Option Nat} {v : AV} (hx : av st.T x = some (.sl b o q m c)) (h1 : P.underlying t = some (.slice el)) (h3 : P.underlying el = some (.int .u8)) (h : evMark st b (.sl b o q m c) = some (v, st')) :
    MR P lo n r e w ⟨dst, .convert t t x, ty, pos, aft, g⟩ v st'.H := by
  intro a ha
  obtain ⟨X, hv1, hv2⟩ := av_rel hE hx
  obtain ⟨B, K, hr, rfl, hn⟩ := rel_sl hv2
  unfold evMark at h
  split at h
  · rename_i el' sz cells hb
    cases h
    obtain ⟨hlo, L, ext, hL, hB, hlen, hK⟩ := hs.here hb hr
    have hfz : ∀ a1 : Addr, a1.block = B → (w.freeze a1 1).heap[B]? = some (.cells (L ++ ext).toArray el' (a1.off, a1.off + 1)) := by
      rintro ⟨_, o1, s1⟩ rfl
      simp only [World.freeze, Nat.one_ne_zero, if_false, Array.getElem?_modify, if_true, hB, Option.map_some]
      rfl
    have hrun : (convert t t (.slice (some ⟨B, o, none⟩) m (c.getD (K - q)))).run P w = .ok (.slice (some ⟨B, o, none⟩) m (c.getD (K - q))) (w.freeze ⟨B, (L ++ ext).toArray.size, none⟩ 1) := by
      simp [convert, run_underlying h1, run_underlying h3, markStringish, run_shape, World.shape?, hB, run_freeze]
    have hmod : Mod (· = B) w (w.freeze ⟨B, (L ++ ext).toArray.size, none⟩ 1) := by
      refine ⟨rfl, rfl, rfl, by simp [World.freeze], fun k _ hk => ?_⟩
      simp only [World.freeze, Nat.one_ne_zero, if_false, Array.getElem?_modify]
      rw [if_neg (fun h => hk h.symm)]
    refine ⟨_, _, _, by simp only [execOp, Sem.run_bind, ev_eq ha hv1, hrun, Result.andThen_ok, Sem.run_pure], .inl rfl, r, Rho.le.refl r, hv2, ?_, hmod.weaken fun k _ hk => by subst hk; exact hlo rfl⟩
    refine hs.upd hb rfl hr (hlo rfl) hmod ⟨L, hL, ?_, ?_⟩
    · intro i u hu
      rw [cell_of_row _ _ _ _ _ _ (hfz _ rfl)]
      have hi := (List.getElem?_eq_some_iff.1 hu).1
      rw [Nat.zero_add, List.getElem?_toArray, List.getElem?_append_left hi]
      exact hu
    · exact (Array.getElem?_eq_some_iff.1 (hfz ⟨B, (L ++ ext).toArray.size, none⟩ rfl)).1
  · cases h
theorem evSliceH_sound [Fr] [Sig] (hE : EnvR r e st.T) (hs : Sat lo r st.H w) {t : TypeId} {x : Operand} {lo' hi : Option Operand} {v : AV} (h : evSliceH P st t (av st.T x) lo' hi = some (v, st')) :
    MR P lo n r e w ⟨dst, .slice t x lo' hi none, ty, pos, aft, g⟩ v st'.H := by
  unfold evSliceH at h
  split at h
  · rename_i b o q m hx
    split at h
    · rename_i el' sz' cells el sz by_ l hh hb hf hlo hhi
      split at h
      · rename_i hsz hpos hb1 hb2
        have hsz := Nat.eq_of_beq_eq_true hsz
        subst hsz
        have hpos := blt_lt hpos
        have hb1' := Nat.le_of_ble_eq_true hb1
        have hb2' := Nat.le_of_ble_eq_true hb2
        obtain ⟨A, h1, h2⟩ := av_rel hE hx
        obtain ⟨B, K, hr, rfl, hcap⟩ := rel_sl h2
        obtain ⟨hlo', L, ext, hL, hB, hlen, hK⟩ := hs.here hb hr
        have hKle : q + hh ≤ K := by
          have : (q + hh) * sz' ≤ K * sz' := by
            rw [← hlen, List.length_append, ← hL.length]; omega
          exact Nat.le_of_mul_le_mul_right this hpos
        have hF : SlF P t el sz' by_ := ⟨hf⟩
        have hbd := bndC (P := P) hE hlo hhi hb1' (show hh ≤ (none : Option Nat).getD (K - q) by simp; omega) hcap w
        simp only [Option.getD_none] at hbd hcap h1
        have main : ∀ V, V = .slice (sliced' (some ⟨B, o, none⟩) l (K - q) sz') (hh - l) (K - q - l) → ∀ a, Knows a e n → (execOp a.eval ⟨dst, .slice t x lo' hi none, ty, pos, aft, g⟩).run P w = .ok (.value V) w := by
          rintro V rfl ac ha
          have hm : ∀ (y : Option Operand), (∀ z, y = some z → (ev e z).isSome) → y.map ac.eval = y.map fun y => (ev e y).getD undef := by
            intro y hy
            cases y with
            | none => rfl
            | some z =>
              obtain ⟨v, hv⟩ := Option.isSome_iff_exists.1 (hy z rfl)
              simp [ev_eq ha hv, hv]
          have h3 := run_slice_any (P := P) (w := w) t (some ⟨B, o, none⟩) m (K - q) hF.undX (lo'.map fun y => (ev e y).getD undef) (hi.map fun y => (ev e y).getD undef) none
          simp only [hbd, Result.andThen_ok, hF.sizeX] at h3
          simp only [execOp, Sem.run_bind, ev_eq ha h1, hm lo' (opt_isSome hE hlo), hm hi (opt_isSome hE hhi), Option.map_none, run_sliceAt_slice (w := w) t _ _ _ _ hF.undX, h3, Result.andThen_ok, Sem.run_pure]
          rfl
        intro a ha
        split at h
        · cases h
          have e1 : sliced' (some ⟨B, o, none⟩) 0 (K - q) sz' = some ⟨B, o, none⟩ := by unfold sliced'; split <;> simp [add_none]
          refine ⟨_, _, w, main _ rfl a ha, .inl rfl, After.same hs ?_⟩
          rw [e1, Nat.sub_zero, Nat.sub_zero]
          exact mk_sl (c := none) hr (by simp; omega)
        · cases h
          rename_i l' hbe
          have hhl : hh = l' + 1 := Nat.eq_of_beq_eq_true hbe
          subst hhl
          refine ⟨_, _, w, main _ rfl a ha, .inl rfl, After.same hs ?_⟩
          rw [Nat.sub_self]
          exact mk_ez (c := none) hr (by simp; omega) (by omega)
        · cases h
          rename_i l' hbe
          have hhl : hh ≠ l' + 1 := Nat.ne_of_beq_eq_false hbe
          have e1 : sliced' (some ⟨B, o, none⟩) (l' + 1) (K - q) sz' = some ⟨B, o + (l' + 1) * sz', none⟩ := by unfold sliced'; rw [if_neg (by omega)]; simp [add_none]
          refine ⟨_, _, w, main _ rfl a ha, .inl rfl, After.same hs ?_⟩
          rw [e1]
          have e2 : K - q - (l' + 1) = (none : Option Nat).getD (K - (q + (l' + 1))) := by simp; omega
          rw [e2]
          exact mk_sl (c := none) hr (by simp; omega)
      · cases h
    · cases h
  · cases h
theorem run_storeAll {B o : Nat} {vs : List Value} (hW : Wr w B o vs.length) (h1 : ∀ u ∈ vs, u.oneCell' = true) :
    (storeCells ⟨B, o, none⟩ vs).run P w = .ok () (w.setCells B o vs) ∧ Put w (w.setCells B o vs) B o vs := by
  obtain ⟨c, et, fr, hb, ho, hz⟩ := hW
  have h2 := run_storeCells_cells (P := P) B o vs 0 w (fun j hj => by
      rw [cell_of_row w B _ c et fr hb]
      rw [Array.getElem?_eq_getElem (by omega)]
      rfl)
    (fun j hj => by
      have := hz j hj
      simp only [World.frozen?, hb, Nat.add_zero]
      exact this) h1
  refine ⟨?_, put_setCells B vs o w c et fr hb ho⟩
  simp only [Nat.add_zero] at h2
  exact h2
theorem evClear_sound [Sig] (hs : Sat lo r st.H w) {t : TypeId} {x v : AV} {X : Value} (hX : Rel r x X) (h : evClear P st t (some x) = some (v, st')) :
    ∃ V w', (Builtin.clear_ #[t] ty #[X]).run P w = .ok V w' ∧ After lo r w v st'.H V w' := by
  unfold evClear at h
  split at h
  · rename_i hx
    cases hx
    split at h
    · rename_i z hf
      obtain ⟨el, sz, by_⟩ := z
      cases h
      rw [rel_sl0 hX]
      exact ⟨.tuple #[], w, by simp [Builtin.clear_, run_underlying (SlF.undX (P := P) (t := t) (e := el) ⟨hf⟩)], After.same hs (mk_t (RelL.nil r))⟩
    · cases h
  · rename_i b o d q c hx
    cases hx
    split at h
    · rename_i z hf
      obtain ⟨el, sz, by_⟩ := z
      cases h
      obtain ⟨B, K, _, rfl⟩ := rel_ez hX
      exact ⟨.tuple #[], w, by simp [Builtin.clear_, run_underlying (SlF.undX (P := P) (t := t) (e := el) ⟨hf⟩)], After.same hs (mk_t (RelL.nil r))⟩
    · cases h
  · rename_i b o q m c hx
    cases hx
    split at h
    · rename_i el sz by_ ab hf hb
      split at h
      · rename_i z l hz hc
        split at h
        · rename_i cells hp hones
          split at h
          · rename_i ab' hset
            cases h
            obtain ⟨hu, ii, zv, hi, hzv, hszz, hby, hzs⟩ := SlF.facts ⟨hf⟩
            obtain ⟨B, K, hr, rfl, hcap⟩ := rel_sl hX
            have hzr := rep_rel (zero_rel (r := r) hz hi hzv) (m + 1)
            have hmk : (Builtin.zeroCells zv.cells (m + 1)).toList = (List.replicate (m + 1) zv.cells.toList).flatten := by
              have := made_eq hzs (m + 1)
              rw [← this]
              simp [Builtin.zeroCells, madeCells, hzs]
            obtain ⟨hW, hlo, hlive, hH⟩ := store_holds hs hb hr hc hzr hp rfl hset
            rw [← hmk] at hzr hH
            have h1 := ones_rel hones hzr
            have hrl : (rep z (m + 1)).length = (Builtin.zeroCells zv.cells (m + 1)).toList.length := hzr.length
            rw [hrl] at hW
            have hst := run_storeAll (P := P) hW h1
            refine ⟨.tuple #[], _, ?_, r, Rho.le.refl r, mk_t (RelL.nil r), hs.upd hb hlive hr hlo hst.2.mod (hH _ hst.2), hst.2.mod.weaken fun k _ hk => by subst hk; exact hlo⟩
            simp [Builtin.clear_, run_underlying hu, zeroValue, typeInfo, hi, hzv, hst.1]
          · cases h
        · cases h
      · cases h
    · cases h
  · rename_i hx
    cases hx
    split at h
    · rename_i z hm
      obtain ⟨d, el⟩ := z
      obtain ⟨kt, hu, _⟩ := mapB_spec hm
      cases h
      rw [rel_m0 hX]
      exact ⟨.tuple #[], w, by simp [Builtin.clear_, run_underlying hu], After.same hs (mk_t (RelL.nil r))⟩
    · cases h
  · rename_i b hx
    cases hx
    split at h
    · rename_i z es clock hm hb
      obtain ⟨d, el⟩ := z
      obtain ⟨kt, hu, _⟩ := mapB_spec hm
      cases h
      obtain ⟨B, K, hr, rfl⟩ := rel_m hX
      obtain ⟨_, E, hE, hB⟩ := hs.here hb hr
      have hA := after_map (es' := []) (E' := []) (clock' := clock) hs hb hr (by rfl) (mk_t (RelL.nil r))
      exact ⟨_, _, by simp [Builtin.clear_, run_underlying hu, getObj_map hB, setObj_map hB], hA⟩
    · cases h
  · cases h
theorem evCopy_sound [Sig] (hs : Sat lo r st.H w) {t : TypeId} {x y v : AV} {X Y : Value} (hX : Rel r x X) (hY : Rel r y Y) (h : evCopy P st t (some x) (some y) = some (v, st')) :
    ∃ V w', (Builtin.copy_ #[t, t] ty #[X, Y]).run P w = .ok V w' ∧ After lo r w v st'.H V w' := by
  unfold evCopy at h
  split at h
  · rename_i b o q n c b2 o2 q2 m c2 hx hy
    cases hx
    cases hy
    split at h
    · rename_i el sz by_ ab hf hb
      split at h
      · rename_i l news hc hn
        split at h
        · rename_i cells hp hones
          split at h
          · rename_i ab' hset
            cases h
            obtain ⟨hu, ii, zv, hi, hzv, hszz, hby, hzs⟩ := SlF.facts ⟨hf⟩
            obtain ⟨B, K, hr, rfl, hcap⟩ := rel_sl hX
            obtain ⟨B2, K2, hr2, rfl, hcap2⟩ := rel_sl hY
            obtain ⟨hlen, L, hL, hA, hll⟩ := atH_sound hs hn hr2
            obtain ⟨hW, hlo, hlive, hH⟩ := store_holds hs hb hr hc hL hp rfl hset
            have h1 := ones_rel hones hL
            rw [hL.length] at hW
            have hst := run_storeAll (P := P) hW h1
            have hld := run_loadCells_list (P := P) (w := w) ⟨B2, o2, none⟩ L (fun j v hj => by rw [add_none]; exact hA j v hj)
            rw [hll] at hld
            have hmin : Nat.min (m + 1) (n + 1) = min m n + 1 := by show min (m + 1) (n + 1) = _; omega
            rw [hmin] at hld
            refine ⟨.int .i64 (Nat.min (m + 1) (n + 1) : Nat), _, ?_, r, Rho.le.refl r, mk_i _ _, hs.upd hb hlive hr hlo hst.2.mod (hH _ hst.2), hst.2.mod.weaken fun k _ hk => by subst hk; exact hlo⟩
            simp [Builtin.copy_, run_underlying hu, Builtin.lenOf, Builtin.firstCells, sizeOf, typeInfo, hi, hszz, hld, hst.1, goInt]
          · cases h
        · cases h
      · cases h
    · cases h
  · cases h
end
end Go.Proofs.YtfoabgljfikklaaGreatDoor.V
