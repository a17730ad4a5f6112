/-
  The reckoned run on maps and their iterators, and on any operation on memory. No condition: these are rules over any program; The reckoned run on any operation on memory. No condition: these are rules over any program.
-/
import Derived.Test.YtfoabgljfikklaaGreatDoorWam
set_option linter.unusedVariables false
set_option linter.unusedSimpArgs false
namespace Go.Proofs.YtfoabgljfikklaaGreatDoor.V
section
variable {P : Program} {lo n : Nat} {r : Rho} {e : Env} {T : Tr AV} {H : Tr AB} {w : World} {st st' : ST} {dst : Option Tmp} {ty : TypeId} {pos : String} {aft : Array Edge} {g : Option (Nat × Bool)}
theorem evEntry_sound [Sig] (hs : Sat lo r st.H w) {t : TypeId} {m k v : AV} {M K : Value} (hM : Rel r m M) (hK : Rel r k K) (h : evEntry P st t (some m) (some k) = some (v, st')) :
    ∃ V w', (Instr.mapEntry t M K).run P w = .ok V w' ∧ After lo r w v st'.H V w' := by
  unfold evEntry at h
  split at h
  · rename_i d el b k' hm h1 h2
    cases h1
    cases h2
    obtain ⟨kt, hu, hk⟩ := mapB_spec hm
    obtain ⟨B, Kc, hr, rfl⟩ := rel_m hM
    split at h
    · rename_i es clock hf hb
      obtain ⟨_, E, hE, hB⟩ := hs.here hb hr
      have hck := fun em => run_checkKey (w := w) hk hf hK em
      split at h
      · rename_i i x born hfa
        obtain ⟨_, V, h1, h2, h3⟩ := (findA_rel hf hK hE hfa).2 _ _ _ rfl
        have h3 : E[i]? = some ⟨K, V, born⟩ := by simpa using h3
        have hfk := run_findKey (w := w) hk h1
        cases h
        refine ⟨_, _, ?_, after_map hs hb hr (setE_rel (F := fun x => { x with key := K }) i hE fun y a c h5 _ _ hc => ⟨K, c, rfl, hK, hc⟩) (mk_t (RelL.cons h2 (RelL.cons (mk_i _ _) (RelL.nil r))))⟩
        simp only [Instr.mapEntry, Sem.run_bind, run_underlying hu, Result.andThen_ok, getObj_map hB, hck, List.toList_toArray, hfk]
        simp only [List.getElem?_toArray, h3, Option.map_some, Option.getD_some, run_stays hf hK, Result.andThen_ok, modify_eq]
        rw [setObj_map hB]
        simp [goInt]
      · rename_i hfa
        have h1 := (findA_rel hf hK hE hfa).1 rfl
        have hfk := run_findKey (w := w) hk h1
        split at h
        · rename_i z hz
          obtain ⟨Z, h2, h3⟩ := zeroV_rel (r := r) hz
          cases h
          refine ⟨_, _, ?_, after_map hs hb hr (clock' := clock + 1) (hE.app (M := [⟨K, Z, clock⟩]) ⟨K, Z, [], rfl, hK, h2, rfl⟩) (mk_t (RelL.cons h2 (RelL.cons (mk_i .i64 (.ofNat clock)) (RelL.nil r))))⟩
          simp only [Instr.mapEntry, Sem.run_bind, run_underlying hu, Result.andThen_ok, getObj_map hB, hck, List.toList_toArray, hfk, h3]
          rw [setObj_map hB]
          simp [goInt]
        · cases h
      · cases h
    · cases h
  · cases h
theorem bornAt_rel [Sig] {m : Nat} : ∀ {es : List ME} {E : List MapEntry} {i j : Nat}, RelE r es E → bornAt es m i = some j → i ≤ j ∧ E.findIdx? (fun x => (x.born : Int) == (m : Int)) = some (j - i)
  | [], E, i, j, _, h => by simp [bornAt] at h
  | x :: l, E, i, j, hE, h => by
    obtain ⟨kx, vx, M, rfl, _, _, h4⟩ := hE.cons_inv
    simp only [bornAt] at h
    split at h
    · rename_i hb
      have hb := Nat.eq_of_beq_eq_true hb
      simp only [Option.some.injEq] at h
      subst h
      refine ⟨Nat.le_refl _, ?_⟩
      simp [List.findIdx?_cons, hb]
    · rename_i hb
      have hb := Nat.ne_of_beq_eq_false hb
      obtain ⟨h5, h6⟩ := bornAt_rel h4 h
      refine ⟨by omega, ?_⟩
      have : ¬ ((x.born : Int) = (m : Int)) := by omega
      simp only [List.findIdx?_cons, beq_iff_eq, this, if_false, h6, Option.map_some]
      simp
      omega
theorem evEntryStore_sound [Sig] (hs : Sat lo r st.H w) {t : TypeId} {m s u v : AV} {M S U : Value} (hM : Rel r m M) (hS : Rel r s S) (hU : Rel r u U) (h : evEntryStore st (some m) (some s) (some u) = some (v, st')) :
    v = .t [] ∧ ∃ w', (Instr.entryStore t M S U).run P w = .ok () w' ∧ After lo r w (.t []) st'.H undef w' := by
  unfold evEntryStore at h
  split at h
  · rename_i b k m u' h1 h2 h3
    cases h1
    cases h2
    cases h3
    obtain ⟨B, Kc, hr, rfl⟩ := rel_m hM
    have := rel_i hS
    subst this
    split at h
    · rename_i es clock hb
      obtain ⟨_, E, hE, hB⟩ := hs.here hb hr
      split at h
      · rename_i i hi
        obtain ⟨_, h1⟩ := bornAt_rel hE hi
        simp only [Nat.sub_zero] at h1
        cases h
        refine ⟨rfl, _, ?_, after_map hs hb hr (setE_rel (F := fun x => { x with val := U }) i hE fun y a c h5 _ ha _ => ⟨a, U, rfl, ha, hU⟩) (mk_t (RelL.nil r))⟩
        have h2 : E.toArray.findIdx? (fun x => (x.born : Int) == Int.ofNat m) = some i := by simpa using h1
        simp only [Instr.entryStore, Sem.run_bind, Result.andThen_ok, getObj_map hB, asInt, asIntOf, Sem.run_pure, h2, modify_eq]
        rw [setObj_map hB]
      · cases h
    · cases h
  · cases h
theorem mr_makeMap [Fr] [Sig] (hs : Sat lo r st.H w) {t : TypeId} {q : Option Operand} {v : AV} (hq : ∀ a, Knows a e n → (Instr.makeMap t (q.map a.eval)).run P w = (newObj (.map #[] 0) >>= fun b => pure (.map (some b))).run P w) (h : st.new (.map [] 0) (.m st.next) = some (v, st')) :
    MR P lo n r e w ⟨dst, .makeMap t q, ty, pos, aft, g⟩ v st'.H := by
  intro a ha
  obtain ⟨rfl, hH, hb, _⟩ := new_eq h
  have hext := Ext.alloc w (.map #[] 0)
  obtain ⟨hle, hsat⟩ := hs.newTop (K := 0) hb hext (ab := .map [] 0) ⟨[], rfl, heap_alloc_new w _⟩
  refine ⟨_, .map (some w.heap.size), w.alloc (.map #[] 0), ?_, .inl rfl, _, hle, ?_, by rw [hH]; exact hsat, modLo hext⟩
  · have := hq a ha
    simp only [execOp, Sem.run_bind, this]
    simp
  · unfold Rel
    exact ⟨_, 0, Rho.set_same _ _ _, rfl⟩
theorem run_lenMap [Sig] (hs : Sat lo r H w) {m : AV} {M : Value} {es : List ME} {t : TypeId} {d : TypeDesc} {el : TypeId} (hm : mapB P t = some (d, el)) (h : mapOf H m = some es) (hM : Rel r m M) : (Builtin.len_ #[t] ty #[M]).run P w = .ok (.int .i64 (.ofNat es.length)) w := by
  obtain ⟨kt, hu, _⟩ := mapB_spec hm
  obtain ⟨E, hE, hEM⟩ := mapOf_sound hs h hM
  rcases hEM with ⟨rfl, rfl⟩ | ⟨B, clock, rfl, hB⟩
  · simp [Builtin.len_, run_underlying hu, goInt, hE.length]
  · simp [Builtin.len_, run_underlying hu, goInt, hE.length, getObj_map hB]
theorem memN_spec (m : Nat) : ∀ l : List Nat, memN m l = l.toArray.contains m
  | [] => by simp [memN]
  | x :: l => by
    have ih := memN_spec m l
    simp only [memN]
    split
    · rename_i h; have h := Nat.eq_of_beq_eq_true h; simp [h]
    · rename_i h
      have h := Nat.ne_of_beq_eq_false h
      rw [ih]
      have h' : ¬ m = x := fun e => h e.symm
      simp [h']
theorem leftE_rel [Sig] (seen : List Nat) : ∀ {es : List ME} {E : List MapEntry}, RelE r es E → RelE r (leftE seen es) (E.filter fun x => !seen.toArray.contains x.born)
  | [], E, h => by rw [h.nil_inv]; exact rfl
  | x :: l, E, h => by
    obtain ⟨k, v, M, rfl, h2, h3, h4⟩ := h.cons_inv
    simp only [leftE, memN_spec]
    split
    · rename_i hc
      simp only [List.filter_cons, hc, Bool.not_true, if_false, Bool.false_eq_true]
      exact leftE_rel seen h4
    · rename_i hc
      simp only [List.filter_cons, hc, Bool.not_false, if_true]
      exact ⟨k, v, _, rfl, h2, h3, leftE_rel seen h4⟩
theorem blt_dec (a b : Nat) : Nat.blt a b = decide (a < b) := by
  by_cases h : a < b
  · rw [decide_eq_true h]; exact Nat.ble_eq_true_of_le h
  · have : Nat.blt a b = false := by
      cases hb : Nat.blt a b with
      | true => exact absurd (blt_lt hb) h
      | false => rfl
    simp [this, h]
theorem oldE_rel [Sig] (since : Nat) : ∀ {es : List ME} {E : List MapEntry}, RelE r es E → RelE r (oldE since es) (E.filter fun x => decide (x.born < since))
  | [], E, h => by rw [h.nil_inv]; exact rfl
  | x :: l, E, h => by
    obtain ⟨k, v, M, rfl, h2, h3, h4⟩ := h.cons_inv
    simp only [oldE, blt_dec]
    split
    · rename_i hc
      simp only [List.filter_cons, hc, if_true]
      exact ⟨k, v, _, rfl, h2, h3, oldE_rel since h4⟩
    · rename_i hc
      simp only [List.filter_cons, hc, if_false, Bool.false_eq_true]
      exact oldE_rel since h4
theorem newE_rel [Sig] (since : Nat) : ∀ {es : List ME} {E : List MapEntry}, RelE r es E → RelE r (newE since es) (E.filter fun x => decide (x.born ≥ since))
  | [], E, h => by rw [h.nil_inv]; exact rfl
  | x :: l, E, h => by
    obtain ⟨k, v, M, rfl, h2, h3, h4⟩ := h.cons_inv
    simp only [newE, blt_dec]
    split
    · rename_i hc
      have hc' : ¬ since ≤ x.born := by have := of_decide_eq_true hc; omega
      simp only [List.filter_cons, ge_iff_le, hc', decide_false, if_false, Bool.false_eq_true]
      simpa using newE_rel since h4
    · rename_i hc
      have hc' : since ≤ x.born := by have := of_decide_eq_false hc; omega
      simp only [List.filter_cons, ge_iff_le, hc', decide_true, if_true]
      exact ⟨k, v, _, rfl, h2, h3, by simpa using newE_rel since h4⟩
theorem evRange_sound [Sig] (hs : Sat lo r st.H w) {t : TypeId} {x v : AV} {X : Value} (hX : Rel r x X) (h : evRange P st t (some x) = some (v, st')) :
    ∃ V w', (Instr.range t X).run P w = .ok V w' ∧ After lo r w v st'.H V w' := by
  unfold evRange at h
  split at h
  · rename_i hu hx
    cases hx
    obtain ⟨rfl, hH, hb, _⟩ := new_eq h
    unfold Rel at hX
    subst hX
    have hext := Ext.alloc w (.mapIter none 0 #[] 0)
    obtain ⟨hle, hsat⟩ := hs.newTop (K := 0) hb hext (ab := .mit none 0 [] 0) ⟨none, rfl, heap_alloc_new w _⟩
    refine ⟨.pointer (some ⟨w.heap.size, 0, none⟩), w.alloc (.mapIter none 0 #[] 0), ?_, _, hle, mk_p (Rho.set_same _ _ _), by rw [hH]; exact hsat, modLo hext⟩
    simp [Instr.range, run_underlying hu]
  · rename_i b hu hx
    cases hx
    obtain ⟨B, Kc, hr, rfl⟩ := rel_m hX
    split at h
    · rename_i es clock hbm
      obtain ⟨rfl, hH, hb, _⟩ := new_eq h
      obtain ⟨_, E, hE, hB⟩ := hs.here hbm hr
      have hext := Ext.alloc w (.mapIter (some B) clock #[] clock)
      have hle := Rho.le.set (hs.free _ hb) (w.heap.size, 0)
      obtain ⟨_, hsat⟩ := hs.newTop (K := 0) hb hext (ab := .mit (some b) clock [] clock) ⟨some B, ⟨B, Kc, hle _ _ hr, rfl⟩, heap_alloc_new w _⟩
      refine ⟨.pointer (some ⟨w.heap.size, 0, none⟩), w.alloc (.mapIter (some B) clock #[] clock), ?_, _, hle, mk_p (Rho.set_same _ _ _), by rw [hH]; exact hsat, modLo hext⟩
      simp [Instr.range, run_underlying hu, getObj_map hB]
    · cases h
  · cases h
theorem getObj_mit {B s c : Nat} {M : Option Nat} {sn : Array Nat} (h : w.heap[B]? = some (.mapIter M s sn c)) : (getObj B).run P w = .ok (.mapIter M s sn c) w := by simp [getObj, Sem.run, h]
theorem run_next {B Bm since last clock : Nat} {seen : List Nat} {E : List MapEntry} (hi : w.heap[B]? = some (.mapIter (some Bm) since seen.toArray last)) (hm : w.heap[Bm]? = some (.map E.toArray clock))
    (hg : (!seen.isEmpty && !E.isEmpty && E.all (·.born ≥ last)) = false) {o nw : List MapEntry} (ho : (E.filter fun x => !seen.toArray.contains x.born).filter (fun x => decide (x.born < since)) = o) (hn : (E.filter fun x => !seen.toArray.contains x.born).filter (fun x => decide (x.born ≥ since)) = nw) :
    (o = [] → nw = [] → (Instr.next (.pointer (some ⟨B, 0, none⟩)) false ty).run P w = .ok (.tuple #[.bool false]) w) ∧
    ∀ x, o = [x] → nw = [] → (Instr.next (.pointer (some ⟨B, 0, none⟩)) false ty).run P w = .ok (.tuple #[.bool true, x.key, x.val]) (setB w B (.mapIter (some Bm) since (seen ++ [x.born]).toArray clock)) := by
  have hg' : (!seen.toArray.isEmpty && !E.toArray.isEmpty && E.toArray.all (·.born ≥ last)) = false := by simpa using hg
  have ho' : (E.toArray.filter fun x => !seen.toArray.contains x.born).filter (fun x => decide (x.born < since)) = o.toArray := by
    rw [← ho]; simp
  have hn' : (E.toArray.filter fun x => !seen.toArray.contains x.born).filter (fun x => decide (x.born ≥ since)) = nw.toArray := by
    rw [← hn]; simp
  refine ⟨?_, ?_⟩
  · rintro rfl rfl
    simp only [Instr.next, Sem.run_bind, getObj_mit hi, Result.andThen_ok, getObj_map hm]
    simp only [hg', Bool.false_eq_true, if_false, ho', hn']
    simp [Question.forced]
  · rintro x rfl rfl
    simp only [Instr.next, Sem.run_bind, getObj_mit hi, Result.andThen_ok, getObj_map hm]
    simp only [hg', Bool.false_eq_true, if_false, ho', hn']
    simp [Question.forced, setObj_mit hi]
theorem run_nextN {B Bm since last clock : Nat} {seen : List Nat} {E : List MapEntry} (hi : w.heap[B]? = some (.mapIter (some Bm) since seen.toArray last)) (hm : w.heap[Bm]? = some (.map E.toArray clock))
    (hg : (!seen.isEmpty && !E.isEmpty && E.all (·.born ≥ last)) = false) {x1 x2 : MapEntry} {o : List MapEntry} (ho : (E.filter fun x => !seen.toArray.contains x.born).filter (fun x => decide (x.born < since)) = x1 :: x2 :: o) (hn : (E.filter fun x => !seen.toArray.contains x.born).filter (fun x => decide (x.born ≥ since)) = []) :
    ∃ x ∈ x1 :: x2 :: o, (Instr.next (.pointer (some ⟨B, 0, none⟩)) false ty).run P w = .ok (.tuple #[.bool true, x.key, x.val]) (setB w.drew B (.mapIter (some Bm) since (seen ++ [x.born]).toArray clock)) := by
  have hg' : (!seen.toArray.isEmpty && !E.toArray.isEmpty && E.toArray.all (·.born ≥ last)) = false := by simpa using hg
  have ho' : (E.toArray.filter fun x => !seen.toArray.contains x.born).filter (fun x => decide (x.born < since)) = (x1 :: x2 :: o).toArray := by
    rw [← ho]; simp
  have hn' : (E.toArray.filter fun x => !seen.toArray.contains x.born).filter (fun x => decide (x.born ≥ since)) = ([] : List MapEntry).toArray := by
    rw [← hn]; simp
  have hlen : 0 < (x1 :: x2 :: o).length := by simp
  obtain ⟨i, hi2, hlt⟩ : ∃ i, Question.cut (.mapNext (x1 :: x2 :: o).length) (w.tape w.drawn (.mapNext (x1 :: x2 :: o).length)) = i ∧ i < (x1 :: x2 :: o).length :=
    ⟨_, rfl, by simp only [Question.cut]; exact Nat.mod_lt _ hlen⟩
  refine ⟨(x1 :: x2 :: o)[i], List.getElem_mem hlt, ?_⟩
  have hd : w.drew.heap[B]? = some (.mapIter (some Bm) since seen.toArray last) := hi
  have hf : Question.forced (.mapNext (x1 :: x2 :: o).length) = false := by simp [Question.forced]
  have hsz : ((if (x1 :: x2 :: o).toArray.isEmpty = true then #[none] else #[]) ++ ((x1 :: x2 :: o).toArray ++ ([] : List MapEntry).toArray).map some : Array (Option MapEntry)) = ((x1 :: x2 :: o).map some).toArray := by simp
  simp only [Instr.next, Sem.run_bind, getObj_mit hi, Result.andThen_ok, getObj_map hm]
  simp only [hg', Bool.false_eq_true, if_false, ho', hn', hsz]
  simp only [List.size_toArray, List.length_map, Sem.run_bind, run_choose, hf, Bool.false_eq_true, if_false, Result.andThen_ok, hi2]
  have hget : ((x1 :: x2 :: o).map some).toArray[i]? = some (some (x1 :: x2 :: o)[i]) := by
    rw [List.getElem?_toArray, List.getElem?_map, List.getElem?_eq_getElem hlt]
    rfl
  simp only [hget]
  have hso := setObj_mit (P := P) hd (.mapIter (some Bm) since (seen.toArray.push (x1 :: x2 :: o)[i].born) clock)
  have hdw : ({ w with drawn := w.drawn + 1 } : World) = w.drew := rfl
  simp only [Sem.run_bind, hdw, hso, Result.andThen_ok, Sem.run_pure]
  simp
theorem evNexts_sound [Sig] (hs : Sat lo r st.H w) {x : AV} {X : Value} (hX : Rel r x X) {l : List (AV × ST)} (h : evNexts st (some x) = some l) :
    ∃ V w', (Instr.next X false ty).run P w = .ok V w' ∧ ∃ z ∈ l, After lo r w z.1 z.2.H V w' := by
  unfold evNexts at h
  split at h
  · rename_i b hx
    cases hx
    obtain ⟨B, Kc, hr, rfl⟩ := rel_p hX
    split at h
    · rename_i m since seen last hb
      obtain ⟨hlo, M, ⟨Bm, Km, hrm, rfl⟩, hB⟩ := hs.here hb hr
      split at h
      · rename_i es clock hbm
        obtain ⟨_, E, hE, hBm⟩ := hs.here hbm hrm
        have hold := oldE_rel since (leftE_rel seen hE)
        have hnew := newE_rel since (leftE_rel seen hE)
        have hlast := oldE_rel last hE
        have hall : ∀ x l, oldE last es = x :: l → E.all (·.born ≥ last) = false := by
          intro x l hx
          rw [hx] at hlast
          obtain ⟨k, v, M, hM, _⟩ := hlast.cons_inv
          have hmem : (⟨k, v, x.born⟩ : MapEntry) ∈ E.filter fun x => decide (x.born < last) := by rw [hM]; simp
          rw [List.mem_filter] at hmem
          have h2 : x.born < last := by simpa using hmem.2
          rw [List.all_eq_false]
          exact ⟨_, hmem.1, by simp; omega⟩
        split at h
        · rename_i e1 e2 es' ho hn
          rw [ho] at hold
          rw [hn] at hnew
          have hg : (!seen.isEmpty && !E.isEmpty && E.all (·.born ≥ last)) = false ∧ l = (e1 :: e2 :: es').map fun e => (.t [.b true, e.k, e.v], st.upd b (.mit (some m) since (seen ++ [e.born]) clock)) := by
            split at h
            · cases h; exact ⟨by simp, rfl⟩
            · rename_i hl
              cases h
              exact ⟨by rw [hall _ _ hl, Bool.and_false], rfl⟩
            · cases h
          obtain ⟨hg, rfl⟩ := hg
          obtain ⟨k1, u1, M1, hM1, _, _, hM1'⟩ := hold.cons_inv
          obtain ⟨k2, u2, M2, rfl, _, _, _⟩ := hM1'.cons_inv
          obtain ⟨y, hy, hrun⟩ := run_nextN (P := P) (ty := ty) hB hBm hg hM1 hnew.nil_inv
          have key : ∀ {a : List ME} {A : List MapEntry}, RelE r a A → ∀ y ∈ A, ∃ x ∈ a, y.born = x.born ∧ Rel r x.k y.key ∧ Rel r x.v y.val := by
            intro a
            induction a with
            | nil => intro A hA y hy; rw [hA.nil_inv] at hy; simp at hy
            | cons x a ih =>
              intro A hA y hy
              obtain ⟨k, v, M, rfl, q1, q2, q3⟩ := hA.cons_inv
              rcases List.mem_cons.1 hy with rfl | hy
              · exact ⟨x, List.mem_cons_self, rfl, q1, q2⟩
              · obtain ⟨z, z1, z2⟩ := ih q3 y hy
                exact ⟨z, List.mem_cons_of_mem _ z1, z2⟩
          rw [hM1] at hold
          obtain ⟨x, hx, hborn, hk, hu⟩ := key hold y hy
          refine ⟨_, _, hrun, _, List.mem_map.2 ⟨x, hx, rfl⟩, r, Rho.le.refl r, by simpa using mk_t (RelL.cons (mk_b true) (RelL.cons hk (RelL.cons hu (RelL.nil r)))), ?_, ?_⟩
          · have hs' := hs.ext (Ext.drew w)
            have hB' : w.drew.heap[B]? = some (.mapIter (some Bm) since seen.toArray last) := hB
            rw [hborn]
            exact hs'.upd hb rfl hr (hlo rfl) (mod_setB _ _ _) ⟨some Bm, ⟨Bm, Km, hrm, rfl⟩, setB_same _ (Array.getElem?_eq_some_iff.1 hB').1⟩
          · exact (modLo (Ext.drew w)).trans ((mod_setB w.drew B _).weaken fun k _ hk => by subst hk; exact hlo rfl)
        · cases h
      · cases h
    · cases h
  · cases h
theorem evNext_sound [Sig] (hs : Sat lo r st.H w) {x v : AV} {X : Value} (hX : Rel r x X) (h : evNext st (some x) = some (v, st')) :
    ∃ V w', (Instr.next X false ty).run P w = .ok V w' ∧ After lo r w v st'.H V w' := by
  unfold evNext at h
  split at h
  · rename_i b hx
    cases hx
    obtain ⟨B, Kc, hr, rfl⟩ := rel_p hX
    split at h
    · rename_i s1 s2 s3 hb
      cases h
      obtain ⟨_, M, hM, hB⟩ := hs.here hb hr
      have hM : M = none := hM
      subst hM
      refine ⟨.tuple #[.bool false], w, ?_, After.same hs (by simpa using mk_t (RelL.cons (mk_b false) (RelL.nil r)))⟩
      simp [Instr.next, getObj_mit hB]
    · rename_i m since seen last hb
      obtain ⟨hlo, M, ⟨Bm, Km, hrm, rfl⟩, hB⟩ := hs.here hb hr
      split at h
      · rename_i es clock hbm
        obtain ⟨_, E, hE, hBm⟩ := hs.here hbm hrm
        have hold := oldE_rel since (leftE_rel seen hE)
        have hnew := newE_rel since (leftE_rel seen hE)
        have hlast := oldE_rel last hE
        have hall : ∀ x l, oldE last es = x :: l → E.all (·.born ≥ last) = false := by
          intro x l hx
          rw [hx] at hlast
          obtain ⟨k, v, M, hM, _⟩ := hlast.cons_inv
          have hmem : (⟨k, v, x.born⟩ : MapEntry) ∈ E.filter fun x => decide (x.born < last) := by rw [hM]; simp
          rw [List.mem_filter] at hmem
          have h2 : x.born < last := by simpa using hmem.2
          rw [List.all_eq_false]
          exact ⟨_, hmem.1, by simp; omega⟩
        split at h
        · rename_i x ho hn
          rw [ho] at hold
          rw [hn] at hnew
          obtain ⟨k, u, M', hM, hk, hu, hM'⟩ := hold.cons_inv
          have hM' := hM'.nil_inv
          subst hM'
          have hmem : (⟨k, u, x.born⟩ : MapEntry) ∈ (E.filter fun y => !seen.toArray.contains y.born).filter (fun y => decide (y.born < since)) := by rw [hM]; simp
          have hmem' : (⟨k, u, x.born⟩ : MapEntry) ∈ E := (List.mem_filter.1 (List.mem_filter.1 hmem).1).1
          have hg : (!seen.isEmpty && !E.isEmpty && E.all (·.born ≥ last)) = false ∧ v = .t [.b true, x.k, x.v] ∧ st' = st.upd b (.mit (some m) since (seen ++ [x.born]) clock) := by
            split at h
            · cases h; exact ⟨by simp, rfl, rfl⟩
            · rename_i hlt
              cases h
              refine ⟨?_, rfl, rfl⟩
              have h2 : E.all (·.born ≥ last) = false := by
                rw [List.all_eq_false]
                have := blt_lt hlt
                refine ⟨_, hmem', ?_⟩
                simp
                omega
              rw [h2, Bool.and_false]
            · cases h
          obtain ⟨hg, rfl, rfl⟩ := hg
          have hrun := (run_next (P := P) (ty := ty) hB hBm hg rfl rfl).2 _ hM hnew.nil_inv
          refine ⟨_, _, hrun, r, Rho.le.refl r, by simpa using mk_t (RelL.cons (mk_b true) (RelL.cons hk (RelL.cons hu (RelL.nil r)))), ?_, (mod_setB w B _).weaken fun k _ hk => by subst hk; exact hlo rfl⟩
          exact hs.upd hb rfl hr (hlo rfl) (mod_setB _ _ _) ⟨some Bm, ⟨Bm, Km, hrm, rfl⟩, setB_same _ (Array.getElem?_eq_some_iff.1 hB).1⟩
        · rename_i ho hn
          rw [ho] at hold
          rw [hn] at hnew
          have hg : (!seen.isEmpty && !E.isEmpty && E.all (·.born ≥ last)) = false ∧ v = .t [.b false] ∧ st' = st := by
            split at h
            · cases h; exact ⟨by simp, rfl, rfl⟩
            · cases h
              rw [hE.nil_inv]
              exact ⟨by simp, rfl, rfl⟩
            · rename_i hx
              cases h
              rw [hall _ _ hx, Bool.and_false]
              exact ⟨rfl, rfl, rfl⟩
            · cases h
          obtain ⟨hg, rfl, rfl⟩ := hg
          have hrun := (run_next (P := P) (ty := ty) hB hBm hg rfl rfl).1 hold.nil_inv hnew.nil_inv
          exact ⟨_, _, hrun, After.same hs (by simpa using mk_t (RelL.cons (mk_b false) (RelL.nil r)))⟩
        · cases h
      · cases h
    · cases h
  · cases h
end
end Go.Proofs.YtfoabgljfikklaaGreatDoor.V
namespace Go.Proofs.YtfoabgljfikklaaGreatDoor.V
section
variable {P : Program} {lo n : Nat} {r : Rho} {e : Env} {T : Tr AV} {H : Tr AB} {w : World} {st st' : ST} {dst : Option Tmp} {ty : TypeId} {pos : String} {aft : Array Edge} {g : Option (Nat × Bool)}
theorem findBorn_rel [Sig] {q : Nat} {y : ME} : ∀ {es : List ME} {E : List MapEntry}, RelE r es E → findBorn q es = some y → ∃ k v, E.find? (fun x => x.born == q) = some ⟨k, v, y.born⟩ ∧ Rel r y.k k ∧ Rel r y.v v
  | [], E, _, h => by simp [findBorn] at h
  | x :: l, E, hE, h => by
    obtain ⟨kx, vx, M, rfl, h2, h3, h4⟩ := hE.cons_inv
    simp only [findBorn] at h
    split at h
    · rename_i hb
      have hb := Nat.eq_of_beq_eq_true hb
      cases h
      exact ⟨kx, vx, by simp [hb], h2, h3⟩
    · rename_i hb
      have hb := Nat.ne_of_beq_eq_false hb
      obtain ⟨k, v, h5, h6, h7⟩ := findBorn_rel h4 h
      exact ⟨k, v, by simp [hb, h5], h6, h7⟩
theorem lastOf_spec : ∀ {l : List Nat} {q : Nat}, lastOf l = some q → l.toArray.back? = some q
  | [], _, h => by simp [lastOf] at h
  | [x], q, h => by simp [lastOf] at h; simp [h]
  | x :: y :: l, q, h => by
    have := lastOf_spec (l := y :: l) (by simpa [lastOf] using h)
    simpa [Array.back?] using this
theorem evIter_sound [Sig] (hs : Sat lo r st.H w) {x v : AV} {X : Value} (hX : Rel r x X) (h : evIter st (some x) = some (v, st')) :
    ∃ V w', (Instr.entry X).run P w = .ok V w' ∧ After lo r w v st'.H V w' := by
  unfold evIter at h
  split at h
  · rename_i b hx
    cases hx
    obtain ⟨B, Kc, hr, rfl⟩ := rel_p hX
    split at h
    · rename_i m since seen last hb
      obtain ⟨hlo, M, ⟨Bm, Km, hrm, rfl⟩, hB⟩ := hs.here hb hr
      split at h
      · rename_i es clock q hbm hq
        obtain ⟨_, E, hE, hBm⟩ := hs.here hbm hrm
        split at h
        · rename_i y hc hf
          have hc := Nat.eq_of_beq_eq_true hc
          subst hc
          obtain ⟨k, u, h1, h2, h3⟩ := findBorn_rel hE hf
          cases h
          refine ⟨.tuple #[k, u], w, ?_, After.same hs (by simpa using mk_t (RelL.cons h2 (RelL.cons h3 (RelL.nil r))))⟩
          have h4 : E.toArray.find? (fun x => x.born == q) = some ⟨k, u, y.born⟩ := by simpa using h1
          simp only [Instr.entry, Sem.run_bind, getObj_mit hB, Result.andThen_ok, lastOf_spec hq, getObj_map hBm, h4]
          simp
        · cases h
      · cases h
    · cases h
  · cases h
theorem MR.of [Fr] [Sig] {o : Oper} {v : AV} {H' : Tr AB} (h : ∀ a, Knows a e n → ∃ V w', (execOp a.eval o).run P w = .ok (.value V) w' ∧ After lo r w v H' V w') : MR P lo n r e w o v H' := fun a ha =>
  let ⟨V, w', h1, h2⟩ := h a ha
  ⟨_, V, w', h1, .inl rfl, h2⟩
theorem MR.ofU [Fr] [Sig] {o : Oper} {H' : Tr AB} (h : ∀ a, Knows a e n → ∃ w', (execOp a.eval o).run P w = .ok .skip w' ∧ After lo r w (.t []) H' undef w') : MR P lo n r e w o (.t []) H' := fun a ha =>
  let ⟨w', h1, h2⟩ := h a ha
  ⟨_, undef, w', h1, .inr ⟨rfl, rfl⟩, h2⟩
theorem evLookup_some {t : TypeId} {x i : Option AV} {ok : Bool} {z : AV × ST} (h : evLookup P st t x i ok = some z) : ∃ X I, x = some X ∧ i = some I := by
  unfold evLookup at h
  split at h
  · exact ⟨_, _, rfl, rfl⟩
  · cases h
theorem evUpdate_some {t : TypeId} {m k u : Option AV} {z : AV × ST} (h : evUpdate P st t m k u = some z) : ∃ M K U, m = some M ∧ k = some K ∧ u = some U := by
  unfold evUpdate at h
  split at h
  · exact ⟨_, _, _, rfl, rfl, rfl⟩
  · cases h
theorem evEntry_some {t : TypeId} {m k : Option AV} {z : AV × ST} (h : evEntry P st t m k = some z) : ∃ M K, m = some M ∧ k = some K := by
  unfold evEntry at h
  split at h
  · exact ⟨_, _, rfl, rfl⟩
  · cases h
theorem evEntryStore_some {m s u : Option AV} {z : AV × ST} (h : evEntryStore st m s u = some z) : ∃ M S U, m = some M ∧ s = some S ∧ u = some U := by
  unfold evEntryStore at h
  split at h
  · exact ⟨_, _, _, rfl, rfl, rfl⟩
  · cases h
theorem evDelete_some {t : TypeId} {m k : Option AV} {z : AV × ST} (h : evDelete P st t m k = some z) : ∃ M K, m = some M ∧ k = some K := by
  unfold evDelete at h
  split at h
  · exact ⟨_, _, rfl, rfl⟩
  · cases h
theorem evRange_some {t : TypeId} {x : Option AV} {z : AV × ST} (h : evRange P st t x = some z) : ∃ X, x = some X := by
  unfold evRange at h
  split at h
  · exact ⟨_, rfl⟩
  · exact ⟨_, rfl⟩
  · cases h
theorem evNext_some {x : Option AV} {z : AV × ST} (h : evNext st x = some z) : ∃ X, x = some X := by
  unfold evNext at h
  split at h
  · exact ⟨_, rfl⟩
  · cases h
theorem evIter_some {x : Option AV} {z : AV × ST} (h : evIter st x = some z) : ∃ X, x = some X := by
  unfold evIter at h
  split at h
  · exact ⟨_, rfl⟩
  · cases h
theorem evAppend_some {t : TypeId} {a b : Option AV} {z : AV × ST} (h : evAppend P st t a b = some z) : ∃ A B, a = some A ∧ b = some B := by
  unfold evAppend at h
  split at h
  · exact ⟨_, _, rfl, rfl⟩
  · cases h
theorem evGrow_some {t t2 : TypeId} {a b : Option AV} {z : AV × ST} (h : evGrow P st t t2 a b = some z) : ∃ A B, a = some A ∧ b = some B := by
  unfold evGrow at h
  split at h
  · exact ⟨_, _, rfl, rfl⟩
  · cases h
theorem evAppendS_some {t t2 : TypeId} {a b : Option AV} {z : AV × ST} (h : evAppendS P st t t2 a b = some z) : ∃ A B, a = some A ∧ b = some B := by
  unfold evAppendS at h
  split at h
  · exact ⟨_, _, rfl, rfl⟩
  · cases h
theorem evClear_some {t : TypeId} {a : Option AV} {z : AV × ST} (h : evClear P st t a = some z) : ∃ A, a = some A := by
  unfold evClear at h
  split at h
  · exact ⟨_, rfl⟩
  · exact ⟨_, rfl⟩
  · exact ⟨_, rfl⟩
  · exact ⟨_, rfl⟩
  · exact ⟨_, rfl⟩
  · cases h
theorem evCopy_some {t : TypeId} {a b : Option AV} {z : AV × ST} (h : evCopy P st t a b = some z) : ∃ A B, a = some A ∧ b = some B := by
  unfold evCopy at h
  split at h
  · exact ⟨_, _, rfl, rfl⟩
  · cases h
theorem mr_buildSlice0' [Fr] [Sig] (hs : Sat lo r st.H w) {t el sz by_ len : Nat} {parts : Array (Nat × Operand)} {v : AV} (h1 : Nat.blt 0 len = false) (hf : sliceB P t = some (el, sz, by_)) (hp : partsA st.T parts.toList = some []) (h : st.new (.own el sz []) (.sl st.next 0 0 0 (some 0)) = some (v, st')) :
    MR P lo n r e w ⟨dst, .buildSlice t len parts, ty, pos, aft, g⟩ v st'.H := by
  have h0 : len = 0 := by
    cases len with
    | zero => rfl
    | succ k => rw [blt_dec] at h1; simp at h1
  subst h0
  exact mr_buildSlice0 hs hf hp h
theorem args1 {c : Call} {x : Operand} (h : c.args.toList = [x]) : c.args = #[x] := by
  apply Array.toList_inj.1; simpa using h
theorem args2 {c : Call} {x y : Operand} (h : c.args.toList = [x, y]) : c.args = #[x, y] := by
  apply Array.toList_inj.1; simpa using h
theorem types1 {c : Call} {x : TypeId} (h : c.argTypes.toList = [x]) : c.argTypes = #[x] := by
  apply Array.toList_inj.1; simpa using h
theorem types2 {c : Call} {x y : TypeId} (h : c.argTypes.toList = [x, y]) : c.argTypes = #[x, y] := by
  apply Array.toList_inj.1; simpa using h
theorem evMem_sound [Fr] [Sig] (hE : EnvR r e st.T) (hs : Sat lo r st.H w) {op : Op} {v : AV} (h : evMem P st op = some (v, st')) : MR P lo n r e w ⟨dst, op, ty, pos, aft, g⟩ v st'.H := by
  unfold evMem at h
  split at h
  · -- load
    split at h
    · rename_i hx
      split at h
      · rename_i ht
        split at h
        · rename_i hp
          split at h
          · rename_i hv
            cases h
            exact mr_load hE hs hx ht hp hv
          · cases h
        · cases h
      · cases h
    · cases h
  · -- store
    split at h
    · rename_i hx hy
      split at h
      · rename_i hb ht
        split at h
        · rename_i hc
          split at h
          · rename_i hp hl ho
            split at h
            · rename_i hset
              cases h
              exact mr_store hE hs hx hy hb ht hc hp (Nat.eq_of_beq_eq_true hl) ho hset
            · cases h
          · cases h
        · cases h
      · cases h
    · cases h
  · -- alloc
    split at h
    · rename_i hz; exact mr_alloc hs hz h
    · cases h
  · -- box
    split at h
    · rename_i hx; exact mr_box hE hs hx h
    · cases h
  · -- a slice literal
    split at h
    · rename_i hf hp
      split at h
      · rename_i hz h1 h2 h3
        split at h
        · rename_i hfill
          exact mr_buildSlice hE hs hf hp hz (blt_lt h1) (blt_lt h3) (Nat.le_of_ble_eq_true h2) hfill h
        · cases h
      · rename_i h1 _ _ _
        split at h
        · exact mr_buildSlice0' hs ‹_› hf hp h
        · cases h
      · cases h
    · cases h
  · -- make a slice
    split at h
    · rename_i hf hx hy
      split at h
      · rename_i hz h1 h2 h3
        split at h
        · exact mr_makeSlice hE hs hf hx hy hz (Nat.le_of_ble_eq_true h1) h2 h
        · rename_i hbig
          exact mr_makeBig hE hs hf hx hy hz (Nat.le_of_ble_eq_true h1) h2 h3 hbig h
      · cases h
    · cases h
  · exact evSliceH_sound hE hs h
  · -- make a map
    exact mr_makeMap hs (fun a ha => by simp [Instr.makeMap]) h
  · split at h
    · rename_i hx hm
      obtain ⟨V, h1, h2⟩ := av_rel hE hx
      have := rel_i h2
      subst this
      obtain ⟨kt, hu, _⟩ := mapB_spec hm
      exact mr_makeMap hs (fun a ha => by simp [Instr.makeMap, ev_eq ha h1, run_underlying hu, asInt, asIntOf]) h
    · cases h
  · -- look up
    obtain ⟨X, I, hx, hi⟩ := evLookup_some h
    rw [hx, hi] at h
    obtain ⟨A, h1, h2⟩ := av_rel hE hx
    obtain ⟨B, h3, h4⟩ := av_rel hE hi
    obtain ⟨rfl, V, h5, h6⟩ := evLookup_sound hs h2 h4 h
    exact MR.of fun a ha => ⟨V, w, by simp [execOp, ev_eq ha h1, ev_eq ha h3, h6], After.same hs h5⟩
  · -- a map is written
    obtain ⟨M, K, U, hm, hk, hu⟩ := evUpdate_some h
    rw [hm, hk, hu] at h
    obtain ⟨A, h1, h2⟩ := av_rel hE hm
    obtain ⟨B, h3, h4⟩ := av_rel hE hk
    obtain ⟨C, h5, h6⟩ := av_rel hE hu
    obtain ⟨rfl, w', h7, h8⟩ := evUpdate_sound hs h2 h4 h6 h
    exact MR.ofU fun a ha => ⟨w', by simp [execOp, ev_eq ha h1, ev_eq ha h3, ev_eq ha h5, h7], h8⟩
  · obtain ⟨M, K, U, hm, hk, hu⟩ := evUpdate_some h
    rw [hm, hk, hu] at h
    obtain ⟨A, h1, h2⟩ := av_rel hE hm
    obtain ⟨B, h3, h4⟩ := av_rel hE hk
    obtain ⟨C, h5, h6⟩ := av_rel hE hu
    obtain ⟨rfl, w', h7, h8⟩ := evUpdate_sound hs h2 h4 h6 h
    exact MR.ofU fun a ha => ⟨w', by simp [execOp, ev_eq ha h1, ev_eq ha h3, ev_eq ha h5, h7], h8⟩
  · obtain ⟨M, K, hm, hk⟩ := evEntry_some h
    rw [hm, hk] at h
    obtain ⟨A, h1, h2⟩ := av_rel hE hm
    obtain ⟨B, h3, h4⟩ := av_rel hE hk
    obtain ⟨V, w', h7, h8⟩ := evEntry_sound hs h2 h4 h
    exact MR.of fun a ha => ⟨V, w', by simp [execOp, ev_eq ha h1, ev_eq ha h3, h7], h8⟩
  · obtain ⟨X, hx⟩ := evRange_some h
    rw [hx] at h
    obtain ⟨A, h1, h2⟩ := av_rel hE hx
    obtain ⟨V, w', h7, h8⟩ := evRange_sound hs h2 h
    exact MR.of fun a ha => ⟨V, w', by simp [execOp, ev_eq ha h1, h7], h8⟩
  · obtain ⟨X, hx⟩ := evNext_some h
    rw [hx] at h
    obtain ⟨A, h1, h2⟩ := av_rel hE hx
    obtain ⟨V, w', h7, h8⟩ := evNext_sound (P := P) (ty := ty) hs h2 h
    exact MR.of fun a ha => ⟨V, w', by simp [execOp, ev_eq ha h1, h7], h8⟩
  · obtain ⟨X, hx⟩ := evIter_some h
    rw [hx] at h
    obtain ⟨A, h1, h2⟩ := av_rel hE hx
    obtain ⟨V, w', h7, h8⟩ := evIter_sound (P := P) hs h2 h
    exact MR.of fun a ha => ⟨V, w', by simp [execOp, ev_eq ha h1, h7], h8⟩
  · obtain ⟨M, K, U, hm, hk, hu⟩ := evEntryStore_some h
    rw [hm, hk, hu] at h
    obtain ⟨A, h1, h2⟩ := av_rel hE hm
    obtain ⟨B, h3, h4⟩ := av_rel hE hk
    obtain ⟨C, h5, h6⟩ := av_rel hE hu
    obtain ⟨rfl, w', h7, h8⟩ := evEntryStore_sound (P := P) (t := 0) hs h2 h4 h6 h
    have h7' : ∀ t, (Instr.entryStore t A B C).run P w = .ok () w' := fun _ => h7
    exact MR.ofU fun a ha => ⟨w', by simp [execOp, ev_eq ha h1, ev_eq ha h3, ev_eq ha h5, h7'], h8⟩
  · -- bytes and strings
    split at h
    · rename_i hx h1 h2
      split at h
      · rename_i h3 hc
        split at h
        · rename_i hb
          cases h
          exact mr_toStr hE hs hx h1 h2 h3 hc hb
        · cases h
      · cases h
    · rename_i hx h1 h2
      split at h
      · rename_i h3
        split at h
        · exact mr_toBytes0 hE hs hx h1 h2 h3 h
        · exact mr_toBytes hE hs hx h1 h2 h3 h
      · cases h
    · rename_i hx h1 h2
      split at h
      · rename_i hsd h3
        have hsd := Nat.eq_of_beq_eq_true hsd
        subst hsd
        exact evMark_sound hE hs hx h2 h3 h
      · cases h
    · cases h
  · -- what is built in
    split at h
    · rename_i c x y hcal hargs
      split at h
      · rename_i t t2 hts
        split at h
        · rename_i htt
          have htt := Nat.eq_of_beq_eq_true htt
          subst htt
          obtain ⟨M, K, hm, hk⟩ := evAppend_some h
          rw [hm, hk] at h
          obtain ⟨A, h1, h2⟩ := av_rel hE hm
          obtain ⟨B, h3, h4⟩ := av_rel hE hk
          obtain ⟨V, w', h7, h8⟩ := evAppend_sound (ty := ty) hs h2 h4 h
          refine MR.of fun a ha => ⟨V, w', ?_, h8⟩
          have e1 := args2 hargs
          have e2 := types2 hts
          simp [execOp, resolve, invoke, builtin, hcal, e1, e2, ev_eq ha h1, ev_eq ha h3, h7]
        · split at h
          · rename_i z hgr
            cases h
            obtain ⟨M, K, hm, hk⟩ := evGrow_some hgr
            rw [hm, hk] at hgr
            obtain ⟨A, h1, h2⟩ := av_rel hE hm
            obtain ⟨B, h3, h4⟩ := av_rel hE hk
            obtain ⟨V, w', h7, h8⟩ := evGrow_sound (ty := ty) hs h2 h4 hgr
            refine MR.of fun a ha => ⟨V, w', ?_, h8⟩
            have e1 := args2 hargs
            have e2 := types2 hts
            simp [execOp, resolve, invoke, builtin, hcal, e1, e2, ev_eq ha h1, ev_eq ha h3, h7]
          · obtain ⟨M, K, hm, hk⟩ := evAppendS_some h
            rw [hm, hk] at h
            obtain ⟨A, h1, h2⟩ := av_rel hE hm
            obtain ⟨B, h3, h4⟩ := av_rel hE hk
            obtain ⟨V, w', h7, h8⟩ := evAppendS_sound (ty := ty) hs h2 h4 h
            refine MR.of fun a ha => ⟨V, w', ?_, h8⟩
            have e1 := args2 hargs
            have e2 := types2 hts
            simp [execOp, resolve, invoke, builtin, hcal, e1, e2, ev_eq ha h1, ev_eq ha h3, h7]
      · cases h
    · rename_i c x hcal hargs
      split at h
      · rename_i t hts
        have e1 := args1 hargs
        have e2 := types1 hts
        split at h
        · rename_i hu hx
          cases h
          obtain ⟨A, h1, h2⟩ := av_rel hE hx
          have := rel_sl0 h2
          subst this
          exact MR.of fun a ha => ⟨_, w, by simp [execOp, resolve, invoke, builtin, hcal, e1, e2, ev_eq ha h1, Builtin.cap_, run_underlying hu, goInt], After.same hs (mk_i .i64 (.ofNat 0))⟩
        · rename_i k hu hx
          cases h
          obtain ⟨A, h1, h2⟩ := av_rel hE hx
          obtain ⟨B, K, _, rfl, _⟩ := rel_sl h2
          exact MR.of fun a ha => ⟨_, w, by simp [execOp, resolve, invoke, builtin, hcal, e1, e2, ev_eq ha h1, Builtin.cap_, run_underlying hu, goInt], After.same hs (mk_i .i64 (.ofNat k))⟩
        · cases h
      · cases h
    · rename_i c x hcal hargs
      split at h
      · rename_i t hts
        obtain ⟨M, hm⟩ := evClear_some h
        rw [hm] at h
        obtain ⟨A, h1, h2⟩ := av_rel hE hm
        obtain ⟨V, w', h7, h8⟩ := evClear_sound (ty := ty) hs h2 h
        refine MR.of fun a ha => ⟨V, w', ?_, h8⟩
        have e1 := args1 hargs
        have e2 := types1 hts
        simp [execOp, resolve, invoke, builtin, hcal, e1, e2, ev_eq ha h1, h7]
      · cases h
    · rename_i c x y hcal hargs
      split at h
      · rename_i t t2 hts
        split at h
        · rename_i htt
          have htt := Nat.eq_of_beq_eq_true htt
          subst htt
          obtain ⟨M, K, hm, hk⟩ := evCopy_some h
          rw [hm, hk] at h
          obtain ⟨A, h1, h2⟩ := av_rel hE hm
          obtain ⟨B, h3, h4⟩ := av_rel hE hk
          obtain ⟨V, w', h7, h8⟩ := evCopy_sound (ty := ty) hs h2 h4 h
          refine MR.of fun a ha => ⟨V, w', ?_, h8⟩
          have e1 := args2 hargs
          have e2 := types2 hts
          simp [execOp, resolve, invoke, builtin, hcal, e1, e2, ev_eq ha h1, ev_eq ha h3, h7]
        · cases h
      · cases h
    · rename_i c _ _ x y hcal hargs
      split at h
      · rename_i t l hts
        obtain ⟨M, K, hm, hk⟩ := evDelete_some h
        rw [hm, hk] at h
        obtain ⟨A, h1, h2⟩ := av_rel hE hm
        obtain ⟨B, h3, h4⟩ := av_rel hE hk
        have e2 : c.argTypes[0]? = some t := by
          rw [← Array.getElem?_toList, hts]; rfl
        obtain ⟨V, w', h7, h8⟩ := evDelete_sound (ty := ty) hs e2 h2 h4 h
        refine MR.of fun a ha => ⟨V, w', ?_, h8⟩
        have e1 := args2 hargs
        simp [execOp, resolve, invoke, builtin, hcal, e1, ev_eq ha h1, ev_eq ha h3, h7]
      · cases h
    · rename_i c x hcal hargs
      split at h
      · rename_i t m hts hm
        split at h
        · rename_i hmb hmo
          cases h
          obtain ⟨A, h1, h2⟩ := av_rel hE hm
          have h7 := run_lenMap (ty := ty) hs hmb hmo h2
          refine MR.of fun a ha => ⟨_, w, ?_, After.same hs (mk_i _ _)⟩
          have e1 := args1 hargs
          have e2 := types1 hts
          simp [execOp, resolve, invoke, builtin, hcal, e1, e2, ev_eq ha h1, h7]
        · cases h
      · cases h
    · cases h
  · cases h
end
end Go.Proofs.YtfoabgljfikklaaGreatDoor.V
