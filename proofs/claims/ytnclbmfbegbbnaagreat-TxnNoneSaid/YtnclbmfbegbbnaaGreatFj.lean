/-
  The keys of a map, sorted, as slices.Sorted hands back those of maps.Keys: the reckoned run's word for it holds; keys that are ints. Condition: the program has these functions and their callees.
-/
import Derived.Test.YtnclbmfbegbbnaaGreatFb
import Derived.Test.YtnclbmfbegbbnaaGreatFacts
import Derived.Shelf.SlIterI.Sorted
import Derived.Maps.Keyed
namespace Go.Proofs.YtnclbmfbegbbnaaGreat.V
open Go.RowKit Go.Maps Go.Shelf Go.Sort Go.WideShapes

/-! ### What is reckoned -/
def keysI : List ME → Option (List Int)
  | [] => some []
  | e :: r => match e.k, keysI r with
    | .i .i64 n, some m => match (Lit.int .i64 n).wf with
      | true => some (n :: m)
      | false => none
    | _, _ => none
def upI (clock : Nat) : Nat → List ME → Bool
  | _, [] => true
  | lo, e :: r => match Nat.ble lo e.born, Nat.blt e.born clock with
    | true, true => upI clock (e.born + 1) r
    | _, _ => false
def insI (x : Int) : List Int → List Int
  | [] => [x]
  | y :: r => match decide (x < y) with
    | true => x :: y :: r
    | false => y :: insI x r
def sortI : List Int → List Int
  | [] => []
  | x :: r => insI x (sortI r)
def lessAllI (x : Int) : List Int → Bool
  | [] => true
  | y :: r => match decide (x < y) with
    | true => lessAllI x r
    | false => false
def sortedI : List Int → Bool
  | [] => true
  | x :: r => match lessAllI x r with
    | true => sortedI r
    | false => false
/-- The keys of a map, sorted. -/
def extSortedI (fs fk el : Nat) : CallA := fun g args st => match Nat.beq g fs, args with
  | true, [.f k [.p b 0]] => match Nat.beq k fk, atH st.H b 0 1 with
    | true, some [.m mb] => match st.H.get mb with
      | some (.map es clock) => match keysI es with
        | some ks => match upI clock 0 es, sortedI (sortI ks), Nat.ble ks.length 1000000, sortI ks with
          | true, true, true, [] => some (.sl0, st)
          | true, true, true, x :: l => st.new (.own el 1 ((x :: l).map (.i .i64))) (.sl st.next 0 0 (l.length + 1) none)
          | _, _, _, _ => none
        | none => none
      | _ => none
    | _, _ => none
  | _, _ => none

/-! ### What it says -/
theorem insI_perm (x : Int) : ∀ l : List Int, (insI x l).Perm (x :: l)
  | [] => List.Perm.refl _
  | y :: r => by
    unfold insI
    split
    · exact List.Perm.refl _
    · exact ((insI_perm x r).cons y).trans (List.Perm.swap x y r)
theorem sortI_perm : ∀ l : List Int, (sortI l).Perm l
  | [] => List.Perm.refl _
  | x :: r => (insI_perm x (sortI r)).trans ((sortI_perm r).cons x)
theorem lessAllI_mem {x : Int} : ∀ {l : List Int}, lessAllI x l = true → ∀ y ∈ l, x < y
  | [], _, y, hy => by cases hy
  | z :: l, h, y, hy => by
    unfold lessAllI at h
    split at h
    · rename_i hz
      rcases List.mem_cons.1 hy with rfl | hy
      · exact of_decide_eq_true hz
      · exact lessAllI_mem h y hy
    · cases h
theorem sortedI_pair : ∀ {l : List Int}, sortedI l = true → l.Pairwise (· < ·)
  | [], _ => by simp
  | x :: l, h => by
    unfold sortedI at h
    split at h
    · rename_i hx
      simp only [List.pairwise_cons]
      exact ⟨fun y hy => lessAllI_mem hx y hy, sortedI_pair h⟩
    · cases h
theorem upI_spec [Sig] {r : Rho} {clock : Nat} : ∀ {es : List ME} {E : List MapEntry} {lo : Nat}, RelE r es E → upI clock lo es = true → (∀ x ∈ E, lo ≤ x.born ∧ x.born < clock) ∧ (E.map (·.born)).Nodup
  | [], E, _, hE, _ => by
    have hE : E = [] := hE
    subst hE
    simp
  | e :: es, E, lo, hE, h => by
    obtain ⟨k, v, M, rfl, _, _, hM⟩ := hE
    unfold upI at h
    split at h
    · rename_i h1 h2
      have h1 := Nat.le_of_ble_eq_true h1
      have h2 : e.born < clock := Nat.le_of_ble_eq_true h2
      obtain ⟨k1, k2⟩ := upI_spec hM h
      refine ⟨fun x hx => ?_, ?_⟩
      · rcases List.mem_cons.1 hx with rfl | hx
        · exact ⟨h1, h2⟩
        · have := k1 x hx; exact ⟨by omega, this.2⟩
      · simp only [List.map_cons, List.nodup_cons]
        refine ⟨fun hm => ?_, k2⟩
        obtain ⟨x, hx, hb⟩ := List.mem_map.1 hm
        have := (k1 x hx).1
        omega
    · cases h
theorem keysI_spec [Sig] {r : Rho} : ∀ {es : List ME} {E : List MapEntry} {ks : List Int}, RelE r es E → keysI es = some ks → E.map (·.key) = ks.map (fun k => Value.int .i64 k) ∧ (∀ k ∈ ks, (Lit.int .i64 k).wf = true)
  | [], E, _, hE, h => by
    have hE : E = [] := hE
    subst hE
    cases h
    simp
  | e :: es, E, _, hE, h => by
    obtain ⟨k, v, M, rfl, hk, _, hM⟩ := hE
    unfold keysI at h
    split at h
    · rename_i n m hl hm
      split at h
      · rename_i hwf
        cases h
        obtain ⟨k1, k2⟩ := keysI_spec hM hm
        rw [hl] at hk
        unfold Rel at hk
        refine ⟨?_, ?_⟩
        · simp only [List.map_cons, k1]
          rw [hk]
        · intro z hz
          rcases List.mem_cons.1 hz with rfl | hz
          · exact hwf
          · exact k2 z hz
      · cases h
    · cases h

/-- How a value of the map reads: it is not looked at. -/
def noValI : Value → Option (DataW Unit × List MemPlace) := fun _ => some (.nil, [])

section
variable {P : Program} {ρ : Ren}
theorem sorted_mapI (L6 : SlLaysZI.n6 P ρ) (L10 : SlLaysZI.n10 P ρ) (hsort : ∀ m, AnyZI.SortsIn P ρ Fence.wide m) (e9 : ∀ args w, (callFunc (ρ.f 9) args).run P w = .ok (.enter (ρ.f 9) args) w)
    (Bm b nn : Nat) (D0 : DataW Unit) (w : World) (hBm : Bm < w.heap.size) (hm : w.cell? ⟨Bm, 0, none⟩ = some (.map (some b))) (hown : w.ownsMap P (ρ.t 26) noValI b nn D0)
    (hmax : Maps.size D0 ≤ maxLen) (hbytes : Maps.size D0 * 8 ≤ 140737488355328) :
    Ret P (ρ.f 6) #[.func (.func (ρ.f 10)) #[] #[.pointer (some ⟨Bm, 0, none⟩)]] w fun v w' => ∃ ss : List Int, ss.Perm (intKeys D0) ∧ w'.ownsRow w.heap.size (ρ.t 26) 1 v ss.length ((ss.mergeSort (fun x y => decide (x ≤ y))).map encZ) ∧ (v = .slice none 0 0 ↔ ss = []) ∧ Ext w w' := by
  have hseq : SeqGives Fence.wide 1 P (ρ.f 10) #[.pointer (some ⟨Bm, 0, none⟩)] encZ (fun ss => ss.Perm (intKeys D0)) (Maps.size D0) w :=
    AnyZI.keys_gives L10 Fence.wide 1 trivial rfl (Nat.le_refl _) Bm b nn D0 w hBm hm hown
  have hc := AnyZI.sorted_in L6 Fence.wide 4 trivial trivial trivial trivial rfl (by omega) (hsort _) e9 (ρ.f 10) #[.pointer (some ⟨Bm, 0, none⟩)] trivial (L10.f10.enters rfl) _ (Maps.size D0) hmax hbytes w hseq
  unfold Ret
  refine Calls.mono (callsIn_wide.1 hc) ?_
  rintro e w' ⟨v, ss, rfl, hS, hrow, hnil, hb⟩
  exact ⟨v, rfl, ss, hS, hrow, hnil, ⟨hb.os, hb.tape, hb.output, hb.size, fun k hk _ => hb.block k hk⟩⟩

theorem rel_ints [Sig] {r : Rho} : ∀ {l : List Int}, RelL r (l.map (.i .i64)) (l.map fun k => Value.int .i64 k)
  | [] => RelL.nil r
  | x :: l => RelL.cons (by unfold Rel; rfl) rel_ints

theorem ints_own [Sig] {r : Rho} {k : TypeId} (hk : P.underlying k = some (.int .i64)) {es : List ME} {E : List MapEntry} {ks : List Int} {w : World} {B clock : Nat} (hE : RelE r es E) (hB : w.heap[B]? = some (.map E.toArray clock)) (hks : keysI es = some ks)
    (hup : upI clock 0 es = true) (hso : sortedI (sortI ks) = true) (hn : ks.length ≤ 1000000) :
    ∃ D : DataW Unit, w.ownsMap P k noValI B ks.length D ∧ Maps.size D = ks.length ∧ (intKeys D).Perm (sortI ks) := by
  obtain ⟨hkeys, hwf⟩ := keysI_spec hE hks
  obtain ⟨hb1, hb2⟩ := upI_spec hE hup
  have hElen : E.length = ks.length := by simpa using congrArg List.length hkeys
  have hpair : (sortI ks).Pairwise (· < ·) := sortedI_pair hso
  have hnd1 : (sortI ks).Nodup := hpair.imp fun h e => by omega
  have hnd2 : ks.Nodup := (sortI_perm ks).nodup_iff.1 hnd1
  have hnd3 : (E.map (·.key)).Nodup := by
    rw [hkeys]
    unfold List.Nodup at hnd2 ⊢
    rw [List.pairwise_map]
    exact hnd2.imp fun h e => h (by simpa using e)
  have hread : ∀ x ∈ E, ∃ n ∈ ks, x.key = .int .i64 n ∧ keyOf P k x.key = some (.int .i64 n) := fun x hx => by
    have : x.key ∈ E.map (·.key) := List.mem_map.2 ⟨x, hx, rfl⟩
    rw [hkeys] at this
    obtain ⟨n, hn, he⟩ := List.mem_map.1 this
    exact ⟨n, hn, he.symm, by rw [← he]; exact keyOf_int_mk hk (hwf n hn)⟩
  have hperm := sorted_perm (E.map (WideElems.rg P k noValI))
  refine ⟨.map ((E.map (WideElems.rg P k noValI)).foldr DataW.insert []), ⟨E.toArray, clock, hB, ⟨by simp [hElen, maxLen]; omega, ⟨fun x hx => (hb1 x (by simpa using hx)).2, by simpa using hb2, by simpa using hnd3⟩, fun x hx => ?_⟩, by simp [hElen], by simp⟩, ?_, ?_⟩
  · obtain ⟨n, _, _, hl⟩ := hread x (by simpa using hx)
    exact ⟨_, by simp [WideElems.rd, hl, noValI]; rfl⟩
  · simp only [Maps.size]
    rw [hperm.length_eq]
    simp [hElen]
  · have h1 : (intKeys (.map ((E.map (WideElems.rg P k noValI)).foldr DataW.insert []))).Perm ((E.map (WideElems.rg P k noValI)).map fun p => Go.intOf p.1) := hperm.map _
    refine h1.trans ?_
    have h2 : ((E.map (WideElems.rg P k noValI)).map fun p => Go.intOf p.1) = ks := by
      have : ((E.map (WideElems.rg P k noValI)).map fun p => Go.intOf p.1) = (E.map (·.key)).map fun v => Go.intOf ((keyOf P k v).getD (.bool false)) := by
        simp only [List.map_map]
        refine List.map_congr_left fun x hx => ?_
        obtain ⟨n, _, _, hl⟩ := hread x hx
        simp [WideElems.rg, WideElems.rd, hl, noValI]
      rw [this, hkeys, List.map_map]
      conv => rhs; rw [← List.map_id ks]
      refine List.map_congr_left fun n hn => ?_
      simp [keyOf_int_mk hk (hwf n hn), Go.intOf]
    rw [h2]
    exact (sortI_perm ks).symm

theorem extSortedI_ok [Sig] (L6 : SlLaysZI.n6 P ρ) (L10 : SlLaysZI.n10 P ρ) (hsort : ∀ m, AnyZI.SortsIn P ρ Fence.wide m) (e9 : ∀ args w, (callFunc (ρ.f 9) args).run P w = .ok (.enter (ρ.f 9) args) w) (lo : Nat) : CallOK P lo (extSortedI (ρ.f 6) (ρ.f 10) (ρ.t 26)) := by
  intro g args st v st' h r w Args hArgs hs
  unfold extSortedI at h
  split at h
  · rename_i k b hg
    have hg := Nat.eq_of_beq_eq_true hg
    subst hg
    obtain ⟨A, M, rfl, hA, hM⟩ := hArgs.of_cons
    have := hM.of_nil
    subst this
    unfold Rel at hA
    obtain ⟨Cs, rfl, hCs⟩ := hA
    obtain ⟨A, M, rfl, hA, hM⟩ := hCs.of_cons
    have := hM.of_nil
    subst this
    obtain ⟨B, K, hr, rfl⟩ := rel_p hA
    split at h
    · rename_i mb hk hat
      have hk := Nat.eq_of_beq_eq_true hk
      subst hk
      obtain ⟨_, L, hL, hAt, _⟩ := atH_sound hs hat hr
      obtain ⟨X, M, rfl, hX, hM⟩ := hL.of_cons
      have := hM.of_nil
      subst this
      unfold Rel at hX
      obtain ⟨B2, K2, hr2, rfl⟩ := hX
      have hcell : w.cell? ⟨B, 0, none⟩ = some (.map (some B2)) := hAt 0 _ rfl
      have hBlt : B < w.heap.size := block_lt_of_cell hcell
      split at h
      · rename_i es clock hmap
        split at h
        · rename_i ks hks
          obtain ⟨_, E, hE, hB⟩ := hs.here hmap hr2
          have main : ∀ (hup : upI clock 0 es = true) (hso : sortedI (sortI ks) = true) (hn : Nat.ble ks.length 1000000 = true),
              Ret P (ρ.f 6) #[.func (.func (ρ.f 10)) #[] #[.pointer (some ⟨B, 0, none⟩)]] w fun v w' => w'.ownsRow w.heap.size (ρ.t 26) 1 v (sortI ks).length ((sortI ks).map fun k => Value.int .i64 k) ∧ (v = .slice none 0 0 ↔ sortI ks = []) ∧ Ext w w' := by
            intro hup hso hn
            have hn := Nat.le_of_ble_eq_true hn
            obtain ⟨D, hown, hsz, hpk⟩ := ints_own L6.t26 hE hB hks hup hso hn
            refine (sorted_mapI L6 L10 hsort e9 B B2 _ D w hBlt hcell hown (by rw [hsz]; simp [maxLen]; omega) (by rw [hsz]; omega)).mono ?_
            rintro v w' ⟨ss, hp, hrow, hnil, hx⟩
            have hp' := hp.trans hpk
            have hl : ss.length = (sortI ks).length := by simpa using hp'.length_eq
            have hpair : (sortI ks).Pairwise (· < ·) := sortedI_pair hso
            have hms : ss.mergeSort (fun x y => decide (x ≤ y)) = sortI ks := by
              have tr : ∀ a b c : Int, decide (a ≤ b) = true → decide (b ≤ c) = true → decide (a ≤ c) = true := fun a b c h1 h2 => by simp only [decide_eq_true_eq] at *; omega
              have to : ∀ a b : Int, (decide (a ≤ b) || decide (b ≤ a)) = true := fun a b => by simp only [Bool.or_eq_true, decide_eq_true_eq]; omega
              refine List.Perm.eq_of_pairwise (le := fun a b => decide (a ≤ b) = true) (fun a b _ _ h1 h2 => ?_) (List.pairwise_mergeSort tr to _) (hpair.imp fun h => ?_) ((List.mergeSort_perm _ _).trans hp')
              · simp only [decide_eq_true_eq] at h1 h2
                omega
              · simp only [decide_eq_true_eq]
                omega
            rw [hms, hl] at hrow
            refine ⟨by simpa [encZ] using hrow, hnil.trans ?_, hx⟩
            rw [← List.length_eq_zero_iff, hl, List.length_eq_zero_iff]
          split at h
          · rename_i hup hso hn hnil0
            cases h
            refine (main hup hso hn).mono ?_
            rintro v w' ⟨_, hnil, hx⟩
            have hv := hnil.2 hnil0
            subst hv
            exact ⟨r, Rho.le.refl r, by unfold Rel; rfl, hs.ext hx, modLo hx⟩
          · rename_i x l hup hso hn hcons
            refine (main hup hso hn).mono ?_
            rintro v' w' ⟨hrow, _, hx⟩
            rw [hcons] at hrow
            obtain ⟨_, hrow⟩ := hrow
            rcases hrow with ⟨_, h0⟩ | ⟨G, cap, cur, rfl, hG, hcur, h1, h2, h3, h4⟩
            · simp at h0
            · unfold ST.new at h
              split at h
              · rename_i hfree
                cases h
                have hcl : cur.toList = ((x :: l).map fun k => Value.int .i64 k) ++ cur.toList.drop (l.length + 1) := by
                  have := List.take_append_drop (l.length + 1) cur.toList
                  rw [← this]
                  have h4' : cur.toList.take (l.length + 1) = ((x :: l).map fun k => Value.int .i64 k) := by simpa using h4
                  rw [h4']
                  simp
                have hh : Holds (r.set st.next (G, cap)) w' G cap (.own (ρ.t 26) 1 ((x :: l).map (.i .i64))) := by
                  refine ⟨_, cur.toList.drop (l.length + 1), rel_ints, ?_, ?_, h2⟩
                  · rw [← hcl]; simpa using hcur
                  · rw [← hcl]; simpa using h3
                obtain ⟨hle, hsat⟩ := hs.new (S := fun _ => False) hfree hx (fun _ _ _ _ _ _ _ h => h) (fun _ h => h.elim) (Nat.le_trans hs.size hG) (fun c ac K hc hl hrc => by
                  obtain ⟨B', K', k1, _, k3⟩ := hs.row c ac hc
                  rw [hrc] at k1
                  cases k1
                  exact absurd (k3.lt hl) (by omega)) hh
                refine ⟨_, hle, ?_, hsat, modLo hx⟩
                unfold Rel
                refine ⟨G, cap, Rho.set_same _ _ _, by simp, ?_⟩
                simpa using h1
              · cases h
          · cases h
        · cases h
      · cases h
    · cases h
  · cases h
end
end Go.Proofs.YtnclbmfbegbbnaaGreat.V
