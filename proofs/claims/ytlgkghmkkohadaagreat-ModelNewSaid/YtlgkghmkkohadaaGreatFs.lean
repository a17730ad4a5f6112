/-
  The keys of a map, sorted, as slices.Sorted hands back those of maps.Keys: the reckoned run's word for it holds; keys that are strings. Condition: the program has these functions and their callees.
-/
import Derived.Test.YtlgkghmkkohadaaGreatFb
import Derived.Test.YtlgkghmkkohadaaGreatFacts
import Derived.Shelf.SlIter.Sorted
import Derived.StringKeys
namespace Go.Proofs.YtlgkghmkkohadaaGreat.V
open Go.RowKit Go.Maps Go.Shelf Go.Sort Go.WideShapes

/-! ### What is reckoned -/
def keysS : List ME → Option (List (List Nat))
  | [] => some []
  | e :: r => match e.k, keysS r with
    | .s l, some m => match Nat.ble l.length 1000000 with
      | true => some (l :: m)
      | false => none
    | _, _ => none
def upE (clock : Nat) : Nat → List ME → Bool
  | _, [] => true
  | lo, e :: r => match Nat.ble lo e.born, Nat.blt e.born clock with
    | true, true => upE clock (e.born + 1) r
    | _, _ => false
def insS (x : List Nat) : List (List Nat) → List (List Nat)
  | [] => [x]
  | y :: r => match strLess x y with
    | true => x :: y :: r
    | false => y :: insS x r
def sortS : List (List Nat) → List (List Nat)
  | [] => []
  | x :: r => insS x (sortS r)
def lessAll (x : List Nat) : List (List Nat) → Bool
  | [] => true
  | y :: r => match strLess x y with
    | true => lessAll x r
    | false => false
def sortedS : List (List Nat) → Bool
  | [] => true
  | x :: r => match lessAll x r with
    | true => sortedS r
    | false => false
/-- The keys of a map, sorted. -/
def extSorted (fs fk el : Nat) : CallA := fun g args st => match Nat.beq g fs, args with
  | true, [.f k [.p b 0]] => match Nat.beq k fk, atH st.H b 0 1 with
    | true, some [.m mb] => match st.H.get mb with
      | some (.map es clock) => match keysS es with
        | some ks => match upE clock 0 es, sortedS (sortS ks), Nat.ble ks.length 1000000, sortS ks with
          | true, true, true, [] => some (.sl0, st)
          | true, true, true, x :: l => st.new (.own el 1 ((x :: l).map .s)) (.sl st.next 0 0 (l.length + 1) none)
          | _, _, _, _ => none
        | none => none
      | _ => none
    | _, _ => none
  | _, _ => none

/-! ### What it says -/
def bytesL (l : List Nat) : List UInt8 := l.map UInt8.ofNat
theorem ofNat_lt {a b : Nat} (ha : a < 256) (hb : b < 256) : UInt8.ofNat a < UInt8.ofNat b ↔ a < b := by
  rw [UInt8.lt_iff_toNat_lt, UInt8.toNat_ofNat', UInt8.toNat_ofNat', Nat.mod_eq_of_lt ha, Nat.mod_eq_of_lt hb]
theorem strLess_lt : ∀ {a b : List Nat}, (∀ x ∈ a, x < 256) → (∀ x ∈ b, x < 256) → strLess a b = true → bytesL a < bytesL b
  | _, [], _, _, h => by cases ‹List Nat› <;> simp [strLess] at h
  | [], _ :: _, _, _, _ => by simp [bytesL]
  | x :: a, y :: b, ha, hb, h => by
    have hx := ha x (by simp)
    have hy := hb y (by simp)
    simp only [strLess] at h
    simp only [bytesL, List.map_cons, List.cons_lt_cons_iff]
    split at h
    · rename_i h1
      exact Or.inl ((ofNat_lt hx hy).2 (Nat.le_of_ble_eq_true h1))
    · split at h
      · rename_i h2
        have h2 := Nat.eq_of_beq_eq_true h2
        subst h2
        exact Or.inr ⟨rfl, strLess_lt (fun z hz => ha z (List.mem_cons_of_mem _ hz)) (fun z hz => hb z (List.mem_cons_of_mem _ hz)) h⟩
      · cases h
theorem insS_perm (x : List Nat) : ∀ l : List (List Nat), (insS x l).Perm (x :: l)
  | [] => List.Perm.refl _
  | y :: r => by
    unfold insS
    split
    · exact List.Perm.refl _
    · exact ((insS_perm x r).cons y).trans (List.Perm.swap x y r)
theorem sortS_perm : ∀ l : List (List Nat), (sortS l).Perm l
  | [] => List.Perm.refl _
  | x :: r => (insS_perm x (sortS r)).trans ((sortS_perm r).cons x)
theorem lessAll_mem {x : List Nat} : ∀ {l : List (List Nat)}, lessAll x l = true → ∀ y ∈ l, strLess x y = true
  | [], _, y, hy => by cases hy
  | z :: l, h, y, hy => by
    unfold lessAll at h
    split at h
    · rename_i hz
      rcases List.mem_cons.1 hy with rfl | hy
      · exact hz
      · exact lessAll_mem h y hy
    · cases h
theorem sortedS_pair : ∀ {l : List (List Nat)}, (∀ k ∈ l, ∀ x ∈ k, x < 256) → sortedS l = true → (l.map bytesL).Pairwise (· < ·)
  | [], _, _ => by simp
  | x :: l, hl, h => by
    unfold sortedS at h
    split at h
    · rename_i hx
      simp only [List.map_cons, List.pairwise_cons]
      refine ⟨fun y hy => ?_, sortedS_pair (fun k hk => hl k (List.mem_cons_of_mem _ hk)) h⟩
      obtain ⟨z, hz, rfl⟩ := List.mem_map.1 hy
      exact strLess_lt (hl x (by simp)) (hl z (List.mem_cons_of_mem _ hz)) (lessAll_mem hx z hz)
    · cases h
theorem upE_spec [Sig] {r : Rho} {clock : Nat} : ∀ {es : List ME} {E : List MapEntry} {lo : Nat}, RelE r es E → upE clock lo es = true → (∀ x ∈ E, lo ≤ x.born ∧ x.born < clock) ∧ (E.map (·.born)).Nodup
  | [], E, _, hE, _ => by
    have hE : E = [] := hE
    subst hE
    simp
  | e :: es, E, lo, hE, h => by
    obtain ⟨k, v, M, rfl, _, _, hM⟩ := hE
    unfold upE at h
    split at h
    · rename_i h1 h2
      have h1 := Nat.le_of_ble_eq_true h1
      have h2 : e.born < clock := Nat.le_of_ble_eq_true h2
      obtain ⟨k1, k2⟩ := upE_spec hM h
      refine ⟨fun x hx => ?_, ?_⟩
      · rcases List.mem_cons.1 hx with rfl | hx
        · exact ⟨h1, h2⟩
        · have := k1 x hx; exact ⟨by omega, this.2⟩
      · simp only [List.map_cons, List.nodup_cons]
        refine ⟨fun hm => ?_, k2⟩
        obtain ⟨x, hx, hb⟩ := List.mem_map.1 hm
        have := (k1 x hx).1
        omega
    · cases h
theorem keysS_spec [Sig] {r : Rho} : ∀ {es : List ME} {E : List MapEntry} {ks : List (List Nat)}, RelE r es E → keysS es = some ks → E.map (·.key) = ks.map (fun k => str (bytesL k)) ∧ (∀ k ∈ ks, ∀ x ∈ k, x < 256) ∧ (∀ k ∈ ks, k.length ≤ 1000000)
  | [], E, _, hE, h => by
    have hE : E = [] := hE
    subst hE
    cases h
    simp
  | e :: es, E, _, hE, h => by
    obtain ⟨k, v, M, rfl, hk, _, hM⟩ := hE
    unfold keysS at h
    split at h
    · rename_i l m hl hm
      split at h
      · rename_i hle
        cases h
        obtain ⟨k1, k2, k3⟩ := keysS_spec hM hm
        rw [hl] at hk
        unfold Rel at hk
        refine ⟨?_, ?_, ?_⟩
        · simp only [List.map_cons, k1]
          rw [hk.1]
          rfl
        · intro z hz
          rcases List.mem_cons.1 hz with rfl | hz
          · exact hk.2
          · exact k2 z hz
        · intro z hz
          rcases List.mem_cons.1 hz with rfl | hz
          · exact Nat.le_of_ble_eq_true hle
          · exact k3 z hz
      · cases h
    · cases h

/-- How a value of the map reads: it is not looked at. -/
def noVal : Value → Option (DataW Unit × List MemPlace) := fun _ => some (.nil, [])

section
variable {P : Program} {ρ : Ren}
theorem sorted_map (L6 : SlLaysZ.n6 P ρ) (L10 : SlLaysZ.n10 P ρ) (hsort : ∀ m, AnyZ.SortsIn P ρ Fence.wide m) (e9 : ∀ args w, (callFunc (ρ.f 9) args).run P w = .ok (.enter (ρ.f 9) args) w)
    (Bm b nn : Nat) (D0 : DataW Unit) (w : World) (hBm : Bm < w.heap.size) (hm : w.cell? ⟨Bm, 0, none⟩ = some (.map (some b))) (hown : w.ownsMap P (ρ.t 26) noVal b nn D0)
    (hmax : Maps.size D0 ≤ maxLen) (hbytes : Maps.size D0 * 16 ≤ 140737488355328) :
    Ret P (ρ.f 6) #[.func (.func (ρ.f 10)) #[] #[.pointer (some ⟨Bm, 0, none⟩)]] w fun v w' => ∃ ss : List (List UInt8), ss.Perm (strKeys D0) ∧ w'.ownsRow w.heap.size (ρ.t 26) 1 v ss.length ((ss.mergeSort leB).map encStr) ∧ (v = .slice none 0 0 ↔ ss = []) ∧ Ext w w' := by
  have hseq : SeqGives Fence.wide 1 P (ρ.f 10) #[.pointer (some ⟨Bm, 0, none⟩)] encStr (fun ss => ss.Perm (strKeys D0)) (Maps.size D0) w :=
    AnyZ.keys_gives L10 Fence.wide 1 trivial rfl (Nat.le_refl _) Bm b nn D0 w hBm hm hown
  have hc := AnyZ.sorted_in L6 Fence.wide 4 trivial trivial trivial trivial rfl (by omega) (hsort _) e9 (ρ.f 10) #[.pointer (some ⟨Bm, 0, none⟩)] trivial (L10.f10.enters rfl) _ (Maps.size D0) hmax hbytes w hseq
  unfold Ret
  refine Calls.mono (callsIn_wide.1 hc) ?_
  rintro e w' ⟨v, ss, rfl, hS, hrow, hnil, hb⟩
  exact ⟨v, rfl, ss, hS, hrow, hnil, ⟨hb.os, hb.tape, hb.output, hb.size, fun k hk _ => hb.block k hk⟩⟩

theorem keyOf_strB {k : TypeId} (hk : P.underlying k = some .string) {l : List Nat} (h : l.length ≤ 1000000) : keyOf P k (str (bytesL l)) = some (.string (bytesL l)) := by
  have h2 : (bytesL l).length ≤ maxLen := by simp [bytesL, maxLen]; omega
  simp [keyOf, hk, mapKey, str, ByteArray.size, h2]

theorem rel_strs [Sig] {r : Rho} : ∀ {l : List (List Nat)}, (∀ k ∈ l, ∀ x ∈ k, x < 256) → RelL r (l.map .s) (l.map fun k => str (bytesL k))
  | [], _ => RelL.nil r
  | x :: l, h => RelL.cons (by unfold Rel; exact ⟨rfl, h x (by simp)⟩) (rel_strs fun k hk => h k (List.mem_cons_of_mem _ hk))

theorem strs_own [Sig] {r : Rho} {k : TypeId} (hk : P.underlying k = some .string) {es : List ME} {E : List MapEntry} {ks : List (List Nat)} {w : World} {B clock : Nat} (hE : RelE r es E) (hB : w.heap[B]? = some (.map E.toArray clock)) (hks : keysS es = some ks)
    (hup : upE clock 0 es = true) (hso : sortedS (sortS ks) = true) (hn : ks.length ≤ 1000000) :
    ∃ D : DataW Unit, w.ownsMap P k noVal B ks.length D ∧ Maps.size D = ks.length ∧ (strKeys D).Perm ((sortS ks).map bytesL) := by
  obtain ⟨hkeys, h256, hlen⟩ := keysS_spec hE hks
  obtain ⟨hb1, hb2⟩ := upE_spec hE hup
  have hElen : E.length = ks.length := by simpa using congrArg List.length hkeys
  have hpair : ((sortS ks).map bytesL).Pairwise (· < ·) := sortedS_pair (fun k hk => h256 k ((sortS_perm ks).mem_iff.1 hk)) hso
  have hnd1 : ((sortS ks).map bytesL).Nodup := hpair.imp fun h e => by subst e; exact List.lt_irrefl _ h
  have hnd2 : (ks.map bytesL).Nodup := ((sortS_perm ks).map bytesL).nodup_iff.1 hnd1
  have hnd3 : (E.map (·.key)).Nodup := by
    rw [hkeys]
    unfold List.Nodup at hnd2 ⊢
    rw [List.pairwise_map] at hnd2 ⊢
    exact hnd2.imp fun h e => h (by simpa [str] using e)
  have hread : ∀ x ∈ E, ∃ l ∈ ks, keyOf P k x.key = some (.string (bytesL l)) := fun x hx => by
    have : x.key ∈ E.map (·.key) := List.mem_map.2 ⟨x, hx, rfl⟩
    rw [hkeys] at this
    obtain ⟨l, hl, he⟩ := List.mem_map.1 this
    exact ⟨l, hl, by rw [← he]; exact keyOf_strB hk (hlen l hl)⟩
  have hperm := sorted_perm (E.map (WideElems.rg P k noVal))
  refine ⟨.map ((E.map (WideElems.rg P k noVal)).foldr DataW.insert []), ⟨E.toArray, clock, hB, ⟨by simp [hElen, maxLen]; omega, ⟨fun x hx => (hb1 x (by simpa using hx)).2, by simpa using hb2, by simpa using hnd3⟩, fun x hx => ?_⟩, by simp [hElen], by simp⟩, ?_, ?_⟩
  · obtain ⟨l, _, hl⟩ := hread x (by simpa using hx)
    exact ⟨_, by simp [WideElems.rd, hl, noVal]; rfl⟩
  · simp only [Maps.size]
    rw [hperm.length_eq]
    simp [hElen]
  · have h1 : (strKeys (.map ((E.map (WideElems.rg P k noVal)).foldr DataW.insert []))).Perm ((E.map (WideElems.rg P k noVal)).map fun p => Go.strOf p.1) := hperm.map _
    refine h1.trans ?_
    have h2 : ((E.map (WideElems.rg P k noVal)).map fun p => Go.strOf p.1) = ks.map bytesL := by
      have : ((E.map (WideElems.rg P k noVal)).map fun p => Go.strOf p.1) = (E.map (·.key)).map fun v => Go.strOf ((keyOf P k v).getD (.bool false)) := by
        simp only [List.map_map]
        refine List.map_congr_left fun x hx => ?_
        obtain ⟨l, _, hl⟩ := hread x hx
        simp [WideElems.rg, WideElems.rd, hl, noVal]
      rw [this, hkeys, List.map_map]
      refine List.map_congr_left fun l hl => ?_
      simp [keyOf_strB hk (hlen l hl), Go.strOf]
    rw [h2]
    exact ((sortS_perm ks).map bytesL).symm

theorem extSorted_ok [Sig] (L6 : SlLaysZ.n6 P ρ) (L10 : SlLaysZ.n10 P ρ) (hsort : ∀ m, AnyZ.SortsIn P ρ Fence.wide m) (e9 : ∀ args w, (callFunc (ρ.f 9) args).run P w = .ok (.enter (ρ.f 9) args) w) (lo : Nat) : CallOK P lo (extSorted (ρ.f 6) (ρ.f 10) (ρ.t 26)) := by
  intro g args st v st' h r w Args hArgs hs
  unfold extSorted at h
  split at h
  · rename_i k b hg
    have hg := Nat.eq_of_beq_eq_true hg
    subst hg
    obtain ⟨A, M, rfl, hA, hM⟩ := hArgs.of_cons
    have := hM.of_nil
    subst this
    unfold Rel at hA
    obtain ⟨Cs, rfl, hCs⟩ := hA
    obtain ⟨A, M, rfl, hA, hM⟩ := hCs.of_cons
    have := hM.of_nil
    subst this
    obtain ⟨B, K, hr, rfl⟩ := rel_p hA
    split at h
    · rename_i mb hk hat
      have hk := Nat.eq_of_beq_eq_true hk
      subst hk
      obtain ⟨_, L, hL, hAt, _⟩ := atH_sound hs hat hr
      obtain ⟨X, M, rfl, hX, hM⟩ := hL.of_cons
      have := hM.of_nil
      subst this
      unfold Rel at hX
      obtain ⟨B2, K2, hr2, rfl⟩ := hX
      have hcell : w.cell? ⟨B, 0, none⟩ = some (.map (some B2)) := hAt 0 _ rfl
      have hBlt : B < w.heap.size := block_lt_of_cell hcell
      split at h
      · rename_i es clock hmap
        split at h
        · rename_i ks hks
          obtain ⟨_, E, hE, hB⟩ := hs.here hmap hr2
          have main : ∀ (hup : upE clock 0 es = true) (hso : sortedS (sortS ks) = true) (hn : Nat.ble ks.length 1000000 = true),
              Ret P (ρ.f 6) #[.func (.func (ρ.f 10)) #[] #[.pointer (some ⟨B, 0, none⟩)]] w fun v w' => w'.ownsRow w.heap.size (ρ.t 26) 1 v (sortS ks).length ((sortS ks).map fun k => str (bytesL k)) ∧ (v = .slice none 0 0 ↔ sortS ks = []) ∧ Ext w w' := by
            intro hup hso hn
            have hn := Nat.le_of_ble_eq_true hn
            obtain ⟨D, hown, hsz, hpk⟩ := strs_own L6.t26 hE hB hks hup hso hn
            refine (sorted_map L6 L10 hsort e9 B B2 _ D w hBlt hcell hown (by rw [hsz]; simp [maxLen]; omega) (by rw [hsz]; omega)).mono ?_
            rintro v w' ⟨ss, hp, hrow, hnil, hx⟩
            have hp' := hp.trans hpk
            have hl : ss.length = (sortS ks).length := by simpa using hp'.length_eq
            obtain ⟨_, h256, _⟩ := keysS_spec hE hks
            have hpair : ((sortS ks).map bytesL).Pairwise (· < ·) := sortedS_pair (fun k hk => h256 k ((sortS_perm ks).mem_iff.1 hk)) hso
            have hms : ss.mergeSort leB = (sortS ks).map bytesL := by
              rw [mergeSort_of_perm hp']
              have tr : ∀ a b c : List UInt8, leB a b = true → leB b c = true → leB a c = true := fun a b c h1 h2 => by simp only [leB, decide_eq_true_eq] at *; exact List.le_trans h1 h2
              have to : ∀ a b : List UInt8, (leB a b || leB b a) = true := fun a b => by simp only [leB, Bool.or_eq_true, decide_eq_true_eq]; exact List.le_total a b
              refine List.Perm.eq_of_pairwise (le := fun a b => leB a b = true) (fun a b _ _ h1 h2 => ?_) (List.pairwise_mergeSort tr to _) (hpair.imp fun h => ?_) (List.mergeSort_perm _ leB)
              · simp only [leB, decide_eq_true_eq] at h1 h2
                exact List.le_antisymm h1 h2
              · simp only [leB, decide_eq_true_eq]
                exact List.le_of_lt h
            rw [hms, hl] at hrow
            refine ⟨by simpa [List.map_map, Function.comp_def, str, Go.Proofs.encStr] using hrow, hnil.trans ?_, hx⟩
            rw [← List.length_eq_zero_iff, hl, List.length_eq_zero_iff]
          split at h
          · rename_i hup hso hn hnil0
            cases h
            refine (main hup hso hn).mono ?_
            rintro v w' ⟨_, hnil, hx⟩
            have hv := hnil.2 hnil0
            subst hv
            exact ⟨r, Rho.le.refl r, by unfold Rel; rfl, hs.ext hx, modLo hx⟩
          · rename_i x l hup hso hn hcons
            refine (main hup hso hn).mono ?_
            rintro v' w' ⟨hrow, _, hx⟩
            rw [hcons] at hrow
            obtain ⟨_, h256, _⟩ := keysS_spec hE hks
            have h256' : ∀ k ∈ x :: l, ∀ z ∈ k, z < 256 := fun k hk => h256 k ((sortS_perm ks).mem_iff.1 (by rw [hcons]; exact hk))
            obtain ⟨_, hrow⟩ := hrow
            rcases hrow with ⟨_, h0⟩ | ⟨G, cap, cur, rfl, hG, hcur, h1, h2, h3, h4⟩
            · simp at h0
            · unfold ST.new at h
              split at h
              · rename_i hfree
                cases h
                have hcl : cur.toList = ((x :: l).map fun k => str (bytesL k)) ++ cur.toList.drop (l.length + 1) := by
                  have := List.take_append_drop (l.length + 1) cur.toList
                  rw [← this]
                  have h4' : cur.toList.take (l.length + 1) = ((x :: l).map fun k => str (bytesL k)) := by simpa using h4
                  rw [h4']
                  simp
                have hh : Holds (r.set st.next (G, cap)) w' G cap (.own (ρ.t 26) 1 ((x :: l).map .s)) := by
                  refine ⟨_, cur.toList.drop (l.length + 1), rel_strs h256', ?_, ?_, h2⟩
                  · rw [← hcl]; simpa using hcur
                  · rw [← hcl]; simpa using h3
                obtain ⟨hle, hsat⟩ := hs.new (S := fun _ => False) hfree hx (fun _ _ _ _ _ _ _ h => h) (fun _ h => h.elim) (Nat.le_trans hs.size hG) (fun c ac K hc hl hrc => by
                  obtain ⟨B', K', k1, _, k3⟩ := hs.row c ac hc
                  rw [hrc] at k1
                  cases k1
                  exact absurd (k3.lt hl) (by omega)) hh
                refine ⟨_, hle, ?_, hsat, modLo hx⟩
                unfold Rel
                refine ⟨G, cap, Rho.set_same _ _ _, by simp, ?_⟩
                simpa using h1
              · cases h
          · cases h
        · cases h
      · cases h
    · cases h
  · cases h
end
end Go.Proofs.YtlgkghmkkohadaaGreat.V
