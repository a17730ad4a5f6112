/-
  The keys of a map of at most one entry, as slices.Collect hands them back: the reckoned run's word for it holds. Condition: the program has these two functions and their callees.
-/
import Derived.Test.YtbjomeonjlialaaGreatEm
import Derived.Shelf.SlIterI.Collect
namespace Go.Proofs.YtbjomeonjlialaaGreat.V
open Go.RowKit Go.Maps Go.Shelf
section
variable {P : Program} {ρ : Ren}

theorem below_ext {w w' : World} (h : Below w.heap.size w w') : Ext w w' := ⟨h.os, h.tape, h.output, h.size, fun k hk _ => h.block k hk⟩

/-- How a value of the map reads: it is not looked at. -/
def anyVal : Value → Option (DataW Unit × List MemPlace) := fun _ => some (.nil, [])

theorem collect_map (L8 : SlLaysZI.n8 P ρ) (L10 : SlLaysZI.n10 P ρ) (Bm b nn : Nat) (D0 : DataW Unit) (w : World) (hBm : Bm < w.heap.size) (hm : w.cell? ⟨Bm, 0, none⟩ = some (.map (some b))) (hown : w.ownsMap P (ρ.t 26) anyVal b nn D0)
    (hmax : Maps.size D0 ≤ maxLen) (hbytes : Maps.size D0 * 8 ≤ 140737488355328) :
    Ret P (ρ.f 8) #[.func (.func (ρ.f 10)) #[] #[.pointer (some ⟨Bm, 0, none⟩)]] w fun v w' => ∃ ss : List Int, ss.Perm (intKeys D0) ∧ w'.ownsRow w.heap.size (ρ.t 26) 1 v ss.length (ss.map encZ) ∧ (v = .slice none 0 0 ↔ ss = []) ∧ Ext w w' := by
  have hseq : SeqGives Fence.wide 1 P (ρ.f 10) #[.pointer (some ⟨Bm, 0, none⟩)] encZ (fun ss => ss.Perm (intKeys D0)) (Maps.size D0) w :=
    AnyZI.keys_gives L10 Fence.wide 1 trivial rfl (Nat.le_refl _) Bm b nn D0 w hBm hm hown
  have hc := AnyZI.collect_in L8 Fence.wide 3 trivial trivial rfl (by omega) (ρ.f 10) #[.pointer (some ⟨Bm, 0, none⟩)] trivial (L10.f10.enters rfl) _ (Maps.size D0) hmax hbytes w hseq
  unfold Ret
  refine Calls.mono (callsIn_wide.1 hc) ?_
  rintro e w' ⟨v, ss, rfl, hS, hrow, hnil, hb⟩
  exact ⟨v, rfl, ss, hS, hrow, hnil, below_ext hb⟩

theorem extKeys_ok [Sig] (L8 : SlLaysZI.n8 P ρ) (L10 : SlLaysZI.n10 P ρ) (lo : Nat) : CallOK P lo (extKeys (ρ.f 8) (ρ.f 10) (ρ.t 26)) := by
  intro g args st v st' h r w Args hArgs hs
  unfold extKeys at h
  split at h
  · rename_i k b hg
    have hg := Nat.eq_of_beq_eq_true hg
    subst hg
    obtain ⟨A, M, rfl, hA, hM⟩ := hArgs.of_cons
    have := hM.of_nil
    subst this
    unfold Rel at hA
    obtain ⟨Cs, rfl, hCs⟩ := hA
    obtain ⟨A, M, rfl, hA, hM⟩ := hCs.of_cons
    have := hM.of_nil
    subst this
    obtain ⟨B, K, hr, rfl⟩ := rel_p hA
    split at h
    · rename_i mb hk hat
      have hk := Nat.eq_of_beq_eq_true hk
      subst hk
      obtain ⟨_, L, hL, hAt, _⟩ := atH_sound hs hat hr
      obtain ⟨X, M, rfl, hX, hM⟩ := hL.of_cons
      have := hM.of_nil
      subst this
      unfold Rel at hX
      obtain ⟨B2, K2, hr2, rfl⟩ := hX
      have hcell : w.cell? ⟨B, 0, none⟩ = some (.map (some B2)) := hAt 0 _ rfl
      have hBlt : B < w.heap.size := block_lt_of_cell hcell
      have u26 := L8.t26
      split at h
      · -- nothing
        rename_i clock hmap
        cases h
        obtain ⟨_, E, hE, hB⟩ := hs.here hmap hr2
        have hE : E = [] := hE
        subst hE
        have hown : w.ownsMap P (ρ.t 26) anyVal B2 0 (.map []) := ⟨_, _, hB, ⟨by simp, ⟨by simp, by simp, by simp⟩, by simp⟩, by simp, by simp⟩
        refine (collect_map L8 L10 B B2 0 _ w hBlt hcell hown (by simp [Maps.size]) (by simp [Maps.size])).mono ?_
        rintro v w' ⟨ss, hp, _, hnil, hx⟩
        have : ss = [] := by simpa [intKeys] using hp
        have hv := hnil.2 this
        subst hv
        exact ⟨r, Rho.le.refl r, by unfold Rel; rfl, hs.ext hx, modLo hx⟩
      · -- one entry
        rename_i n u born clock hmap
        split at h
        · rename_i hwf hborn
          obtain ⟨_, E, hE, hB⟩ := hs.here hmap hr2
          obtain ⟨ke, ve, M, rfl, hke, hve, hM⟩ := hE
          have hM : M = [] := hM
          subst hM
          unfold Rel at hke
          subst hke
          have hkey : keyOf P (ρ.t 26) (.int .i64 n) = some (.int .i64 n) := keyOf_int_mk u26 hwf
          have hborn : born < clock := Nat.le_of_ble_eq_true hborn
          have hown : w.ownsMap P (ρ.t 26) anyVal B2 1 (.map [(.int .i64 n, .nil)]) := by
            refine ⟨_, _, hB, ⟨by simp [maxLen], ⟨by simpa using hborn, by simp, by simp⟩, ?_⟩, by simp, ?_⟩
            · intro x hx
              simp at hx
              subst hx
              exact ⟨_, by simp [WideElems.rd, hkey, anyVal]; rfl⟩
            · simp [WideElems.rg, WideElems.rd, hkey, anyVal, DataW.insert]
          refine (collect_map L8 L10 B B2 1 _ w hBlt hcell hown (by simp [Maps.size, maxLen]) (by simp [Maps.size])).mono ?_
          rintro v' w' ⟨ss, hp, hrow, hnil, hx⟩
          have hss : ss = [n] := by simpa [intKeys, intOf] using hp
          subst hss
          obtain ⟨_, hrow⟩ := hrow
          rcases hrow with ⟨_, h0⟩ | ⟨G, cap, cur, rfl, hG, hcur, h1, h2, h3, h4⟩
          · simp at h0
          · unfold ST.new at h
            split at h
            · rename_i hfree
              cases h
              have hcl : cur.toList = [encZ n] ++ cur.toList.drop 1 := by
                have := List.take_append_drop 1 cur.toList
                rw [← this]
                have h4' : cur.toList.take 1 = [encZ n] := by simpa using h4
                rw [h4']
                simp
              have hh : Holds (r.set st.next (G, cap)) w' G cap (.own (ρ.t 26) 1 [.i .i64 n]) := by
                refine ⟨[encZ n], cur.toList.drop 1, RelL.cons (by unfold Rel; rfl) (RelL.nil _), ?_, ?_, h2⟩
                · rw [← hcl]; simpa using hcur
                · rw [← hcl]; simpa using h3
              obtain ⟨hle, hsat⟩ := hs.new (S := fun _ => False) hfree hx (fun _ _ _ _ _ _ _ h => h) (fun _ h => h.elim) (Nat.le_trans hs.size hG) (fun c ac K hc hl hrc => by
                obtain ⟨B', K', k1, _, k3⟩ := hs.row c ac hc
                rw [hrc] at k1
                cases k1
                exact absurd (k3.lt hl) (by omega)) hh
              refine ⟨_, hle, ?_, hsat, modLo hx⟩
              unfold Rel
              refine ⟨G, cap, Rho.set_same _ _ _, by simp, ?_⟩
              simpa using h1
            · cases h
        · cases h
      · cases h
    · cases h
  · cases h
end
end Go.Proofs.YtbjomeonjlialaaGreat.V
