/-
  The run of the other operations that only compute is right. No condition: these are rules over any program.
-/
import Derived.Test.YtfoabgljfikklaaGreatDoorWai
set_option linter.unusedVariables false
set_option linter.unusedSimpArgs false
namespace Go.Proofs.YtfoabgljfikklaaGreatDoor.V
section
variable {P : Program} {ops : Array Oper} {Q : Exit → Act → World → Prop} {S : World → Prop} {n : Nat}
variable {i : Nat} {p : Plan} {e : Env} {w : World} {k : Kd} {dst : Option Tmp} {ty : TypeId} {pos : String} {aft : Array Edge} {g : Option (Nat × Bool)} {r : Rho} {T : Tr AV}
theorem sliceB_ok {t el sz by_ : Nat} (h : sliceB P t = some (el, sz, by_)) : SlF P t el sz by_ := ⟨h⟩
theorem optNat_rel [Sig] (hE : EnvR r e T) {d m : Nat} {x : Option Operand} (h : optNat T d x = some m) : (x = none ∧ m = d) ∨ ∃ y k, x = some y ∧ ev e y = some (.int k m) := by
  unfold optNat at h
  split at h
  · cases h; exact .inl ⟨rfl, rfl⟩
  · rename_i y
    split at h
    · rename_i k m' hy
      cases h
      obtain ⟨A, h1, h2⟩ := av_rel hE hy
      rw [rel_i h2] at h1
      exact .inr ⟨y, k, rfl, h1⟩
    · cases h
theorem partsA_rel [Sig] (hE : EnvR r e T) : ∀ {l : List (Nat × Operand)} {pl : List (Nat × List AV)}, partsA T l = some pl →
    ∃ vs, l.mapM (fun x => (ev e x.2).map fun v => (x.1, v)) = some vs ∧ List.length vs = pl.length ∧ ∀ (j : Nat) x, pl[j]? = some x → ∃ V, vs[j]? = some (x.1, V) ∧ RelL r x.2 V.cells.toList
  | [], pl, h => by simp [partsA] at h; subst h; exact ⟨[], rfl, rfl, by simp⟩
  | (j, x) :: l, pl, h => by
    simp only [partsA] at h
    split at h
    · rename_i a m h1 h2
      cases h
      obtain ⟨A, k1, k2⟩ := av_rel hE h1
      obtain ⟨vs, k3, k4, k5⟩ := partsA_rel hE h2
      refine ⟨(j, A) :: vs, by simp [List.mapM_cons, k1, k3], by simp [k4], fun q y hq => ?_⟩
      cases q with
      | zero => simp at hq; subst hq; exact ⟨A, rfl, k2.cells⟩
      | succ q => exact k5 q y (by simpa using hq)
    · cases h
theorem fillA_rel [Sig] (place : Nat → Option (Nat × Nat)) : ∀ (pl : List (Nat × List AV)) (vs : List (Nat × Value)) {cells out : List AV} {L : List Value}, vs.length = pl.length → (∀ (j : Nat) x, pl[j]? = some x → ∃ V, vs[j]? = some (x.1, V) ∧ RelL r x.2 V.cells.toList) →
    RelL r cells L → fillA place cells pl = some out → ∃ O, fillL place L (vs.map fun x => (x.1, x.2.cells.toList)) = some O ∧ RelL r out O
  | [], vs, cells, out, L, hl, _, hc, h => by
    have : vs = [] := List.eq_nil_of_length_eq_zero hl
    subst this
    simp [fillA] at h
    subst h
    exact ⟨L, rfl, hc⟩
  | (j, l) :: pl, vs, cells, out, L, hl, hv, hc, h => by
    obtain ⟨V, h1, h2⟩ := hv 0 (j, l) rfl
    cases vs with
    | nil => cases h1
    | cons v vs =>
      simp at h1
      subst h1
      simp only [fillA] at h
      split at h
      · cases h
      · rename_i off size hp
        split at h
        · rename_i hb1 hb2
          simp only [List.map_cons, fillL, hp]
          rw [← h2.length, hb1, ← hc.length, hb2]
          dsimp only
          exact fillA_rel place pl vs (by simpa using hl) (fun q x hq => hv (q + 1) x (by simpa using hq)) (((hc.take off).app h2).app (hc.drop _)) h
        · cases h
theorem zeroA_rel [Sig] {t : Nat} {l : List AV} (h : zeroA P t = some l) : ∃ L, zeroB P t = some L ∧ RelL r l L := by
  unfold zeroA at h
  obtain ⟨L, h1, h2⟩ := Option.bind_eq_some_iff.1 h
  exact ⟨L, h1, avCs_rel h2⟩
theorem bnd [Sig] (hE : EnvR r e T) {lo hi : Option Operand} {l hh m cap : Nat} (hlo : optNat T 0 lo = some l) (hhi : optNat T m hi = some hh) (h1 : l ≤ hh) (h2 : hh ≤ m) (h3 : m ≤ cap) (w : World) :
    (Instr.sliceBounds true m cap (lo.map fun y => (ev e y).getD undef) (hi.map fun y => (ev e y).getD undef) none).run P w = .ok (l, hh, cap) w := by
  rcases optNat_rel hE hlo with ⟨rfl, rfl⟩ | ⟨y, kl, rfl, hy⟩
  · rcases optNat_rel hE hhi with ⟨rfl, rfl⟩ | ⟨z, kh, rfl, hz⟩
    · exact bounds_0 w
    · have := bounds_h (P := P) (len := m) (cap := cap) (kh := kh) (h := (hh : Int)) (Int.natCast_nonneg _) (by omega) w
      simpa [hz] using this
  · rcases optNat_rel hE hhi with ⟨rfl, rfl⟩ | ⟨z, kh, rfl, hz⟩
    · have := bounds_l (P := P) (len := hh) (cap := cap) (kl := kl) (l := (l : Int)) (Int.natCast_nonneg _) (by omega) w
      simpa [hy] using this
    · have := bounds_lh (P := P) (len := m) (cap := cap) (kl := kl) (kh := kh) (l := (l : Int)) (h := (hh : Int)) (Int.natCast_nonneg _) (by omega) (by omega) w
      simpa [hy, hz] using this
theorem bndC [Sig] (hE : EnvR r e T) {lo hi : Option Operand} {l hh m cap : Nat} (hlo : optNat T 0 lo = some l) (hhi : optNat T m hi = some hh) (h1 : l ≤ hh) (h2 : hh ≤ cap) (h3 : m ≤ cap) (w : World) :
    (Instr.sliceBounds true m cap (lo.map fun y => (ev e y).getD undef) (hi.map fun y => (ev e y).getD undef) none).run P w = .ok (l, hh, cap) w := by
  rcases optNat_rel hE hlo with ⟨rfl, rfl⟩ | ⟨y, kl, rfl, hy⟩
  · rcases optNat_rel hE hhi with ⟨rfl, rfl⟩ | ⟨z, kh, rfl, hz⟩
    · exact bounds_0 w
    · have := bounds_h (P := P) (len := m) (cap := cap) (kh := kh) (h := (hh : Int)) (Int.natCast_nonneg _) (by omega) w
      simpa [hz] using this
  · rcases optNat_rel hE hhi with ⟨rfl, rfl⟩ | ⟨z, kh, rfl, hz⟩
    · have := bounds_l (P := P) (len := hh) (cap := cap) (kl := kl) (l := (l : Int)) (Int.natCast_nonneg _) (by omega) w
      simpa [hy] using this
    · have := bounds_lh (P := P) (len := m) (cap := cap) (kl := kl) (kh := kh) (l := (l : Int)) (h := (hh : Int)) (Int.natCast_nonneg _) (by omega) (by omega) w
      simpa [hy, hz] using this
theorem bnd3 [Sig] (hE : EnvR r e T) {lo hi : Option Operand} {y : Operand} {l hh m mm cap : Nat} (hlo : optNat T 0 lo = some l) (hhi : optNat T m hi = some hh) (hhs : hi.isSome = true) (hmx : optNat T 0 (some y) = some mm) (h1 : l ≤ hh) (h2 : hh ≤ mm) (h3 : mm ≤ cap) (w : World) :
    (Instr.sliceBounds true m cap (lo.map fun y => (ev e y).getD undef) (hi.map fun y => (ev e y).getD undef) ((some y).map fun y => (ev e y).getD undef)).run P w = .ok (l, hh, mm) w := by
  rcases optNat_rel hE hmx with ⟨h, _⟩ | ⟨y', km, h, hy'⟩
  · cases h
  cases h
  rcases optNat_rel hE hhi with ⟨rfl, rfl⟩ | ⟨z, kh, rfl, hz⟩
  · cases hhs
  rcases optNat_rel hE hlo with ⟨rfl, rfl⟩ | ⟨x, kl, rfl, hx⟩
  · have := bounds_hm (P := P) (len := m) (cap := cap) (kh := kh) (km := km) (h := (hh : Int)) (m := (mm : Int)) (Int.natCast_nonneg _) (by omega) (by omega) w
    simpa [hz, hy'] using this
  · have := bounds_lhm (P := P) (len := m) (cap := cap) (kl := kl) (kh := kh) (km := km) (l := (l : Int)) (h := (hh : Int)) (m := (mm : Int)) (Int.natCast_nonneg _) (by omega) (by omega) (by omega) w
    simpa [hx, hz, hy'] using this
theorem bndS [Sig] (hE : EnvR r e T) {lo hi : Option Operand} {l hh m : Nat} (hlo : optNat T 0 lo = some l) (hhi : optNat T m hi = some hh) (h1 : l ≤ hh) (h2 : hh ≤ m) (w : World) :
    (Instr.sliceBounds false m m (lo.map fun y => (ev e y).getD undef) (hi.map fun y => (ev e y).getD undef) none).run P w = .ok (l, hh, m) w := by
  rcases optNat_rel hE hlo with ⟨rfl, rfl⟩ | ⟨y, kl, rfl, hy⟩
  · rcases optNat_rel hE hhi with ⟨rfl, rfl⟩ | ⟨z, kh, rfl, hz⟩
    · simp [Instr.sliceBounds]
    · have h3 : (hh : Int) ≤ m := by omega
      simp [Instr.sliceBounds, run_sliceBound, hz, h2]
  · rcases optNat_rel hE hhi with ⟨rfl, rfl⟩ | ⟨z, kh, rfl, hz⟩
    · simp [Instr.sliceBounds, run_sliceBound, hy, h1]
    · simp [Instr.sliceBounds, run_sliceBound, hy, hz, h1, h2]
theorem opt_isSome [Sig] (hE : EnvR r e T) {d m : Nat} {x : Option Operand} (h : optNat T d x = some m) : ∀ y, x = some y → (ev e y).isSome := by
  rintro y rfl
  rcases optNat_rel hE h with ⟨h, _⟩ | ⟨z, k, h, hz⟩
  · cases h
  · cases h; rw [hz]; rfl
theorem mk_ez [Sig] {b o x l m sz B K : Nat} {c : Option Nat} (h : r b = some (B, K)) (h1 : c.getD (K - x) = m - l) (hl : l ≤ m) : Rel r (.ez b o (l * sz) x c) (.slice (sliced' (some ⟨B, o, none⟩) l m sz) 0 (m - l)) := by
  unfold Rel
  refine ⟨B, K, h, ?_⟩
  rw [h1]
  unfold sliced'
  by_cases hm : m = l
  · simp [hm]
  · rw [if_neg hm, if_neg (by omega)]
    simp [add_none]
theorem evSlice_sound [Fr] [Sig] (hk : kOk k = true) (hE : EnvR r e T) {t : TypeId} {x : Operand} {lo hi mx : Option Operand} {v : AV} (h : evSlice P T t (av T x) lo hi mx = some v)
    (hw : wantedE ops e ⟨dst, .slice t x lo hi mx, ty, pos, aft, g⟩ = some true) (hd : fits n dst = true)
    (hq : ∀ A, Rel r v A → GX P ops Q S n p (e.put dst A) w) : GO P ops Q S n k i ⟨dst, .slice t x lo hi mx, ty, pos, aft, g⟩ p e w := by
  unfold evSlice at h
  split at h
  · rename_i b o x' m c hx
    obtain ⟨A, h1, h2⟩ := av_rel hE hx
    obtain ⟨B, K, hr, rfl, hcap⟩ := rel_sl h2
    split at h
    · rename_i el sz by_ l hh hs hlo hhi
      haveI := sliceB_ok hs
      have hevl := opt_isSome hE hlo
      have hevh := opt_isSome hE hhi
      split at h
      · rename_i hb1 hb2 hb3
        have hb1' := Nat.le_of_ble_eq_true hb1
        have hb2' := Nat.le_of_ble_eq_true hb2
        refine GO.sliceS hk (l := l) (h := hh) (m := c.getD (K - x')) hw h1 hd (bnd hE hlo hhi hb1' hb2' hcap) ⟨hevl, hevh, by simp⟩ (hq _ ?_)
        split at h
        · cases h
          have e1 : sliced' (some ⟨B, o, none⟩) 0 (c.getD (K - x')) sz = some ⟨B, o, none⟩ := by unfold sliced'; split <;> simp [add_none]
          rw [e1, Nat.sub_zero, Nat.sub_zero]
          exact mk_sl hr (by omega)
        · cases h
          rename_i l' hbe
          have hhl : hh = l' + 1 := Nat.eq_of_beq_eq_true hbe
          subst hhl
          rw [Nat.sub_self]
          exact mk_ez hr (by cases c <;> simp; omega) (by omega)
        · cases h
          rename_i l' hbe
          have hhl : hh ≠ l' + 1 := Nat.ne_of_beq_eq_false hbe
          have e1 : sliced' (some ⟨B, o, none⟩) (l' + 1) (c.getD (K - x')) sz = some ⟨B, o + (l' + 1) * sz, none⟩ := by unfold sliced'; rw [if_neg (by omega)]; simp [add_none]
          rw [e1]
          have e2 : c.getD (K - x') - (l' + 1) = (c.map (· - (l' + 1))).getD (K - (x' + (l' + 1))) := by cases c <;> simp; omega
          rw [e2]
          exact mk_sl hr (by rw [← e2]; omega)
      · rename_i y hb1 hb2 hb3
        have hb1' := Nat.le_of_ble_eq_true hb1
        have hb2' := Nat.le_of_ble_eq_true hb2
        split at h
        · rename_i mm z hmx
          split at h
          · rename_i hb4 hb5
            have hb4' := Nat.le_of_ble_eq_true hb4
            have hb5' := Nat.le_of_ble_eq_true hb5
            refine GO.sliceS hk (l := l) (h := hh) (m := mm) hw h1 hd (bnd3 hE hlo hhi rfl hmx hb1' hb4' (by omega)) ⟨hevl, hevh, opt_isSome hE hmx⟩ (hq _ ?_)
            split at h
            · cases h
              have e1 : sliced' (some ⟨B, o, none⟩) 0 mm sz = some ⟨B, o, none⟩ := by unfold sliced'; split <;> simp [add_none]
              rw [e1, Nat.sub_zero, Nat.sub_zero]
              exact mk_sl (c := some mm) hr hb4'
            · cases h
              rename_i l' hbe
              have hhl : hh = l' + 1 := Nat.eq_of_beq_eq_true hbe
              subst hhl
              rw [Nat.sub_self]
              exact mk_ez (c := some (mm - (l' + 1))) hr (by simp) (by omega)
            · cases h
              rename_i l' hbe
              have hhl : hh ≠ l' + 1 := Nat.ne_of_beq_eq_false hbe
              have e1 : sliced' (some ⟨B, o, none⟩) (l' + 1) mm sz = some ⟨B, o + (l' + 1) * sz, none⟩ := by unfold sliced'; rw [if_neg (by omega)]; simp [add_none]
              rw [e1]
              exact mk_sl (c := some (mm - (l' + 1))) hr (by simp; omega)
          · cases h
        · cases h
      · cases h
    · cases h
  · rename_i hx
    obtain ⟨A, h1, h2⟩ := av_rel hE hx
    rw [rel_sl0 h2] at h1
    split at h
    · rename_i x1 hs hlo hhi
      cases h
      obtain ⟨el, sz, by_⟩ := x1
      haveI := sliceB_ok hs
      refine GO.sliceS hk (l := 0) (h := 0) (m := 0) hw h1 hd (bnd hE hlo hhi (Nat.le_refl _) (Nat.le_refl _) (Nat.le_refl _)) ⟨opt_isSome hE hlo, opt_isSome hE hhi, by simp⟩ (hq _ ?_)
      exact mk_sl0
    · cases h
  · rename_i b o d x' c hx
    obtain ⟨A, h1, h2⟩ := av_rel hE hx
    obtain ⟨B, K, hr, rfl⟩ := rel_ez h2
    split at h
    · rename_i x1 hs hlo hhi
      cases h
      obtain ⟨el, sz, by_⟩ := x1
      haveI := sliceB_ok hs
      refine GO.sliceS hk (l := 0) (h := 0) (m := c.getD (K - x')) hw h1 hd (bnd hE hlo hhi (Nat.le_refl _) (Nat.le_refl _) (Nat.zero_le _)) ⟨opt_isSome hE hlo, opt_isSome hE hhi, by simp⟩ (hq _ ?_)
      have e1 : sliced' (some ⟨B, if c.getD (K - x') = 0 then o else o + d, none⟩) 0 (c.getD (K - x')) sz = some ⟨B, if c.getD (K - x') = 0 then o else o + d, none⟩ := by unfold sliced'; split <;> simp [add_none]
      rw [e1]
      exact h2
    · rename_i x1 y hs hlo hhi
      obtain ⟨el, sz, by_⟩ := x1
      haveI := sliceB_ok hs
      split at h
      · rename_i z hmx
        cases h
        refine GO.sliceS hk (l := 0) (h := 0) (m := 0) hw h1 hd (bnd3 hE hlo hhi rfl hmx (Nat.le_refl _) (Nat.le_refl _) (Nat.zero_le _)) ⟨opt_isSome hE hlo, opt_isSome hE hhi, opt_isSome hE hmx⟩ (hq _ ?_)
        unfold Rel sliced'
        exact ⟨_, _, rfl⟩
      · cases h
    · cases h
  · rename_i hx
    obtain ⟨A, h1, h2⟩ := av_rel hE hx
    obtain ⟨ad, c, rfl⟩ := rel_se h2
    split at h
    · rename_i x1 hs hlo hhi
      cases h
      obtain ⟨el, sz, by_⟩ := x1
      haveI := sliceB_ok hs
      refine GO.sliceS hk (l := 0) (h := 0) (m := c) hw h1 hd (bnd hE hlo hhi (Nat.le_refl _) (Nat.le_refl _) (Nat.zero_le _)) ⟨opt_isSome hE hlo, opt_isSome hE hhi, by simp⟩ (hq _ ?_)
      unfold Rel sliced'
      split
      · exact ⟨_, _, rfl⟩
      · exact ⟨_, _, rfl⟩
    · rename_i x1 y hs hlo hhi
      obtain ⟨el, sz, by_⟩ := x1
      haveI := sliceB_ok hs
      split at h
      · rename_i z hmx
        cases h
        refine GO.sliceS hk (l := 0) (h := 0) (m := 0) hw h1 hd (bnd3 hE hlo hhi rfl hmx (Nat.le_refl _) (Nat.le_refl _) (Nat.zero_le _)) ⟨opt_isSome hE hlo, opt_isSome hE hhi, opt_isSome hE hmx⟩ (hq _ ?_)
        unfold Rel sliced'
        exact ⟨_, _, rfl⟩
      · cases h
    · cases h
  · rename_i l hx
    obtain ⟨A, h1, h2⟩ := av_rel hE hx
    have h3 := rel_s h2
    rw [h3.1] at h1
    split at h
    · rename_i a' hh hlo hhi hu
      split at h
      · rename_i hb1 hb2
        have hb1' := Nat.le_of_ble_eq_true hb1
        have hb2' := Nat.le_of_ble_eq_true hb2
        cases h
        haveI : UnF P t .string := ⟨hu⟩
        have hsz : (⟨(l.map UInt8.ofNat).toArray⟩ : ByteArray).size = l.length := by simp [ByteArray.size]
        refine GO.sliceStr hk (l := a') (h := hh) hw h1 hd ?_ ⟨opt_isSome hE hlo, opt_isSome hE hhi⟩ (hq _ ?_)
        · rw [hsz]; exact bndS hE hlo hhi hb1' hb2'
        · have e1 : (⟨(l.map UInt8.ofNat).toArray⟩ : ByteArray).extract a' hh = ⟨(((l.drop a').take (hh - a')).map UInt8.ofNat).toArray⟩ := by
            apply ByteArray.ext
            simp [List.extract_eq_take_drop, List.map_take, List.map_drop]
          rw [e1]
          exact mk_s (fun y hy => h3.2 y (List.mem_of_mem_drop (List.mem_of_mem_take hy)))
      · cases h
    · cases h
  · cases h
theorem evPure1_sound [Fr] [Sig] (hk : kOk k = true) (hE : EnvR r e T) {op : Op} {v : AV} (h : evPure1 P T op = some v)
    (hw : wantedE ops e ⟨dst, op, ty, pos, aft, g⟩ = some true) (hd : fits n dst = true)
    (hq : ∀ A, Rel r v A → GX P ops Q S n p (e.put dst A) w) : GO P ops Q S n k i ⟨dst, op, ty, pos, aft, g⟩ p e w := by
  unfold evPure1 at h
  split at h
  · obtain ⟨A, h1, h2⟩ := av_rel hE h; exact GO.move hk hw h1 hd (hq A h2)
  · obtain ⟨A, h1, h2⟩ := av_rel hE h; exact GO.assign hk hw h1 hd (hq A h2)
  · split at h
    · rename_i hc
      obtain ⟨C, hc1, hc2⟩ := av_rel hE hc
      rw [rel_b hc2] at hc1
      obtain ⟨A, h1, h2⟩ := av_rel hE h
      exact GO.pickT hk hw hc1 h1 hd (hq A h2)
    · rename_i hc
      obtain ⟨C, hc1, hc2⟩ := av_rel hE hc
      rw [rel_b hc2] at hc1
      obtain ⟨A, h1, h2⟩ := av_rel hE h
      exact GO.pickF hk hw hc1 h1 hd (hq A h2)
    · cases h
  · split at h
    · rename_i hx
      cases h
      obtain ⟨A, h1, h2⟩ := av_rel hE hx
      obtain ⟨B, K, _, rfl⟩ := rel_p h2
      exact GO.nilCheck hk hw h1 hd (hq _ h2)
    · rename_i hx
      cases h
      obtain ⟨A, h1, h2⟩ := av_rel hE hx
      obtain ⟨Cs, rfl, _⟩ := rel_f h2
      exact GO.nilCheckF hk hw h1 hd (hq _ h2)
    · cases h
  · split at h
    · rename_i b o off size agg hx hf
      split at h
      · rename_i hz
        cases h
        obtain ⟨A, h1, h2⟩ := av_rel hE hx
        obtain ⟨B, K, h3, rfl⟩ := rel_p h2
        haveI : FdF P _ _ off size agg := ⟨hf⟩
        exact GO.fieldAddr hk hw h1 hz hd (hq _ (mk_p h3))
      · cases h
    · cases h
  · split at h
    · rename_i l off size agg hx hf
      obtain ⟨A, h1, h2⟩ := av_rel hE hx
      obtain ⟨L, rfl, h3⟩ := rel_g h2
      split at h
      · rename_i part hp
        obtain ⟨k1, k2, k3⟩ := cellsAt_rel h3 hp
        split at h
        · cases h
          haveI : FdF P _ _ off size true := ⟨hf⟩
          exact GO.fieldN hk hw h1 rfl hd (hq _ (mk_g k1))
        · split at h
          · rename_i u
            cases h
            have hs1 : size = 1 := by simpa using k2.symm
            subst hs1
            haveI : FdF P _ _ off 1 false := ⟨hf⟩
            obtain ⟨A', M, e1, e2, e3⟩ := k1.of_cons
            have hg : L[off]? = some A' := by
              have := congrArg (fun (l : List Value) => l[0]?) e1
              simpa [List.getElem?_take, List.getElem?_drop] using this
            exact GO.field1 hk hw h1 hg hd (hq _ e2)
          · cases h
      · cases h
    · cases h
  · split at h
    · rename_i b o x m c ki j hx hy
      split at h
      · rename_i el size by_ hs hlt
        cases h
        obtain ⟨A, h1, h2⟩ := av_rel hE hx
        obtain ⟨B, K, h3, rfl, _⟩ := rel_sl h2
        obtain ⟨A2, h4, h5⟩ := av_rel hE hy
        rw [rel_i h5] at h4
        haveI := sliceB_ok hs
        have hlt' : j < m := by have := hlt; simp [Nat.blt] at this; omega
        exact GO.indexAddr hk hw h1 h4 (Int.natCast_nonneg j) (by simpa using hlt') hd (hq _ (mk_p h3))
      · cases h
    · cases h
  · split at h
    · rename_i l ki j hu hx hy
      split at h
      · rename_i c hc
        cases h
        obtain ⟨A, h1, h2⟩ := av_rel hE hx
        obtain ⟨rfl, hl⟩ := rel_s h2
        obtain ⟨A2, h4, h5⟩ := av_rel hE hy
        rw [rel_i h5] at h4
        haveI : UnF P _ .string := ⟨hu⟩
        have hcl := hl c (List.mem_of_getElem? hc)
        refine GO.indexStr (u := UInt8.ofNat c) hk hw h1 h4 (Int.natCast_nonneg j) (by simp [hc]) hd (hq _ ?_)
        have : (UInt8.ofNat c).toNat = c := by rw [UInt8.toNat_ofNat']; exact Nat.mod_eq_of_lt hcl
        rw [this]
        exact mk_i _ _
      · cases h
    · cases h
  · split at h
    · rename_i a b hx hy
      exact evBin_sound hk hE hx hy h hw hd hq
    · cases h
  · split at h
    · rename_i z hx
      cases h
      obtain ⟨A, h1, h2⟩ := av_rel hE hx
      rw [rel_b h2] at h1
      exact GO.not hk hw h1 hd (hq _ (mk_b _))
    · cases h
  · -- conversions
    split at h
    · rename_i ki x hx
      split at h
      · rename_i sd kd hs hu
        cases h
        obtain ⟨A, h1, h2⟩ := av_rel hE hx
        rw [rel_i h2] at h1
        haveI : UnF P _ sd := ⟨hs⟩
        haveI : UnF P _ (.int kd) := ⟨hu⟩
        exact GO.conv hk hw h1 hd rfl (hq _ (mk_i _ _))
      · cases h
    · rename_i l hx
      split at h
      · rename_i hs hu
        cases h
        obtain ⟨A, h1, h2⟩ := av_rel hE hx
        have h3 := rel_s h2
        rw [h3.1] at h1
        haveI : UnF P _ .string := ⟨hs⟩
        refine GO.convStr (src := _) (dT := _) hk (hs := ⟨hs⟩) (hu := ⟨hu⟩) hw h1 hd (hq _ (mk_s h3.2))
      · cases h
    · cases h
  · -- a part of a tuple
    split at h
    · rename_i l hx
      obtain ⟨A, h1, h2⟩ := av_rel hE hx
      obtain ⟨L, rfl, h3⟩ := rel_t h2
      obtain ⟨B, h4, h5⟩ := h3.get _ h
      exact GO.extract hk hw h1 h4 hd (hq _ h5)
    · cases h
  · exact evSlice_sound hk hE h hw hd hq
  · -- a struct
    split at h
    · rename_i pl hp
      obtain ⟨vs, h1, h2, h3⟩ := partsA_rel hE hp
      unfold buildA at h
      split at h
      · rename_i fs z hu hz hall
        obtain ⟨Z, hz1, hz2⟩ := zeroA_rel (r := r) hz
        split at h
        · rename_i out hf
          cases h
          obtain ⟨O, hO1, hO2⟩ := fillA_rel _ pl vs h2 h3 hz2 hf
          refine GO.build (out := O) hk hall ?_ hw h1 rfl hd (hq _ (mk_g hO2))
          unfold buildB
          rw [hu, hz1]
          exact hO1
        · cases h
      · cases h
    · cases h
  · -- a closure
    split at h
    · rename_i cs hf hc
      cases h
      obtain ⟨L, h1, h2⟩ := avs_rel hE hc
      have := GO.makeFunc (S := S) (p := p) (w := w) (Q := Q) (i := i) hk hw (fs := []) (by rw [hf]; rfl) h1 hd (hq _ (mk_f h2))
      exact this
    · cases h
  · -- built in
    rename_i c
    obtain ⟨callee, args, ts⟩ := c
    dsimp only at h
    split at h
    · rename_i _ x harg
      have harg' : args = #[x] := Array.toList_inj.1 (by simpa using harg)
      subst harg'
      split at h
      · rename_i _ t hts
        have hts' : ts = #[t] := Array.toList_inj.1 (by simpa using hts)
        subst hts'
        split at h
        · rename_i el b o x' m c hu hx
          cases h
          obtain ⟨A, h1, h2⟩ := av_rel hE hx
          obtain ⟨B, K, _, rfl, _⟩ := rel_sl h2
          haveI : UnF P t (.slice el) := ⟨hu⟩
          exact GO.lenSlice hk hw h1 hd (hq _ (mk_i _ _))
        · rename_i el hu hx
          cases h
          obtain ⟨A, h1, h2⟩ := av_rel hE hx
          rw [rel_sl0 h2] at h1
          haveI : UnF P t (.slice el) := ⟨hu⟩
          exact GO.lenSlice hk hw h1 hd (hq _ (mk_i _ _))
        · rename_i el hu hx
          cases h
          obtain ⟨A, h1, h2⟩ := av_rel hE hx
          obtain ⟨ad, cc, rfl⟩ := rel_se h2
          haveI : UnF P t (.slice el) := ⟨hu⟩
          exact GO.lenSlice hk hw h1 hd (hq _ (mk_i _ _))
        · rename_i el b o d x' c hu hx
          cases h
          obtain ⟨A, h1, h2⟩ := av_rel hE hx
          obtain ⟨B, K, _, rfl⟩ := rel_ez h2
          haveI : UnF P t (.slice el) := ⟨hu⟩
          exact GO.lenSlice hk hw h1 hd (hq _ (mk_i _ _))
        · rename_i l hu hx
          cases h
          obtain ⟨A, h1, h2⟩ := av_rel hE hx
          have h3 := rel_s h2
          rw [h3.1] at h1
          haveI : UnF P t .string := ⟨hu⟩
          refine GO.lenStr hk hw h1 hd (hq _ ?_)
          have : ((⟨(l.map UInt8.ofNat).toArray⟩ : ByteArray).size : Int) = Int.ofNat l.length := by simp [ByteArray.size]
          rw [this]
          exact mk_i _ _
        · cases h
      · cases h
    · rename_i _ x y harg
      have harg' : args = #[x, y] := Array.toList_inj.1 (by simpa using harg)
      subst harg'
      split at h
      · rename_i ki a ki2 b hx hy
        split at h
        · rename_i hke
          have := kindEq_eq hke
          subst this
          cases h
          obtain ⟨A, h1, h2⟩ := av_rel hE hx
          rw [rel_i h2] at h1
          obtain ⟨B, h3, h4⟩ := av_rel hE hy
          rw [rel_i h4] at h3
          exact GO.min2 hk hw h1 h3 hd rfl (hq _ (mk_i _ _))
        · cases h
      · cases h
    · rename_i _ x y harg
      have harg' : args = #[x, y] := Array.toList_inj.1 (by simpa using harg)
      subst harg'
      split at h
      · rename_i ki a ki2 b hx hy
        split at h
        · rename_i hke
          have := kindEq_eq hke
          subst this
          cases h
          obtain ⟨A, h1, h2⟩ := av_rel hE hx
          rw [rel_i h2] at h1
          obtain ⟨B, h3, h4⟩ := av_rel hE hy
          rw [rel_i h4] at h3
          exact GO.max2 hk hw h1 h3 hd rfl (hq _ (mk_i _ _))
        · cases h
      · cases h
    · cases h
  · cases h
theorem GO.cmp [Fr] (hk : kOk k = true) {op : BinOp} {t t2 : TypeId} {x y : Operand} {ki : IntKind} {a b : Int} {z : Bool} (hc : cmpI op a b = some z) (hw : wantedE ops e ⟨dst, .binOp op t x y t2, ty, pos, aft, g⟩ = some true)
    (hx : ev e x = some (.int ki a)) (hy : ev e y = some (.int ki b)) (hd : fits n dst = true) (h : GX P ops Q S n p (e.put dst (.bool z)) w) : GO P ops Q S n k i ⟨dst, .binOp op t x y t2, ty, pos, aft, g⟩ p e w := by
  cases op <;> simp only [cmpI, Option.some.injEq, reduceCtorEq] at hc
  · subst hc; exact GO.eql hk hw hx hy hd h
  · subst hc; exact GO.neq hk hw hx hy hd h
  · subst hc; exact GO.lss hk hw hx hy hd h
  · subst hc; exact GO.leq hk hw hx hy hd h
  · subst hc; exact GO.gtr hk hw hx hy hd h
  · subst hc; exact GO.geq hk hw hx hy hd h
theorem evFact_sound [Fr] [Sig] (hk : kOk k = true) (hE : EnvR r e T) {op : BinOp} {t t2 : TypeId} {x y : Operand} {a b v : AV} (hx : av T x = some a) (hy : av T y = some b) (h : evFact op a b = some v)
    (hw : wantedE ops e ⟨dst, .binOp op t x y t2, ty, pos, aft, g⟩ = some true) (hd : fits n dst = true)
    (hq : ∀ A, Rel r v A → GX P ops Q S n p (e.put dst A) w) : GO P ops Q S n k i ⟨dst, .binOp op t x y t2, ty, pos, aft, g⟩ p e w := by
  obtain ⟨A, hx1, hx2⟩ := av_rel hE hx
  obtain ⟨B, hy1, hy2⟩ := av_rel hE hy
  unfold evFact at h
  split at h
  · split at h
    · rename_i b hke hf
      have := kindEq_eq hke
      subst this
      cases h
      obtain ⟨m, rfl, _, hfs⟩ := rel_oi hx2
      rw [rel_i hy2] at hy1
      exact GO.cmp hk (hfs _ (cmpFind_spec hf)) hw hx1 hy1 hd (hq _ (mk_b _))
    · cases h
  · split at h
    · rename_i b hf
      cases h
      unfold Rel at hx2
      obtain ⟨l, _, rfl, hfs⟩ := hx2
      rw [rel_i hy2] at hy1
      exact GO.cmp hk (hfs _ (cmpFind_spec hf)) hw hx1 hy1 hd (hq _ (mk_b _))
    · cases h
  · split at h
    · rename_i hij
      have hij := Nat.eq_of_beq_eq_true hij
      subst hij
      cases h
      obtain ⟨m, rfl, hv, _⟩ := rel_oi hx2
      rw [(rel_oi' hy2).trans hv.symm] at hy1
      refine GO.eql hk hw hx1 hy1 hd ?_
      rw [decide_eq_true rfl]
      exact hq _ (mk_b _)
    · rename_i hij
      have hij := Nat.eq_of_beq_eq_true hij
      subst hij
      cases h
      obtain ⟨m, rfl, hv, _⟩ := rel_oi hx2
      rw [(rel_oi' hy2).trans hv.symm] at hy1
      refine GO.neq hk hw hx1 hy1 hd ?_
      rw [decide_eq_false (fun h => h rfl)]
      exact hq _ (mk_b _)
    · cases h
  · split at h
    · rename_i hij
      have hij := Nat.eq_of_beq_eq_true hij
      subst hij
      cases h
      obtain ⟨l, rfl, hv, _⟩ := rel_os hx2
      rw [(rel_os' hy2).trans hv.symm] at hy1
      refine GO.strEql hk hw hx1 hy1 hd ?_
      rw [decide_eq_true rfl]
      exact hq _ (mk_b _)
    · rename_i hij
      have hij := Nat.eq_of_beq_eq_true hij
      subst hij
      cases h
      obtain ⟨l, rfl, hv, _⟩ := rel_os hx2
      rw [(rel_os' hy2).trans hv.symm] at hy1
      refine GO.strNeq hk hw hx1 hy1 hd ?_
      rw [decide_eq_false (fun h => h rfl)]
      exact hq _ (mk_b _)
    · cases h
  · split at h
    · rename_i b hf
      cases h
      obtain ⟨l, rfl, _, hfs⟩ := rel_os hx2
      obtain ⟨rfl, _⟩ := rel_s hy2
      have h1 := hfs _ (cmpFind_spec hf)
      simp only [cmpI, Option.some.injEq] at h1
      refine GO.strEql hk hw hx1 hy1 hd ?_
      rw [decide_eq_decide.2 (emptyB l), h1]
      exact hq _ (mk_b _)
    · rename_i b hf
      cases h
      obtain ⟨l, rfl, _, hfs⟩ := rel_os hx2
      obtain ⟨rfl, _⟩ := rel_s hy2
      have h1 := hfs _ (cmpFind_spec hf)
      simp only [cmpI, Option.some.injEq] at h1
      refine GO.strNeq hk hw hx1 hy1 hd ?_
      rw [decide_eq_decide.2 (not_congr (emptyB l)), decide_not, h1]
      exact hq _ (mk_b _)
    · cases h
  · cases h
theorem evPure2_sound [Fr] [Sig] (hk : kOk k = true) (hE : EnvR r e T) {op : Op} {v : AV} (h : evPure2 P T op = some v)
    (hw : wantedE ops e ⟨dst, op, ty, pos, aft, g⟩ = some true) (hd : fits n dst = true)
    (hq : ∀ A, Rel r v A → GX P ops Q S n p (e.put dst A) w) : GO P ops Q S n k i ⟨dst, op, ty, pos, aft, g⟩ p e w := by
  have done : ∀ A, Rel r v A → (∀ a, Knows a e n → ∀ w, (execOp a.eval ⟨dst, op, ty, pos, aft, g⟩).run P w = .ok (.value A) w) → GO P ops Q S n k i ⟨dst, op, ty, pos, aft, g⟩ p e w :=
    fun A hA hv => GO.val (kOk_or hk) hw hd hv (hq A hA)
  unfold evPure2 at h
  split at h
  · split at h
    · rename_i len el b o kk j hu hx hi
      split at h
      · rename_i agg s ht hlt
        cases h
        obtain ⟨A, h1, h2⟩ := av_rel hE hx
        obtain ⟨B, K, h3, rfl⟩ := rel_p h2
        obtain ⟨I, h4, h5⟩ := av_rel hE hi
        rw [rel_i h5] at h4
        have hlt' : j < len := Nat.le_of_ble_eq_true hlt
        have hf : TyF P el agg s := ⟨ht⟩
        refine done _ (mk_p h3) fun a ha w => ?_
        have c1 : (0 : Int) ≤ Int.ofNat j ∧ Int.ofNat j < (len : Int) := ⟨Int.natCast_nonneg j, by simpa using hlt'⟩
        simp only [execOp, ev_eq ha h1, ev_eq ha h4, Instr.indexAt, asIntOf, Sem.run_bind, Sem.run_pure, Result.andThen_ok, run_underlying hu, Instr.sureAddr]
        rw [if_pos c1]
        simp [hf.sizeOf, add_none]
      · cases h
    · cases h
  · split at h
    · rename_i len el l kk j hu hx hi
      split at h
      · rename_i agg s ht hlt
        split at h
        · rename_i pt hp
          obtain ⟨A, h1, h2⟩ := av_rel hE hx
          obtain ⟨L, rfl, h3⟩ := rel_g h2
          obtain ⟨I, h4, h5⟩ := av_rel hE hi
          rw [rel_i h5] at h4
          have hlt' : j < len := Nat.le_of_ble_eq_true hlt
          have hf : TyF P el agg s := ⟨ht⟩
          obtain ⟨V, hV, hrun⟩ := part_run ht h3 hp h
          refine done V hV fun a ha w => ?_
          have c1 : (0 : Int) ≤ Int.ofNat j ∧ Int.ofNat j < (len : Int) := ⟨Int.natCast_nonneg j, by simpa using hlt'⟩
          simp only [execOp, ev_eq ha h1, ev_eq ha h4, Instr.index, asIntOf, Sem.run_bind, Sem.run_pure, Result.andThen_ok, run_underlying hu]
          rw [if_pos c1]
          have hj : (Int.ofNat j).toNat = j := rfl
          simp [hf.sizeOf, hrun]
        · cases h
      · cases h
    · cases h
  · split at h
    · rename_i pl len el hp hu
      split at h
      · rename_i z agg s hz ht
        split at h
        · rename_i out hf
          cases h
          obtain ⟨vs, h1, h2, h3⟩ := partsA_rel hE hp
          obtain ⟨Z, hz1, hz2⟩ := zeroA_rel (r := r) hz
          obtain ⟨O, hO1, hO2⟩ := fillA_rel _ pl vs h2 h3 hz2 hf
          refine done _ (mk_g hO2) fun a ha w => ?_
          obtain ⟨z0, hz3, hz4⟩ := ZeF.zero (P := P) ⟨hz1⟩ w
          have hty : TyF P el agg s := ⟨ht⟩
          have hparts := evParts ha _ vs h1
          rw [← hz4] at hO1
          have hff := fill_eq _ vs _ z0.cells O rfl hO1
          simp only [execOp, Instr.build, Sem.run_bind, hz3, Result.andThen_ok, run_underlying hu, hty.sizeOf, Array.toList_map]
          simp only [hparts, hff]
          simp
        · cases h
      · cases h
    · cases h
  · split at h
    · rename_i m el b o hu hx
      split at h
      · rename_i l hh agg s hlo hhi ht
        split at h
        · rename_i h1 h2 h3
          cases h
          have h1 := Nat.le_of_ble_eq_true h1
          have h2 := Nat.le_of_ble_eq_true h2
          have h3 : l < m := Nat.le_of_ble_eq_true h3
          obtain ⟨A, k1, k2⟩ := av_rel hE hx
          obtain ⟨B, K, k3, rfl⟩ := rel_p k2
          have hty : TyF P el agg s := ⟨ht⟩
          refine done (.slice (some ⟨B, o + l * s, none⟩) (hh - l) (m - l)) ?_ fun a ha w => ?_
          · have := mk_sl (r := r) (b := b) (o := o + l * s) (x := 0) (n := hh - l) (c := some (m - l)) k3 (by simp only [Option.getD_some]; omega)
            simpa using this
          · have hb := bndS (P := P) hE hlo hhi h1 h2 w
            have hm : ∀ (y : Option Operand), (∀ z, y = some z → (ev e z).isSome) → y.map a.eval = y.map fun y => (ev e y).getD undef := by
              intro y hy
              cases y with
              | none => rfl
              | some z =>
                obtain ⟨v, hv⟩ := Option.isSome_iff_exists.1 (hy z rfl)
                simp [ev_eq ha hv, hv]
            have hne : ¬ m = l := by omega
            simp only [execOp, ev_eq ha k1, hm _ (opt_isSome hE hlo), hm _ (opt_isSome hE hhi), Instr.sliceAt, Sem.run_bind, run_underlying hu, Result.andThen_ok, Instr.sureAddr, Sem.run_pure, Option.map_none, hb, hty.sizeOf, if_neg hne, add_none]
        · cases h
      · cases h
    · cases h
  · split at h
    · rename_i kk m hx
      cases h
      obtain ⟨A, h1, h2⟩ := av_rel hE hx
      rw [rel_i h2] at h1
      exact GO.neg hk hw h1 hd rfl (hq _ (mk_i _ _))
    · cases h
  · split at h
    · rename_i fs cs hf hc
      cases h
      obtain ⟨F, h1, h2⟩ := avs_rel hE hf
      obtain ⟨C, h3, h4⟩ := avs_rel hE hc
      exact GO.makeFunc hk hw h1 h3 hd (hq _ (mk_fb h2 h4))
    · cases h
  · split at h
    · rename_i hx
      cases h
      obtain ⟨A, h1, h2⟩ := av_rel hE hx
      have h2' := h2
      obtain ⟨Fs, Cs, rfl, _⟩ := rel_fb h2
      exact GO.nilCheckF hk hw h1 hd (hq _ h2')
    · cases h
  · rename_i c
    obtain ⟨callee, args, ts⟩ := c
    dsimp only at h
    split at h
    · rename_i _ x harg
      have harg' : args = #[x] := Array.toList_inj.1 (by simpa using harg)
      subst harg'
      split at h
      · rename_i _ t hts
        have hts' : ts = #[t] := Array.toList_inj.1 (by simpa using hts)
        subst hts'
        split at h
        · rename_i len el u hu hx
          cases h
          obtain ⟨A, h1, h2⟩ := av_rel hE hx
          haveI : UnF P t (.array len el) := ⟨hu⟩
          exact GO.lenArr hk hw h1 hd (hq _ (mk_i _ _))
        · rename_i i fs hu hx
          cases h
          obtain ⟨A, h1, h2⟩ := av_rel hE hx
          obtain ⟨l, rfl, hv, hfs⟩ := rel_os h2
          haveI : UnF P t .string := ⟨hu⟩
          refine GO.lenStr hk hw h1 hd (hq _ ?_)
          unfold Rel
          exact ⟨l, hv.symm, by simp [ByteArray.size], hfs⟩
        · cases h
      · cases h
    · cases h
  · split at h
    · rename_i a b hx hy
      exact evFact_sound hk hE hx hy h hw hd hq
    · cases h
  · cases h
theorem evPure_sound [Fr] [Sig] (hk : kOk k = true) (hE : EnvR r e T) {op : Op} {v : AV} (h : evPure P T op = some v)
    (hw : wantedE ops e ⟨dst, op, ty, pos, aft, g⟩ = some true) (hd : fits n dst = true)
    (hq : ∀ A, Rel r v A → GX P ops Q S n p (e.put dst A) w) : GO P ops Q S n k i ⟨dst, op, ty, pos, aft, g⟩ p e w := by
  unfold evPure at h
  split at h
  · cases h
    exact evPure1_sound hk hE ‹_› hw hd hq
  · exact evPure2_sound hk hE h hw hd hq
end
end Go.Proofs.YtfoabgljfikklaaGreatDoor.V
