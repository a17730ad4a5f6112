/-
  The reckoned run on slices: literals, appends, bytes and strings. No condition: these are rules over any program.
-/
import Derived.Test.YtfoabgljfikklaaGreatDoorWak
import Derived.Lib.AppendZeros
import Derived.Lib.AppendStr
set_option linter.unusedVariables false
set_option linter.unusedSimpArgs false
namespace Go.Proofs.YtfoabgljfikklaaGreatDoor.V
section
variable {P : Program} {lo n : Nat} {r : Rho} {e : Env} {T : Tr AV} {H : Tr AB} {w : World} {st st' : ST} {dst : Option Tmp} {ty : TypeId} {pos : String} {aft : Array Edge} {g : Option (Nat × Bool)}
theorem fillA_length (place : Nat → Option (Nat × Nat)) : ∀ (pl : List (Nat × List AV)) {cells out : List AV}, fillA place cells pl = some out → out.length = cells.length
  | [], cells, out, h => by simp [fillA] at h; rw [h]
  | (i, l) :: rest, cells, out, h => by
    simp only [fillA] at h
    split at h
    · cases h
    · split at h
      · rename_i h1 h2
        have e1 := Nat.eq_of_beq_eq_true h1
        have e2 := Nat.le_of_ble_eq_true h2
        rw [fillA_length place rest h]
        simp only [List.length_append, List.length_take, List.length_drop]
        omega
      · cases h
theorem rep_length (z : List AV) : ∀ m, (rep z m).length = m * z.length
  | 0 => by simp [rep]
  | m + 1 => by rw [rep, List.length_append, rep_length z m, Nat.add_mul]; omega
theorem mr_buildSlice [Fr] [Sig] (hE : EnvR r e st.T) (hs : Sat lo r st.H w) {t el sz by_ len : Nat} {parts : Array (Nat × Operand)} {pl : List (Nat × List AV)} {z cells : List AV} {v : AV} (hf : sliceB P t = some (el, sz, by_)) (hp : partsA st.T parts.toList = some pl) (hz : zeroA P el = some z)
    (hlen : 0 < len) (hsz : 0 < sz) (hle : len * sz ≤ 16777216) (hfill : fillA (fun j => some (j * sz, sz)) (rep z len) pl = some cells) (h : st.new (.own el sz cells) (.sl st.next 0 0 len (some len)) = some (v, st')) :
    MR P lo n r e w ⟨dst, .buildSlice t len parts, ty, pos, aft, g⟩ v st'.H := by
  intro a ha
  obtain ⟨rfl, hH, hb, _⟩ := new_eq h
  obtain ⟨vs, hm, hl, hrel⟩ := partsA_rel hE hp
  obtain ⟨hu, ii, zv, hi, hzv, hszz, hby, hzs⟩ := SlF.facts ⟨hf⟩
  subst hszz hby
  have hzr := rep_rel (zero_rel (r := r) hz hi hzv) len
  have hmk := made_eq hzs len
  rw [← hmk] at hzr
  obtain ⟨O, hO, hOr⟩ := fillA_rel _ pl vs hl hrel hzr hfill
  have hparts : (parts.map fun (i, x) => (i, a.eval x)).toList = vs := by simpa using evParts ha parts.toList vs hm
  have hff := fill_eq _ vs _ _ O rfl hO
  have hpos : ¬ len * ii.size = 0 := by
    have := Nat.mul_pos hlen hsz
    omega
  have hle' : ¬ len * ii.size > 2 ^ 24 := by omega
  have hzl : z.length = ii.size := by rw [(zero_rel (r := r) hz hi hzv).length]; simpa using hzs
  have hOl : O.length = len * ii.size := by rw [← hOr.length, fillA_length _ _ hfill, rep_length, hzl]
  have hlm : len ≤ maxLen := by
    have : len * 1 ≤ len * ii.size := Nat.mul_le_mul_left _ hsz
    unfold maxLen; omega
  have hA := After.newOwn (ext := []) (el := el) (sz := ii.size) (K := len) (m := len) (c := some len) (w1 := w) hs hb hOr (Mod.refl w) rfl (by simpa using hOl) hlm (Nat.le_refl _)
  rw [← hH, List.append_nil] at hA
  simp only [Option.getD_some] at hA
  refine ⟨_, _, w.alloc (.cells O.toArray el), ?_, .inl rfl, hA⟩
  simp only [execOp, Sem.run_bind, Instr.buildSlice, run_underlying hu, Result.andThen_ok, Go.sizeOf, typeInfo, run_program, hi, Sem.run_pure, if_neg hle', if_neg hpos, zeroValue, hzv, hparts]
  have hff' : Instr.fill (fun i => some (i * ii.size, ii.size)) ((Array.range (len * ii.size)).map fun x => zv.cells[x % zv.cells.size]!) vs = some O.toArray := hff
  rw [hff']
  simp [newRow]
theorem mr_buildSlice0 [Fr] [Sig] (hs : Sat lo r st.H w) {t el sz by_ : Nat} {parts : Array (Nat × Operand)} {v : AV} (hf : sliceB P t = some (el, sz, by_)) (hp : partsA st.T parts.toList = some []) (h : st.new (.own el sz []) (.sl st.next 0 0 0 (some 0)) = some (v, st')) :
    MR P lo n r e w ⟨dst, .buildSlice t 0 parts, ty, pos, aft, g⟩ v st'.H := by
  intro a ha
  obtain ⟨rfl, hH, hb, _⟩ := new_eq h
  have hp0 : parts = #[] := by
    cases hl : parts.toList with
    | nil => simpa using hl
    | cons x l =>
      rw [hl] at hp
      obtain ⟨i, x⟩ := x
      simp only [partsA] at hp
      split at hp <;> cases hp
  subst hp0
  obtain ⟨hu, ii, zv, hi, hzv, hszz, hby, hzs⟩ := SlF.facts ⟨hf⟩
  subst hszz hby
  have hA := After.newOwn (L := []) (ext := []) (el := el) (sz := ii.size) (K := 0) (m := 0) (c := some 0) (w1 := w) hs hb (RelL.nil r) (Mod.refl w) rfl (by simp) (by unfold maxLen; omega) (Nat.le_refl _)
  rw [← hH] at hA
  refine ⟨_, _, w.alloc (.cells #[] el), ?_, .inl rfl, hA⟩
  have h0 : ¬ ((0 : Nat) > 2 ^ 24) := by omega
  simp only [execOp, Sem.run_bind, Instr.buildSlice, run_underlying hu, Result.andThen_ok, Go.sizeOf, typeInfo, run_program, hi, Sem.run_pure, if_neg h0, Nat.zero_mul, if_true]
  simp [Instr.fill, newRow, Array.range_zero']
theorem sliceCells_sound [Sig] (hs : Sat lo r H w) {v : AV} {sz : Nat} {l : List AV} {V : Value} (h : sliceCells H v sz = some l) (hv : Rel r v V) : ∃ ad c L, V = .slice ad (slLen v) c ∧ RelL r l L ∧ L.length = slLen v * sz ∧ SlA w ad L := by
  unfold sliceCells at h
  split at h
  · cases h; exact ⟨none, 0, [], rel_sl0 hv, RelL.nil r, by simp [slLen], rfl⟩
  · cases h
    obtain ⟨a, c, rfl⟩ := rel_se hv
    exact ⟨some a, c, [], rfl, RelL.nil r, by simp [slLen], SlA.empty _ _⟩
  · cases h
    obtain ⟨B, K, _, rfl⟩ := rel_ez hv
    exact ⟨some _, _, [], rfl, RelL.nil r, by simp [slLen], SlA.empty _ _⟩
  · rename_i b o x m c
    obtain ⟨B, K, h1, rfl, h3⟩ := rel_sl hv
    obtain ⟨_, L, hL, hA, hl⟩ := atH_sound hs h h1
    exact ⟨_, _, L, rfl, hL, hl, hA⟩
  · cases h
theorem run_append0 {t el sz by_ : Nat} (hf : SlF P t el sz by_) (a : Option Addr) (len cap : Nat) (a2 : Option Addr) (c2 : Nat) (hle : len ≤ cap) : (Builtin.append_ #[t, t] ty #[.slice a len cap, .slice a2 0 c2]).run P w = .ok (.slice a len cap) w := by
  obtain ⟨hu, ii, z, hi, hzv, hs, hby, hzs⟩ := hf.facts
  have hfc : (Builtin.firstCells ii.size 0 (.slice a2 0 c2)).run P w = .ok #[] w := by
    cases a2 with
    | none => simp [Builtin.firstCells]
    | some x => simpa using run_firstCells_some (P := P) w ii.size 0 x 0 c2 [] (by simp) (by simp)
  cases a with
  | none => simp [Builtin.append_, run_underlying hu, Go.sizeOf, typeInfo, hi, Builtin.lenOf, hle, hfc]
  | some x => simp [Builtin.append_, run_underlying hu, Go.sizeOf, typeInfo, hi, Builtin.lenOf, hle, hfc, storeCells]
theorem after_grown [Sig] (hs : Sat lo r H w) {b : Nat} (hb : H.get b = none) {l m : List AV} {L N : List Value} (hL : RelL r l L) (hN : RelL r m N) {el sz c k old : Nat} {z : Value} (hz : z.cells.size = sz) (hlL : L.length = c * sz) (hlN : N.length = k * sz) (h63 : c + k ≤ maxLen) :
    After lo r w (.sl b 0 0 (c + k) none) (H.put b (.own el sz (l ++ m))) (.slice (some ⟨w.heap.size, 0, none⟩) (c + k) (grownCap w (c + k) old el)) (w.drew.alloc (.cells (L.toArray ++ N.toArray ++ Builtin.zeroCells z.cells (grownCap w (c + k) old el - (c + k))) el)) := by
  have hge := grownCap_ge w (c + k) old el
  have hcm : grownCap w (c + k) old el ≤ maxLen := grownCap_le_maxLen w (c + k) old el h63
  have hA := After.newOwn (lo := lo) (L := L ++ N) (ext := (Builtin.zeroCells z.cells (grownCap w (c + k) old el - (c + k))).toList) (el := el) (sz := sz) (K := grownCap w (c + k) old el) (m := c + k) (c := none) (w1 := w.drew) hs hb (hL.app hN) (Ext.drew w) rfl (by
    simp only [List.length_append, Array.length_toList, size_zeroCells, hz, hlL, hlN, ← Nat.add_mul]
    congr 1
    omega) hcm hge
  have he : (L ++ N ++ (Builtin.zeroCells z.cells (grownCap w (c + k) old el - (c + k))).toList).toArray = L.toArray ++ N.toArray ++ Builtin.zeroCells z.cells (grownCap w (c + k) old el - (c + k)) := by
    apply Array.toList_inj.1
    simp
  rw [he] at hA
  exact hA
theorem mod_setRow (w : World) (g : Nat) (cs : Array Value) : Mod (· = g) w (w.setRow g cs) :=
  ⟨rfl, rfl, rfl, by simp, fun k _ hk => setRow_other w g k cs hk⟩
theorem evAppend_sound [Sig] (hs : Sat lo r st.H w) {t : TypeId} {a b : AV} {A B : Value} (ha : Rel r a A) (hb : Rel r b B) {v : AV} (h : evAppend P st t (some a) (some b) = some (v, st')) :
    ∃ V w', (Builtin.append_ #[t, t] ty #[A, B]).run P w = .ok V w' ∧ After lo r w v st'.H V w' := by
  unfold evAppend at h
  split at h
  next a' b' el sz by_ ha' hb' hf =>
    cases ha'
    cases hb'
    split at h
    next news hn hz hfit =>
      have hz := blt_lt hz
      obtain ⟨f1, f2⟩ := fits47_spec hfit
      obtain ⟨ad2, c2, N, rfl, hN, hNl, hNs⟩ := sliceCells_sound hs hn hb
      have hF : SlF P t el sz by_ := ⟨hf⟩
      obtain ⟨hu, ii, z, hi, hzv, hszz, hby, hzs⟩ := hF.facts
      subst hszz hby
      split at h
      next ho =>
        -- nil
        have := rel_sl0 ha
        subst this
        split at h
        next hm =>
          cases h
          rw [hm]
          exact ⟨_, w, run_append0 hF none 0 0 ad2 c2 (Nat.le_refl 0), After.same hs mk_sl0⟩
        next m hm =>
          rw [hm] at hNl f1 f2 ⊢
          simp only [slLen, Nat.zero_add, Nat.succ_eq_add_one] at hNl f1 f2 ⊢
          obtain ⟨rfl, hH, hfree, _⟩ := new_eq h
          obtain ⟨b2, o2, rfl, hN'⟩ := hNs.of_pos (by rw [hNl]; exact Nat.mul_pos (Nat.succ_pos m) hz)
          have hr := run_append_nil (P := P) (w := w) t ty el ii z hu hi hzv ⟨b2, o2, none⟩ (m + 1) c2 N hNl (fun j u hu => by rw [add_none]; exact hN' j u hu) (by omega) (by omega) (by omega)
          have hA := after_grown (old := 0) (el := el) hs hfree (RelL.nil r) hN hzs (c := 0) (by simp) hNl (by unfold maxLen; omega)
          simp only [Nat.zero_add, List.nil_append, Array.empty_append] at hA
          rw [← hH] at hA
          exact ⟨_, _, hr, hA⟩
      next ho =>
        obtain ⟨ad, c, rfl⟩ := rel_se ha
        split at h
        next hm =>
          cases h
          rw [hm]
          exact ⟨_, w, run_append0 hF _ _ _ ad2 c2 (Nat.zero_le _), After.same hs ha⟩
        next => cases h
      next k o d x c ho =>
        split at h
        next hm =>
          cases h
          obtain ⟨Bk, K, hrk, rfl⟩ := rel_ez ha
          rw [hm]
          exact ⟨_, w, run_append0 hF _ _ _ ad2 c2 (Nat.zero_le _), After.same hs ha⟩
        next => cases h
      next k o x nn c ho =>
        obtain ⟨Bk, K, hrk, rfl, hcap⟩ := rel_sl ha
        split at h
        next hm =>
          cases h
          rw [hm]
          exact ⟨_, w, run_append0 hF _ _ _ ad2 c2 hcap, After.same hs ha⟩
        next m hm =>
          rw [hm] at hNl f1 f2 ⊢
          simp only [slLen, Nat.succ_eq_add_one] at hNl f1 f2 ⊢
          obtain ⟨b2, o2, rfl, hN'⟩ := hNs.of_pos (by rw [hNl]; exact Nat.mul_pos (Nat.succ_pos m) hz)
          have hnews : ∀ j u, N[j]? = some u → w.cell? ((⟨b2, o2, none⟩ : Addr).add j) = some u := fun j u hu => by rw [add_none]; exact hN' j u hu
          have h63 : nn + (m + 1) ≤ maxLen := by unfold maxLen; omega
          split at h
          next hcapis =>
            split at h
            next el' sz' cells hg =>
              split at h
              next he1 he2 =>
                have he1 := Nat.eq_of_beq_eq_true he1
                have he2 := Nat.eq_of_beq_eq_true he2
                rw [he1, he2] at hg
                obtain ⟨hlo, hh⟩ := hs.here hg hrk
                have hlo := hlo rfl
                obtain ⟨L, ext, hL, hheap, hlen, hK⟩ := hh
                have hLN : news.length = (m + 1) * ii.size := by rw [hN.length, hNl]
                split at h
                next hfits =>
                  -- there is room, and what is there is known
                  have hfits := Nat.le_of_ble_eq_true hfits
                  simp only [Option.some.injEq, Prod.mk.injEq] at h
                  obtain ⟨rfl, rfl⟩ := h
                  rw [hLN] at hfits
                  have hroomK : nn + (m + 1) ≤ K := by
                    have h1 : (nn + (m + 1)) * ii.size ≤ K * ii.size := by
                      rw [← hlen, List.length_append, ← hL.length, Nat.add_mul]; omega
                    exact Nat.le_of_mul_le_mul_right h1 hz
                  have hroom : nn + (m + 1) ≤ c.getD (K - 0) := by
                    cases c with
                    | none => simpa using hroomK
                    | some cc => exact Nat.le_of_ble_eq_true hcapis
                  have hr := run_append_room (P := P) (w := w) t ty el ii hu hi Bk nn (c.getD (K - 0)) _ hheap ⟨b2, o2, none⟩ (m + 1) c2 N hNl hnews (ones_rel ho hN) hroom (by
                    have : nn * ii.size + N.length ≤ L.length := by rw [hNl, ← hL.length]; omega
                    simp; omega)
                  have hLN' : nn * ii.size + N.length ≤ L.length := by rw [hNl, ← hL.length]; omega
                  have hmod := mod_setRow w Bk ((L ++ ext).toArray.toList.take (nn * ii.size) ++ N ++ (L ++ ext).toArray.toList.drop (nn * ii.size + N.length)).toArray
                  refine ⟨_, _, hr, r, Rho.le.refl r, ?_, ?_, hmod.weaken fun k _ hk => by subst hk; exact hlo⟩
                  · have := mk_sl (r := r) (b := k) (o := 0) (x := 0) (n := nn + (m + 1)) (c := c) hrk hroom
                    exact this
                  · refine hs.upd hg rfl hrk hlo hmod ⟨L.take (nn * ii.size) ++ N ++ L.drop (nn * ii.size + N.length), ext, ?_, ?_, ?_, hK⟩
                    · refine ((hL.take _).app hN).app ?_
                      rw [hN.length]; exact hL.drop _
                    · rw [setRow_heap w Bk _ _ _ _ hheap]
                      congr 3
                      simp only [List.toList_toArray]
                      rw [List.take_append_of_le_length (by omega), List.drop_append_of_le_length (by omega)]
                      simp
                    · rw [← hlen]
                      simp only [List.length_append, List.length_take, List.length_drop]
                      omega
                next hfits =>
                  split at h
                  next _ heq =>
                    -- it may have moved
                    have heq := Nat.eq_of_beq_eq_true heq
                    have hkill := hs.kill hg hrk
                    obtain ⟨rfl, hH, hfree, _⟩ := new_eq h
                    have hfree' : (st.H.put k .dead).get st.next = none := hfree
                    have hLl : L.length = nn * ii.size := by rw [← hL.length, heq]
                    by_cases hroom : nn + (m + 1) ≤ K
                    · have hr := run_append_room (P := P) (w := w) t ty el ii hu hi Bk nn K _ hheap ⟨b2, o2, none⟩ (m + 1) c2 N hNl hnews (ones_rel ho hN) hroom (by
                        have h1 : (nn + (m + 1)) * ii.size ≤ K * ii.size := Nat.mul_le_mul_right _ hroom
                        rw [Nat.add_mul] at h1
                        simp only [List.size_toArray, hlen, hNl]; omega)
                      have hmod := mod_setRow w Bk ((L ++ ext).toArray.toList.take (nn * ii.size) ++ N ++ (L ++ ext).toArray.toList.drop (nn * ii.size + N.length)).toArray
                      have hle := Rho.le.set (hkill.free _ hfree') (Bk, K)
                      have hnew := hkill.new (b := st.next) (B := Bk) (K := K) (ab := .own el ii.size (cells ++ news)) (w' := w.setRow Bk ((L ++ ext).toArray.toList.take (nn * ii.size) ++ N ++ (L ++ ext).toArray.toList.drop (nn * ii.size + N.length)).toArray) hfree' hmod (fun b ab B' K' hb hl hrb hB => by
                          subst hB
                          rw [Tr.get_put] at hb
                          by_cases hbk : b = k
                          · rw [if_pos hbk] at hb; cases hb; cases hl
                          · rw [if_neg hbk] at hb
                            exact hbk (hs.inj b k ab _ _ _ _ hb hg hl rfl hrb hrk)) (fun j hj => by subst hj; exact hlo) hlo (fun cc ac K' hc hl hrc => by
                          rw [Tr.get_put] at hc
                          by_cases hck : cc = k
                          · rw [if_pos hck] at hc; cases hc; cases hl
                          · rw [if_neg hck] at hc
                            exact hck (hs.inj cc k ac _ _ _ _ hc hg hl rfl hrc hrk))
                        ⟨L ++ N, (L ++ ext).drop (nn * ii.size + N.length), (hL.mono hle).app (hN.mono hle), by
                          rw [setRow_heap w Bk _ _ _ _ hheap]
                          congr 3
                          simp only [List.toList_toArray]
                          rw [List.take_append_of_le_length (by omega), ← hLl, List.take_length], by
                          have h1 : (nn + (m + 1)) * ii.size ≤ K * ii.size := Nat.mul_le_mul_right _ hroom
                          rw [Nat.add_mul] at h1
                          rw [← hlen] at h1 ⊢
                          simp only [List.length_append, List.length_drop] at h1 ⊢
                          omega, hK⟩
                      refine ⟨_, _, hr, _, hle, ?_, ?_, hmod.weaken fun k _ hk => by subst hk; exact hlo⟩
                      · have := mk_sl (r := r.set st.next (Bk, K)) (b := st.next) (o := 0) (x := 0) (n := nn + (m + 1)) (c := none) (Rho.set_same _ _ _) (by simpa using hroom)
                        simpa using this
                      · rw [hH]; exact hnew.2
                    · have hr := run_append_grow (P := P) (w := w) t ty el ii z hu hi hzv ⟨Bk, 0, none⟩ nn K L hLl (fun j u hu => by
                          rw [add_none, cell_of_row w _ _ _ el _ hheap]
                          have : j < L.length := (List.getElem?_eq_some_iff.1 hu).1
                          simp [List.getElem?_append_left this, hu]) ⟨b2, o2, none⟩ (m + 1) c2 N hNl hnews (by omega) (by omega) (growslice_fits (by omega) f1)
                      have hA := after_grown (old := K) (el := el) hkill hfree' hL hN hzs hLl hNl h63
                      rw [hH]
                      exact ⟨_, _, hr, hA⟩
                  next => cases h
              next => cases h
            next => cases h
          next hcapis =>
            split at h
            next olds hold =>
              obtain ⟨rfl, hH, hfree, _⟩ := new_eq h
              obtain ⟨_, L, hL, hA, hLl⟩ := atH_sound hs hold hrk
              have hcc : c.getD (K - x) < nn + (m + 1) := by
                cases c with
                | none => cases hcapis
                | some cc =>
                  simp only [capIs] at hcapis
                  have : ¬ nn + (m + 1) ≤ cc := fun h => by rw [Nat.ble_eq_true_of_le h] at hcapis; cases hcapis
                  simpa using Nat.lt_of_not_le this
              have hr := run_append_grow (P := P) (w := w) t ty el ii z hu hi hzv ⟨Bk, o, none⟩ nn (c.getD (K - x)) L hLl (fun j u hu => by rw [add_none]; exact hA j u hu) ⟨b2, o2, none⟩ (m + 1) c2 N hNl hnews hcc (by omega) (growslice_fits hcc f1)
              have hAf := after_grown (old := c.getD (K - x)) (el := el) hs hfree hL hN hzs hLl hNl h63
              rw [← hH] at hAf
              exact ⟨_, _, hr, hAf⟩
            next => cases h
      next => cases h
    next => cases h
  next => cases h
theorem bytesOf_rel [Sig] : ∀ {l : List AV} {bs : List Nat} {L : List Value}, bytesOf l = some bs → RelL r l L → L = bytesV (bs.map UInt8.ofNat) ∧ (∀ x ∈ bs, x < 256) ∧ bs.length = l.length
  | [], bs, L, h, hL => by simp [bytesOf] at h; subst h; rw [hL.of_nil]; exact ⟨rfl, by simp, rfl⟩
  | a :: l, bs, L, h, hL => by
    obtain ⟨A, M, rfl, h2, h3⟩ := hL.of_cons
    unfold bytesOf at h
    split at h
    · rename_i h'; cases h'
    · rename_i x l' h'
      cases h'
      split at h
      · rename_i b1 bs' hb hbs
        cases h
        have := rel_i h2
        subst this
        obtain ⟨e1, e2, e3⟩ := bytesOf_rel hbs h3
        have hlt := blt_lt hb
        refine ⟨?_, ?_, by simp [e3]⟩
        · rw [e1]
          simp only [bytesV, byteV, List.map_cons, List.cons.injEq, and_true, Value.int.injEq, true_and]
          simp [Nat.mod_eq_of_lt hlt]
        · intro y hy
          rcases List.mem_cons.1 hy with rfl | hy
          · exact hlt
          · exact e2 y hy
      · cases h
    · cases h
theorem str_run {src dT el : TypeId} (hs' : P.underlying src = some (.slice el)) (hel : P.underlying el = some (.int .u8)) (hd' : P.underlying dT = some .string) {l : List UInt8} {a : Option Addr} {m c : Nat} (hm : l.length = m) (h : SlA w a (bytesV l)) :
    (convert src dT (.slice a m c)).run P w = .ok (str l) w := by
  subst hm
  rw [run_convert_bytes_string w src dT el a _ c hs' hel hd', run_bytesStr h]
theorem evGrow_sound [Sig] (hs : Sat lo r st.H w) {t t2 : TypeId} {a b : AV} {A B : Value} (ha : Rel r a A) (hb : Rel r b B) {v : AV} (h : evGrow P st t t2 (some a) (some b) = some (v, st')) :
    ∃ V w', (Builtin.append_ #[t, t2] ty #[A, B]).run P w = .ok V w' ∧ After lo r w v st'.H V w' := by
  unfold evGrow at h
  split at h
  next m el sz by_ k ha' hb' hf hu2 =>
    cases ha'
    cases hb'
    split at h
    next z hz hlt hfit =>
      have hlt := blt_lt hlt
      obtain ⟨f1, f2⟩ := fits47_spec hfit
      obtain ⟨hu, ii, zv, hi, hzv, hszz, hby, hzs⟩ := SlF.facts ⟨hf⟩
      subst hszz hby
      rw [rel_sl0 ha, rel_i hb]
      obtain ⟨rfl, hH, hfree, _⟩ := new_eq h
      have hr := Lib.run_append_nil_zeros (P := P) w t t2 ty el ii zv .i64 k hu hu2 hi hzv (m + 1) (by omega) hlt (by omega) (by omega)
      have hzr := rep_rel (zero_rel (r := r) hz hi hzv) (m + 1)
      have hmk : (Builtin.zeroCells zv.cells (m + 1)).toList = (List.replicate (m + 1) zv.cells.toList).flatten := by
        have := made_eq hzs (m + 1)
        rw [← this]
        simp [Builtin.zeroCells, madeCells, hzs]
      have hA := after_grown (old := 0) (el := el) hs hfree (RelL.nil r) hzr hzs (c := 0) (k := m + 1) (by simp) (by simp [hzs]) (by unfold maxLen; omega)
      simp only [Nat.zero_add, List.nil_append, Array.empty_append, ← hmk, Array.toArray_toList] at hA
      rw [← hH] at hA
      exact ⟨_, _, hr, hA⟩
    next => cases h
  next => cases h
theorem mr_toStr [Fr] [Sig] (hE : EnvR r e st.T) (hs : Sat lo r st.H w) {src dT el : TypeId} {x : Operand} {u : AV} {l : List AV} {bs : List Nat} (hx : av st.T x = some u) (h1 : P.underlying src = some (.slice el)) (h2 : P.underlying dT = some .string) (h3 : P.underlying el = some (.int .u8)) (hc : sliceCells st.H u 1 = some l) (hb : bytesOf l = some bs) :
    MR P lo n r e w ⟨dst, .convert src dT x, ty, pos, aft, g⟩ (.s bs) st.H := by
  intro a ha
  obtain ⟨V, hv1, hv2⟩ := av_rel hE hx
  obtain ⟨ad, c, L, rfl, hL, hLl, hS⟩ := sliceCells_sound hs hc hv2
  obtain ⟨rfl, hlt, hbl⟩ := bytesOf_rel hb hL
  refine ⟨_, _, w, ?_, .inl rfl, After.same hs (mk_s hlt)⟩
  have := str_run (P := P) (w := w) (c := c) h1 h3 h2 (l := bs.map UInt8.ofNat) (m := slLen u) (by simpa using hLl) hS
  simp [execOp, ev_eq ha hv1, this]
theorem map_bytes [Sig] {l : List Nat} (h : ∀ x ∈ l, x < 256) : RelL r (l.map fun n => AV.i .u8 (.ofNat n)) (bytesV (l.map UInt8.ofNat)) := by
  induction l with
  | nil => exact RelL.nil r
  | cons x l ih =>
    have hx := h x (by simp)
    refine RelL.cons ?_ (ih fun y hy => h y (by simp [hy]))
    have := mk_i (r := r) .u8 (x : Int)
    simpa [byteV, Nat.mod_eq_of_lt hx] using this
theorem mr_toBytes [Fr] [Sig] (hE : EnvR r e st.T) (hs : Sat lo r st.H w) {src dT el : TypeId} {x : Operand} {y : Nat} {l : List Nat} {v : AV} (hx : av st.T x = some (.s (y :: l))) (h1 : P.underlying src = some .string) (h2 : P.underlying dT = some (.slice el)) (h3 : P.underlying el = some (.int .u8))
    (h : st.new (.ro ((y :: l).map fun n => .i .u8 (.ofNat n))) (.sl st.next 0 0 (l.length + 1) none) = some (v, st')) :
    MR P lo n r e w ⟨dst, .convert src dT x, ty, pos, aft, g⟩ v st'.H := by
  intro a ha
  obtain ⟨rfl, hH, hb, _⟩ := new_eq h
  obtain ⟨V, hv1, hv2⟩ := av_rel hE hx
  obtain ⟨rfl, hlt⟩ := rel_s hv2
  obtain ⟨c, w', hr, h0, hA, hext⟩ := run_toBytes (P := P) (w := w) h1 h2 h3 ((y :: l).map UInt8.ofNat)
  have hle := Rho.le.set (hs.free _ hb) (w.heap.size, c)
  have hsz : w.heap.size < w'.heap.size := block_lt_of_cell (hA 0 _ rfl)
  obtain ⟨_, hsat⟩ := hs.newTop (K := c) hb hext (ab := .ro ((y :: l).map fun n => .i .u8 (.ofNat n))) ⟨_, map_bytes hlt, hA, hsz⟩
  have hlen : (List.map UInt8.ofNat (y :: l)).length = l.length + 1 := by simp
  rw [hlen] at hr
  refine ⟨_, _, w', by simp only [execOp, ev_eq ha hv1, Sem.run_bind, hr, Result.andThen_ok]; rfl, .inl rfl, _, hle, ?_, by rw [hH]; exact hsat, modLo hext⟩
  have := mk_sl (r := r.set st.next (w.heap.size, c)) (b := st.next) (o := 0) (x := 0) (n := l.length + 1) (c := none) (Rho.set_same _ _ _) (by simpa using h0)
  simpa using this
theorem mr_toBytes0 [Fr] [Sig] (hE : EnvR r e st.T) (hs : Sat lo r st.H w) {src dT el : TypeId} {x : Operand} {v : AV} (hx : av st.T x = some (.s [])) (h1 : P.underlying src = some .string) (h2 : P.underlying dT = some (.slice el)) (h3 : P.underlying el = some (.int .u8))
    (h : st.new .dead (.ez st.next 0 0 0 none) = some (v, st')) :
    MR P lo n r e w ⟨dst, .convert src dT x, ty, pos, aft, g⟩ v st'.H := by
  intro a ha
  obtain ⟨rfl, hH, hb, _⟩ := new_eq h
  obtain ⟨V, hv1, hv2⟩ := av_rel hE hx
  obtain ⟨rfl, hlt⟩ := rel_s hv2
  obtain ⟨c, w', hr, h0, hA, hext⟩ := run_toBytes (P := P) (w := w) h1 h2 h3 ([] : List UInt8)
  obtain ⟨hle, hsat⟩ := hs.newTop (K := c) hb hext (ab := .dead) trivial
  refine ⟨_, _, w', by simp only [execOp, ev_eq ha hv1, Sem.run_bind]; rw [show (List.map UInt8.ofNat []) = ([] : List UInt8) from rfl]; simp only [hr, Result.andThen_ok]; rfl, .inl rfl, _, hle, ?_, by rw [hH]; exact hsat, modLo hext⟩
  unfold Rel
  exact ⟨w.heap.size, c, Rho.set_same _ _ _, by simp⟩
theorem strCells_rel [Sig] (s : ByteArray) : RelL r ((s.data.toList.map (·.toNat)).map fun x => AV.i .u8 (.ofNat x)) (Lib.strCells s) := by
  unfold Lib.strCells
  generalize s.data.toList = l
  induction l with
  | nil => exact RelL.nil r
  | cons u l ih => exact RelL.cons (mk_i .u8 (.ofNat u.toNat)) ih
theorem evAppendS_sound [Sig] (hs : Sat lo r st.H w) {t t2 : TypeId} {a b : AV} {A B : Value} (ha : Rel r a A) (hb : Rel r b B) {v : AV} (h : evAppendS P st t t2 (some a) (some b) = some (v, st')) :
    ∃ V w', (Builtin.append_ #[t, t2] ty #[A, B]).run P w = .ok V w' ∧ After lo r w v st'.H V w' := by
  unfold evAppendS at h
  split at h
  next k nn c l el by_ ha' hb' hf hstr =>
    cases ha'
    cases hb'
    obtain ⟨Bk, K, hrk, rfl, hcap⟩ := rel_sl ha
    obtain ⟨hstr0, hlt⟩ := rel_s hb
    obtain ⟨s, hs0⟩ : ∃ s : ByteArray, s = ⟨(l.map UInt8.ofNat).toArray⟩ := ⟨_, rfl⟩
    have hB : B = .string s := by rw [hstr0, hs0]; rfl
    subst hB
    have hsl : s.data.toList.map (·.toNat) = l := by
      rw [hs0]
      simp only [List.map_map]
      refine (List.map_congr_left fun x hx => ?_).trans (List.map_id l)
      simp only [Function.comp_apply, id_eq]
      exact UInt8.toNat_ofNat_of_lt' (hlt x hx)
    have hlen : l.length = s.size := by rw [← hsl, List.length_map]; rfl
    have hF : SlF P t el 1 by_ := ⟨hf⟩
    obtain ⟨hu, ii, z, hi, hzv, hszz, hby, hzs⟩ := hF.facts
    subst hby
    split at h
    next hm _ _ =>
      cases h
      have h0 : s.size = 0 := by rw [← hlen]; rfl
      refine ⟨_, w, ?_, After.same hs ha⟩
      have hle : nn ≤ c.getD K := hcap
      have hfc := Lib.run_firstCells_string (P := P) w 1 s
      have he : Lib.strCells s = [] := by
        apply List.eq_nil_of_length_eq_zero
        rw [Lib.strCells_length, h0]
      rw [h0, he] at hfc
      simp [Builtin.append_, run_underlying hu, run_underlying hstr, sizeOf, typeInfo, hi, hszz, Builtin.lenOf, h0, hle, hfc, storeCells]
    next x l' hfit hcapis =>
      obtain ⟨f1, f2⟩ := fits47_spec hfit
      have h63 : nn + s.size ≤ maxLen := by unfold maxLen; rw [← hlen]; omega
      have hN : RelL r ((x :: l').map fun x => AV.i .u8 (.ofNat x)) (Lib.strCells s) := by rw [← hsl]; exact strCells_rel s
      have hNl : (Lib.strCells s).length = s.size := Lib.strCells_length s
      split at h
      next el' cells hg =>
        have hmain : ∀ (he1 : Nat.beq el' el = true), el' = el := fun he1 => Nat.eq_of_beq_eq_true he1
        split at h
        next he1 hfits =>
          have he1 := hmain he1
          rw [he1] at hg
          obtain ⟨hlo, hh⟩ := hs.here hg hrk
          have hlo := hlo rfl
          obtain ⟨L, ext, hL, hheap, hlenK, hK⟩ := hh
          have hfits := Nat.le_of_ble_eq_true hfits
          simp only [Option.some.injEq, Prod.mk.injEq] at h
          obtain ⟨rfl, rfl⟩ := h
          rw [hlen] at hfits hcapis ⊢
          have hroomK : nn + s.size ≤ K := by
            have := hlenK
            rw [List.length_append, ← hL.length, Nat.mul_one] at this
            omega
          have hroom : nn + s.size ≤ c.getD (K - 0) := by
            cases c with
            | none => simpa using hroomK
            | some cc => exact Nat.le_of_ble_eq_true hcapis
          have hLN' : nn + s.size ≤ L.length := by rw [← hL.length]; omega
          have hr := Lib.run_append_room_string (P := P) (w := w) t t2 ty el ii hu hstr hi hszz Bk nn (c.getD (K - 0)) _ hheap s hroom (by simp; omega)
          have hmod := mod_setRow w Bk ((L ++ ext).toArray.toList.take nn ++ Lib.strCells s ++ (L ++ ext).toArray.toList.drop (nn + s.size)).toArray
          refine ⟨_, _, hr, r, Rho.le.refl r, ?_, ?_, hmod.weaken fun k _ hk => by subst hk; exact hlo⟩
          · exact mk_sl (r := r) (b := k) (o := 0) (x := 0) (n := nn + s.size) (c := c) hrk hroom
          · refine hs.upd hg rfl hrk hlo hmod ⟨L.take nn ++ Lib.strCells s ++ L.drop (nn + s.size), ext, ?_, ?_, ?_, hK⟩
            · refine ((hL.take _).app hN).app ?_
              exact hL.drop _
            · rw [setRow_heap w Bk _ _ _ _ hheap]
              congr 3
              simp only [List.toList_toArray]
              rw [List.take_append_of_le_length (by omega), List.drop_append_of_le_length (by omega)]
              simp
            · rw [← hlenK]
              simp only [List.length_append, List.length_take, List.length_drop, hNl]
              omega
        next he1 hfits =>
          have he1 := hmain he1
          rw [he1] at hg
          obtain ⟨hlo, hh⟩ := hs.here hg hrk
          have hlo := hlo rfl
          obtain ⟨L, ext, hL, hheap, hlenK, hK⟩ := hh
          split at h
          next _ heq =>
            have heq := Nat.eq_of_beq_eq_true heq
            have hkill := hs.kill hg hrk
            obtain ⟨rfl, hH, hfree, _⟩ := new_eq h
            have hfree' : (st.H.put k .dead).get st.next = none := hfree
            rw [hlen]
            have hLl : L.length = nn * ii.size := by rw [← hL.length, heq, hszz, Nat.mul_one]
            by_cases hroom : nn + s.size ≤ K
            · have hr := Lib.run_append_room_string (P := P) (w := w) t t2 ty el ii hu hstr hi hszz Bk nn K _ hheap s hroom (by
                simp only [List.size_toArray, hlenK]; omega)
              have hmod := mod_setRow w Bk ((L ++ ext).toArray.toList.take nn ++ Lib.strCells s ++ (L ++ ext).toArray.toList.drop (nn + s.size)).toArray
              have hle := Rho.le.set (hkill.free _ hfree') (Bk, K)
              have hnew := hkill.new (b := st.next) (B := Bk) (K := K) (ab := .own el 1 (cells ++ (x :: l').map fun x => AV.i .u8 (.ofNat x))) (w' := w.setRow Bk ((L ++ ext).toArray.toList.take nn ++ Lib.strCells s ++ (L ++ ext).toArray.toList.drop (nn + s.size)).toArray) hfree' hmod (fun b ab B' K' hb hl hrb hB => by
                  subst hB
                  rw [Tr.get_put] at hb
                  by_cases hbk : b = k
                  · rw [if_pos hbk] at hb; cases hb; cases hl
                  · rw [if_neg hbk] at hb
                    exact hbk (hs.inj b k ab _ _ _ _ hb hg hl rfl hrb hrk)) (fun j hj => by subst hj; exact hlo) hlo (fun cc ac K' hc hl hrc => by
                  rw [Tr.get_put] at hc
                  by_cases hck : cc = k
                  · rw [if_pos hck] at hc; cases hc; cases hl
                  · rw [if_neg hck] at hc
                    exact hck (hs.inj cc k ac _ _ _ _ hc hg hl rfl hrc hrk))
                ⟨L ++ Lib.strCells s, (L ++ ext).drop (nn + s.size), (hL.mono hle).app (hN.mono hle), by
                  rw [setRow_heap w Bk _ _ _ _ hheap]
                  congr 3
                  simp only [List.toList_toArray]
                  have hnn : nn = L.length := by rw [hLl, hszz, Nat.mul_one]
                  rw [List.take_append_of_le_length (by omega), List.take_of_length_le (by omega)], by
                  have h1 := hlenK
                  simp only [List.length_append, List.length_drop, hNl, Nat.mul_one] at h1 ⊢
                  have hnn : nn = L.length := by rw [hLl, hszz, Nat.mul_one]
                  omega, hK⟩
              refine ⟨_, _, hr, _, hle, ?_, ?_, hmod.weaken fun k _ hk => by subst hk; exact hlo⟩
              · have := mk_sl (r := r.set st.next (Bk, K)) (b := st.next) (o := 0) (x := 0) (n := nn + s.size) (c := none) (Rho.set_same _ _ _) (by simpa using hroom)
                simpa using this
              · rw [hH]; exact hnew.2
            · have hr := Lib.run_append_grow_string (P := P) (w := w) t t2 ty el ii z hu hstr hi hzv ⟨Bk, 0, none⟩ nn K L hLl (fun j u hu => by
                  rw [add_none, cell_of_row w _ _ _ el _ hheap]
                  have : j < L.length := (List.getElem?_eq_some_iff.1 hu).1
                  simp [List.getElem?_append_left this, hu]) s (by omega) (by omega) (growslice_fits (by omega) (by rw [← hlen]; exact f1))
              have hA := after_grown (old := K) (el := el) (sz := 1) hkill hfree' hL hN (by rw [hzs]) (by rw [hLl, hszz]) (by rw [hNl, Nat.mul_one]) h63
              rw [hH]
              exact ⟨_, _, hr, hA⟩
          next => cases h
        next => cases h
      next => cases h
    next => cases h
  next => cases h
end
end Go.Proofs.YtfoabgljfikklaaGreatDoor.V
