/-
  The reckoned run on memory: loads, stores, new blocks, slices. No condition: these are rules over any program.
-/
import Derived.Test.YtfoabgljfikklaaGreatDoorWaj
set_option linter.unusedVariables false
set_option linter.unusedSimpArgs false
namespace Go.Proofs.YtfoabgljfikklaaGreatDoor.V
def After [Sig] (lo : Nat) (r : Rho) (w : World) (v : AV) (H' : Tr AB) (V : Value) (w' : World) : Prop :=
  ∃ r', r.le r' ∧ Rel r' v V ∧ Sat lo r' H' w' ∧ Mod (fun k => lo ≤ k) w w'
theorem After.same [Sig] {lo : Nat} {r : Rho} {w : World} {v : AV} {H : Tr AB} {V : Value} (hs : Sat lo r H w) (h : Rel r v V) : After lo r w v H V w := ⟨r, Rho.le.refl r, h, hs, Mod.refl w⟩
theorem modLo {lo : Nat} {w w' : World} (h : Ext w w') : Mod (fun k => lo ≤ k) w w' := h.weaken fun _ _ h => h.elim
section
variable {P : Program} {lo n : Nat} {r : Rho} {e : Env} {T : Tr AV} {H : Tr AB} {w : World} {st st' : ST} {dst : Option Tmp} {ty : TypeId} {pos : String} {aft : Array Edge} {g : Option (Nat × Bool)}
def MR [Fr] [Sig] (P : Program) (lo n : Nat) (r : Rho) (e : Env) (w : World) (o : Oper) (v : AV) (H' : Tr AB) : Prop :=
  ∀ a, Knows a e n → ∃ x V w', (execOp a.eval o).run P w = .ok x w' ∧ (x = .value V ∨ x = .skip ∧ V = undef) ∧ After lo r w v H' V w'
theorem atH_sound [Sig] (hs : Sat lo r H w) {b o m B K : Nat} {part : List AV} (h : atH H b o m = some part) (hr : r b = some (B, K)) : part.length = m ∧ ∃ L, RelL r part L ∧ At w B o L ∧ L.length = m := by
  unfold atH at h
  split at h
  · rename_i ab hb
    split at h
    · rename_i l hc
      obtain ⟨L, h1, h2, _⟩ := (hs.here hb hr).2.cells hc
      obtain ⟨h3, h4, h5⟩ := cellsAt_rel h1 h
      refine ⟨h4, _, h3, ?_, by rw [← h3.length, h4]⟩
      have := h2.take o m
      simpa using this
    · cases h
  · cases h
theorem load_run [Sig] {t : TypeId} {agg : Bool} {size : Nat} (ht : tyB P t = some (agg, size)) {part : List AV} {L : List Value} {v : AV} (hL : RelL r part L) (hl : L.length = size) (hv : partA agg part = some v) :
    ∃ V, Rel r v V ∧ ∀ (w : World) (B o : Nat), At w B o L → (Instr.loadAt t (.pointer (some ⟨B, o, none⟩))).run P w = .ok V w := by
  obtain ⟨V, h1, h2, h3⟩ := part_rel hv hL
  refine ⟨V, h1, fun w B o hA => ?_⟩
  cases agg with
  | true => subst h2; exact run_loadN ⟨ht⟩ hA hl
  | false =>
    have := h3 rfl
    subst this
    simp at hl
    subst hl
    exact run_load1 ⟨ht⟩ (by simpa using hA 0 V rfl)
theorem mr_load [Fr] [Sig] (hE : EnvR r e T) (hs : Sat lo r H w) {t : TypeId} {x : Operand} {b o : Nat} {agg : Bool} {size : Nat} {part : List AV} {v : AV} (hx : av T x = some (.p b o)) (ht : tyB P t = some (agg, size)) (hp : atH H b o size = some part) (hv : partA agg part = some v) :
    MR P lo n r e w ⟨dst, .load t x, ty, pos, aft, g⟩ v H := by
  intro a ha
  obtain ⟨A, h1, h2⟩ := av_rel hE hx
  obtain ⟨B, K, hr, rfl⟩ := rel_p h2
  obtain ⟨_, L, hL, hA, hl⟩ := atH_sound hs hp hr
  obtain ⟨V, hV, hrun⟩ := load_run ht hL hl hv
  exact ⟨_, V, w, by simp [execOp, ev_eq ha h1, hrun w B o hA], .inl rfl, After.same hs hV⟩
theorem one_rel [Sig] {a : AV} {A : Value} (h : Rel r a A) (hg : ∀ l, a ≠ .g l) (ht : ∀ l, a ≠ .t l) : A.oneCell' = true := by
  cases a
  case g l => exact absurd rfl (hg l)
  case t l => exact absurd rfl (ht l)
  all_goals
    unfold Rel at h
    first
    | (subst h; rfl)
    | (subst h; exact Sig.one _)
    | (obtain ⟨rfl, _⟩ := h; rfl)
    | (obtain ⟨_, rfl, _⟩ := h; rfl)
    | (obtain ⟨_, _, rfl⟩ := h; rfl)
    | (obtain ⟨_, _, rfl, _⟩ := h; rfl)
    | (obtain ⟨_, _, _, rfl⟩ := h; rfl)
    | (obtain ⟨_, _, _, rfl, _⟩ := h; rfl)
theorem ones_rel [Sig] : ∀ {l : List AV} {L : List Value}, ones l = true → RelL r l L → ∀ u ∈ L, u.oneCell' = true
  | [], L, _, h, u, hu => by rw [h.of_nil] at hu; simp at hu
  | a :: l, L, ho, h, u, hu => by
    obtain ⟨A, M, rfl, h2, h3⟩ := h.of_cons
    have hg : ∀ l, a ≠ .g l := by rintro l rfl; simp [ones] at ho
    have ht : ∀ l, a ≠ .t l := by rintro l rfl; simp [ones] at ho
    have hr : ones l = true := by
      unfold ones at ho
      split at ho
      · rename_i h; cases h
      · cases ho
      · cases ho
      · rename_i h; cases h; exact ho
    rcases List.mem_cons.1 hu with rfl | hu
    · exact one_rel h2 hg ht
    · exact ones_rel hr h3 u hu
theorem store_holds [Sig] (hs : Sat lo r H w) {b o B K size : Nat} {ab ab' : AB} {l cells vs : List AV} {Vs : List Value} (hb : H.get b = some ab) (hr : r b = some (B, K)) (hc : ab.cells = some l) (hV : RelL r vs Vs) (hp : putAt l o vs = some cells) (hl : vs.length = size) (hset : ab.set cells = some ab') :
    Wr w B o size ∧ lo ≤ B ∧ ab.live = true ∧ ∀ w', Put w w' B o Vs → Holds r w' B K ab' := by
  obtain ⟨hwr, hh⟩ := hs.here hb hr
  cases ab with
  | row c =>
    cases hc
    obtain ⟨L, h1, h2⟩ := hh
    obtain ⟨h3, h4⟩ := putAt_rel h1 hV hp
    simp only [AB.set, Option.some.injEq] at hset
    subst hset
    refine ⟨h2.wr (by rw [← h1.length]; omega), hwr rfl, rfl, fun w' hw' => ⟨_, h3, hw'.blk h2⟩⟩
  | own el sz c =>
    cases hc
    obtain ⟨L, ext, h1, h2, h3, h4⟩ := hh
    obtain ⟨h5, h6⟩ := putAt_rel h1 hV hp
    simp only [AB.set, Option.some.injEq] at hset
    subst hset
    have hb' : Blk w B (L ++ ext) := ⟨_, h2⟩
    have hlen : o + Vs.length ≤ L.length := by rw [← hV.length, ← h1.length]; omega
    refine ⟨hb'.wr (by rw [List.length_append, ← h1.length]; omega), hwr rfl, rfl, fun w' hw' => ⟨_, ext, h5, ?_, ?_, h4⟩⟩
    · have := hw'.here _ _ _ h2
      rw [this]
      congr 3
      rw [List.take_append_of_le_length (by omega), List.drop_append_of_le_length (by omega)]
      simp
    · rw [← h3]
      simp only [List.length_append, List.length_take, List.length_drop]
      omega
  | ro c => cases hset
  | dead => cases hc
  | map => cases hc
  | mit => cases hc
  | lp => cases hc
  | df => cases hc
theorem mr_store [Fr] [Sig] (hE : EnvR r e T) (hs : Sat lo r H w) {t : TypeId} {x y : Operand} {b o : Nat} {v : AV} {ab ab' : AB} {agg : Bool} {size : Nat} {l cells : List AV} (hx : av T x = some (.p b o)) (hy : av T y = some v) (hb : H.get b = some ab) (ht : tyB P t = some (agg, size)) (hc : ab.cells = some l)
    (hp : putAt l o v.cells = some cells) (hl : v.cells.length = size) (ho : ones v.cells = true) (hset : ab.set cells = some ab') :
    MR P lo n r e w ⟨dst, .store t x y, ty, pos, aft, g⟩ (.t []) (H.put b ab') := by
  intro a ha
  obtain ⟨A, h1, h2⟩ := av_rel hE hx
  obtain ⟨B, K, hr, rfl⟩ := rel_p h2
  obtain ⟨V, h3, h4⟩ := av_rel hE hy
  have hV := h4.cells
  obtain ⟨hW, hlo, hlive, hH⟩ := store_holds hs hb hr hc hV hp hl hset
  have hrun := run_storeAt (P := P) ⟨ht⟩ (v := V) rfl (by rw [← hV.length, hl]) (ones_rel ho hV) hW
  refine ⟨.skip, undef, w.setCells B o V.cells.toList, by simp [execOp, ev_eq ha h1, ev_eq ha h3, hrun.1], .inr ⟨rfl, rfl⟩, r, Rho.le.refl r, mk_t (RelL.nil r), ?_, ?_⟩
  · exact hs.upd hb hlive hr hlo hrun.2.mod (hH _ hrun.2)
  · exact hrun.2.mod.weaken fun k _ hk => by subst hk; exact hlo
theorem new_eq {ab : AB} {v v' : AV} (h : st.new ab v = some (v', st')) : v' = v ∧ st'.H = st.H.put st.next ab ∧ st.H.get st.next = none ∧ st'.T = st.T := by
  unfold ST.new at h
  split at h
  · rename_i hn
    simp only [Option.some.injEq, Prod.mk.injEq] at h
    obtain ⟨rfl, rfl⟩ := h
    exact ⟨rfl, rfl, hn, rfl⟩
  · cases h
theorem After.newRow [Sig] (hs : Sat lo r H w) {b : Nat} (hb : H.get b = none) {l : List AV} {L : List Value} (hL : RelL r l L) (t : TypeId) :
    After lo r w (.p b 0) (H.put b (.row l)) (.pointer (some ⟨w.heap.size, 0, none⟩)) (w.alloc (.cells L.toArray t)) := by
  have hle := Rho.le.set (hs.free b hb) (w.heap.size, 0)
  obtain ⟨_, h2⟩ := hs.newTop (K := 0) hb (Ext.alloc w (.cells L.toArray t)) (ab := .row l) ⟨L, hL.mono hle, Blk.new w L t⟩
  exact ⟨_, hle, mk_p (Rho.set_same _ _ _), h2, modLo (Ext.alloc _ _)⟩
theorem After.newOwn [Sig] (hs : Sat lo r H w) {b : Nat} (hb : H.get b = none) {l : List AV} {L ext : List Value} (hL : RelL r l L) {el sz K m : Nat} {c : Option Nat} {w1 : World} (hw1 : Ext w w1) (hsz : w1.heap.size = w.heap.size) (hlen : (L ++ ext).length = K * sz) (hK : K ≤ maxLen) (hm : m ≤ c.getD K) :
    After lo r w (.sl b 0 0 m c) (H.put b (.own el sz l)) (.slice (some ⟨w.heap.size, 0, none⟩) m (c.getD K)) (w1.alloc (.cells (L ++ ext).toArray el)) := by
  have hle := Rho.le.set (hs.free b hb) (w.heap.size, K)
  have hext := hw1.trans (Ext.alloc w1 (.cells (L ++ ext).toArray el))
  obtain ⟨_, h2⟩ := hs.newTop (K := K) hb hext (ab := .own el sz l) ⟨L, ext, hL.mono hle, by rw [← hsz]; exact heap_alloc_new w1 _, hlen, hK⟩
  refine ⟨_, hle, ?_, h2, modLo hext⟩
  have := mk_sl (r := r.set b (w.heap.size, K)) (b := b) (o := 0) (x := 0) (n := m) (c := c) (Rho.set_same _ _ _) (by simpa using hm)
  simpa using this
theorem mr_alloc [Fr] [Sig] (hs : Sat lo r st.H w) {t : TypeId} {l : List AV} {v : AV} (hz : zeroA P t = some l) (h : st.new (.row l) (.p st.next 0) = some (v, st')) :
    MR P lo n r e w ⟨dst, .alloc t, ty, pos, aft, g⟩ v st'.H := by
  intro a ha
  obtain ⟨rfl, hH, hb, _⟩ := new_eq h
  obtain ⟨L, h1, hL⟩ := zeroA_rel (r := r) hz
  obtain ⟨z, hz1, hz2⟩ := ZeF.zero ⟨h1⟩ w
  have hA := After.newRow hs hb hL t
  rw [← hH] at hA
  refine ⟨_, _, w.alloc (.cells L.toArray t), ?_, .inl rfl, hA⟩
  subst hz2
  simp [execOp, Instr.alloc, hz1, newVar, newRow]
theorem mr_box [Fr] [Sig] (hE : EnvR r e st.T) (hs : Sat lo r st.H w) {t : TypeId} {x : Operand} {u v : AV} (hx : av st.T x = some u) (h : st.new (.row u.cells) (.p st.next 0) = some (v, st')) :
    MR P lo n r e w ⟨dst, .box t x, ty, pos, aft, g⟩ v st'.H := by
  intro a ha
  obtain ⟨rfl, hH, hb, _⟩ := new_eq h
  obtain ⟨V, h1, h2⟩ := av_rel hE hx
  have hA := After.newRow hs hb h2.cells t
  rw [← hH] at hA
  refine ⟨_, _, _, ?_, .inl rfl, hA⟩
  simp [execOp, ev_eq ha h1, Instr.box, newVar, newRow]
theorem made_eq {z : Array Value} {sz : Nat} (hz : z.size = sz) (m : Nat) : (madeCells z (m * sz)).toList = (List.replicate m z.toList).flatten := by
  have hzlen : z.toList.length = sz := by simpa using hz
  have hfl : ((List.replicate m z.toList).flatten).length = m * sz := by simp [hz]
  apply List.ext_getElem?
  intro j
  by_cases hj : j < m * sz
  · have hpos : 0 < sz := by
      rcases Nat.eq_zero_or_pos sz with h | h
      · simp [h] at hj
      · exact h
    have hmod : j % sz < z.toList.length := by rw [hzlen]; exact Nat.mod_lt _ hpos
    have h1 : (madeCells z (m * sz)).toList[j]? = some (z.toList[j % sz]) := by
      simp only [madeCells, Array.toList_map, List.getElem?_map, Array.toList_range, List.getElem?_range hj, Option.map_some]
      congr 1
      rw [hz]
      have : j % sz < z.size := by rw [hz]; exact Nat.mod_lt _ hpos
      rw [getElem!_pos z _ this]
      simp
    rw [h1]
    have hdiv : j / sz < m := by rw [Nat.div_lt_iff_lt_mul hpos]; exact hj
    have hdm := Nat.div_add_mod j sz
    have : j = (j / sz) * z.toList.length + j % sz := by rw [hzlen, Nat.mul_comm]; omega
    have hrep : ∀ (zl : List Value) (m q s : Nat), q < m → (hs : s < zl.length) → ((List.replicate m zl).flatten)[q * zl.length + s]? = some zl[s] := by
      intro zl m
      induction m with
      | zero => intro q s h; omega
      | succ m ih =>
        intro q s hq hs
        rw [List.replicate_succ, List.flatten_cons]
        cases q with
        | zero => rw [Nat.zero_mul, Nat.zero_add, List.getElem?_append_left hs]; simp [hs]
        | succ q =>
          rw [List.getElem?_append_right (by rw [Nat.add_mul]; omega)]
          have : (q + 1) * zl.length + s - zl.length = q * zl.length + s := by rw [Nat.add_mul]; omega
          rw [this]
          exact ih q s (by omega) hs
    have h2 := hrep z.toList m (j / sz) (j % sz) hdiv hmod
    rw [← this] at h2
    exact h2.symm
  · rw [List.getElem?_eq_none (by simp [size_madeCells]; omega), List.getElem?_eq_none (by rw [hfl]; omega)]
theorem zero_rel [Sig] {el : TypeId} {z : List AV} (h : zeroA P el = some z) {i : TypeInfo} {zv : Value} (hi : P.info? el = some i) (hz : i.zero = some zv) : RelL r z zv.cells.toList := by
  obtain ⟨L, h1, h2⟩ := zeroA_rel (r := r) h
  unfold zeroB at h1
  simp only [hi, hz, Option.map_some, Option.some.injEq] at h1
  rw [h1]; exact h2
theorem rep_rel [Sig] {z : List AV} {Z : List Value} (h : RelL r z Z) (m : Nat) : RelL r (rep z m) ((List.replicate m Z).flatten) := h.rep m
theorem fits47_spec {a b : Nat} (h : fits47 a b = true) : a * b ≤ 140737488355328 ∧ a ≤ 140737488355328 := by
  unfold fits47 at h
  split at h
  · rename_i h1 h2; exact ⟨Nat.le_of_ble_eq_true h1, Nat.le_of_ble_eq_true h2⟩
  · cases h
theorem blt_lt {a b : Nat} (h : Nat.blt a b = true) : a < b := Nat.le_of_ble_eq_true h
theorem mr_makeSlice [Fr] [Sig] (hE : EnvR r e st.T) (hs : Sat lo r st.H w) {t el sz by_ : Nat} {x y : Operand} {k1 k2 : IntKind} {m c : Nat} {z : List AV} {v : AV} (hf : sliceB P t = some (el, sz, by_)) (hx : av st.T x = some (.i k1 (.ofNat m))) (hy : av st.T y = some (.i k2 (.ofNat c))) (hz : zeroA P el = some z) (hmc : m ≤ c) (hfit : fits47 c by_ = true)
    (h : st.new (.own el sz (rep z c)) (.sl st.next 0 0 m (some c)) = some (v, st')) : MR P lo n r e w ⟨dst, .makeSlice t x y, ty, pos, aft, g⟩ v st'.H := by
  intro a ha
  obtain ⟨rfl, hH, hb, _⟩ := new_eq h
  obtain ⟨_, h1, hA1⟩ := av_rel hE hx
  obtain ⟨_, h2, hA2⟩ := av_rel hE hy
  have := rel_i hA1; subst this
  have := rel_i hA2; subst this
  obtain ⟨hu, ii, zv, hi, hzv, hsz, hby, hzs⟩ := SlF.facts ⟨hf⟩
  subst hsz hby
  obtain ⟨f1, f2⟩ := fits47_spec hfit
  have hb' : (ii.bytes : Int) * (c : Int) ≤ 281474976710656 := by
    rw [← Int.natCast_mul, Nat.mul_comm]; omega
  have hrun := run_make (P := P) (w := w) t el ii zv hu hi hzv k1 k2 (m : Int) (c : Int) (by omega) (by omega) hb' (by omega)
  have hzr := rep_rel (zero_rel (r := r) hz hi hzv) c
  have hmk := made_eq hzs c
  have hA := After.newOwn (ext := []) (el := el) (sz := ii.size) (K := c) (m := m) (c := some c) (w1 := w) hs hb hzr (Mod.refl w) rfl (by simp [hzs]) (by unfold maxLen; omega) (by simpa using hmc)
  rw [← hH, List.append_nil, ← hmk] at hA
  simp only [Option.getD_some, Array.toArray_toList] at hA
  refine ⟨_, _, _, ?_, .inl rfl, hA⟩
  simp only [Int.toNat_natCast] at hrun
  have h1' := ev_eq ha h1
  have h2' := ev_eq ha h2
  simp only [Int.ofNat_eq_natCast] at h1' h2'
  simp [execOp, h1', h2', hrun]
theorem mr_makeBig [Fr] [Sig] (hE : EnvR r e st.T) (hs : Sat lo r st.H w) {t el sz by_ : Nat} {x y : Operand} {k1 k2 : IntKind} {m c : Nat} {z : List AV} {v : AV} (hf : sliceB P t = some (el, sz, by_)) (hx : av st.T x = some (.i k1 (.ofNat m))) (hy : av st.T y = some (.i k2 (.ofNat c))) (hz : zeroA P el = some z) (hmc : m ≤ c) (hfit : fits47 c by_ = true) (hpos : Nat.blt 0 sz = true) (hbig : Nat.ble c 100000 = false)
    (h : st.new (.ro (rep z 16)) (.sl st.next 0 0 m (some c)) = some (v, st')) : MR P lo n r e w ⟨dst, .makeSlice t x y, ty, pos, aft, g⟩ v st'.H := by
  intro a ha
  obtain ⟨rfl, hH, hb, _⟩ := new_eq h
  obtain ⟨_, h1, hA1⟩ := av_rel hE hx
  obtain ⟨_, h2, hA2⟩ := av_rel hE hy
  have := rel_i hA1; subst this
  have := rel_i hA2; subst this
  obtain ⟨hu, ii, zv, hi, hzv, hsz, hby, hzs⟩ := SlF.facts ⟨hf⟩
  subst hsz hby
  obtain ⟨f1, f2⟩ := fits47_spec hfit
  have hb' : (ii.bytes : Int) * (c : Int) ≤ 281474976710656 := by
    rw [← Int.natCast_mul, Nat.mul_comm]; omega
  have hrun := run_make (P := P) (w := w) t el ii zv hu hi hzv k1 k2 (m : Int) (c : Int) (by omega) (by omega) hb' (by omega)
  have hmk := made_eq hzs c
  have hc : 16 ≤ c := by
    rcases Nat.lt_or_ge 100000 c with h | h
    · omega
    · rw [Nat.ble_eq_true_of_le h] at hbig; cases hbig
  have hsplit : (List.replicate c zv.cells.toList).flatten = (List.replicate 16 zv.cells.toList).flatten ++ (List.replicate (c - 16) zv.cells.toList).flatten := by
    rw [← List.flatten_append, List.replicate_append_replicate, show 16 + (c - 16) = c by omega]
  have hext : Ext w (w.alloc (.cells (madeCells zv.cells (c * ii.size)) el)) := Ext.alloc w _
  have hblk : Blk (w.alloc (.cells (madeCells zv.cells (c * ii.size)) el)) w.heap.size ((List.replicate 16 zv.cells.toList).flatten ++ (List.replicate (c - 16) zv.cells.toList).flatten) := by
    have := Blk.new w ((List.replicate c zv.cells.toList).flatten) el
    rw [← hmk, Array.toArray_toList] at this
    rw [hmk, hsplit] at this
    exact this
  have hle := Rho.le.set (hs.free _ hb) (w.heap.size, c)
  obtain ⟨_, hsat⟩ := hs.newTop (K := c) hb hext (ab := .ro (rep z 16)) ⟨_, (rep_rel (zero_rel (r := r) hz hi hzv) 16).mono hle, hblk.at.left, hblk.lt⟩
  refine ⟨_, .slice (some ⟨w.heap.size, 0, none⟩) m c, _, ?_, .inl rfl, _, hle, ?_, by rw [hH]; exact hsat, modLo hext⟩
  · simp only [Int.toNat_natCast] at hrun
    have h1' := ev_eq ha h1
    have h2' := ev_eq ha h2
    simp only [Int.ofNat_eq_natCast] at h1' h2'
    simp [execOp, h1', h2', hrun]
  · have := mk_sl (r := r.set st.next (w.heap.size, c)) (b := st.next) (o := 0) (x := 0) (n := m) (c := some c) (Rho.set_same _ _ _) (by simpa using hmc)
    simpa using this
end
end Go.Proofs.YtfoabgljfikklaaGreatDoor.V
