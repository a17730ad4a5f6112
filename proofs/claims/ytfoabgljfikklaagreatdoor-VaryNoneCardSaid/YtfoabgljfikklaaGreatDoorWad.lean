/-
  The rules for slices (literals, make, append, slicing), conversions between bytes and strings, calls of functions; and for each form of code, a loop, a call, a return. No condition: these are rules over any program; The rules for calls of functions, for each form of code, a loop, an entry, a return. No condition: these are rules over any program.
-/
import Derived.Test.YtfoabgljfikklaaGreatDoorWac
import Derived.Deep.LoopGhost
import Derived.Scope
set_option linter.unusedVariables false
set_option linter.unusedSimpArgs false
namespace Go.Proofs.YtfoabgljfikklaaGreatDoor.V
section
variable {P : Program} {ops : Array Oper} {Q : Exit → Act → World → Prop} {S : World → Prop} {n : Nat}
variable {i : Nat} {p : Plan} {e : Env} {w : World} {k : Kd} {dst : Option Tmp} {ty : TypeId} {pos : String} {aft : Array Edge} {g : Option (Nat × Bool)}
theorem evParts [Fr] {a : Act} (ha : Knows a e n) : ∀ (l : List (Nat × Operand)) (us : List (Nat × Value)), l.mapM (fun x => (ev e x.2).map fun v => (x.1, v)) = some us → l.map (fun (i, x) => (i, a.eval x)) = us := by
  intro l
  induction l with
  | nil => intro us h; simp at h; simp [h]
  | cons x r ih =>
    intro us h
    rw [List.mapM_cons] at h
    cases hv : ev e x.2 with
    | none => simp [hv] at h
    | some v =>
      cases hr : r.mapM (fun x => (ev e x.2).map fun v => (x.1, v)) with
      | none => simp [hv, hr] at h
      | some vr =>
        simp [hv, hr] at h
        subst h
        simp [ev_eq ha hv, ← ih vr hr]
def sliceL (P : Program) (t : TypeId) (len : Nat) (pl : List (Nat × List Value)) : Option (List Value) :=
  match P.underlying t with
  | some (.slice el) => match P.info? el with
    | some i => match i.zero with
      | some z => match Nat.blt 0 (len * i.size), Nat.ble (len * i.size) 16777216 with
        | true, true => fillL (fun j => some (j * i.size, i.size)) (((Array.range (len * i.size)).map (z.cells[· % z.cells.size]!)).toList) pl
        | _, _ => none
      | none => none
    | none => none
  | _ => none
theorem GO.buildSlice [Fr] {t : TypeId} {len : Nat} {parts : Array (Nat × Operand)} {vs : List (Nat × Value)} {pl : List (Nat × List Value)} {out : List Value} {el : TypeId} {sz by_ : Nat} [hf : SlF P t el sz by_]
    (hb : sliceL P t len pl = some out) (hfit : len * by_ ≤ 140737488355328 ∧ len ≤ maxLen) (hw : wantedE ops e ⟨dst, .buildSlice t len parts, ty, pos, aft, g⟩ = some true)
    (hx : parts.toList.mapM (fun x => (ev e x.2).map fun v => (x.1, v)) = some vs) (hp : vs.map (fun x => (x.1, x.2.cells.toList)) = pl) (hlen : out.length = len * sz) (hd : fits n dst = true)
    (h : ∀ b w', b = w.heap.size → OwnS w' el sz (some b) (some ⟨b, 0, none⟩) len len out → Ext w w' → (lateIx ops i = false → S w → S w') ∧ GX P ops Q S n p (e.put dst (.slice (some ⟨b, 0, none⟩) len len)) w') : GO P ops Q S n .eff i ⟨dst, .buildSlice t len parts, ty, pos, aft, g⟩ p e w := by
  refine GO.run (R := fun u w' => u = .slice (some ⟨w.heap.size, 0, none⟩) len len ∧ OwnS w' el sz (some w.heap.size) (some ⟨w.heap.size, 0, none⟩) len len out ∧ Ext w w') hw hd (fun a ha => ?_) (by rintro _ w' ⟨rfl, h1, h2⟩; exact h _ w' rfl h1 h2)
  have hparts : (parts.map fun (i, x) => (i, a.eval x)).toList = vs := by simpa using evParts ha parts.toList vs hx
  obtain ⟨hu, ii, z, hi, hz, hs, _, hzs⟩ := hf.facts
  unfold sliceL at hb
  simp only [hu, hi, hz] at hb
  split at hb
  · rename_i h1 h2
    have hpos : ¬ len * ii.size = 0 := by have := h1; simp [Nat.blt] at this; omega
    have hle : ¬ len * ii.size > 2 ^ 24 := by have := Nat.le_of_ble_eq_true h2; omega
    have hff := fill_eq _ vs pl _ out hp hb
    subst hs
    refine ⟨_, _, w.alloc (.cells out.toArray el), ?_, .inl rfl, rfl, ?_, Ext.alloc _ _⟩
    · simp only [execOp, Sem.run_bind, Instr.buildSlice, run_underlying hu, Result.andThen_ok, Go.sizeOf, typeInfo, run_program, hi, Sem.run_pure, if_neg hle, if_neg hpos, zeroValue, hz, hparts]
      rw [hff]
      simp [newRow]
    · refine OwnS.new ⟨hlen, .inr ⟨w.heap.size, len, out.toArray, rfl, Nat.zero_le _, heap_alloc_new w _, Nat.le_refl _, hfit.2, by simpa using hlen, ?_⟩⟩
      rw [← hlen]; simp
  · cases hb
theorem GO.makeSlice [Fr] {t : TypeId} {x y : Operand} {k1 k2 : IntKind} {l c : Int} {el : TypeId} {sz by_ : Nat} [hf : SlF P t el sz by_] {zl : List Value} (hz0 : zeroB P el = some zl)
    (hw : wantedE ops e ⟨dst, .makeSlice t x y, ty, pos, aft, g⟩ = some true) (hx : ev e x = some (.int k1 l)) (hy : ev e y = some (.int k2 c)) (h0 : 0 ≤ l) (hlc : l ≤ c) (hb : (by_ : Int) * c ≤ 281474976710656) (h63 : c ≤ 4611686018427387904) (hd : fits n dst = true)
    (h : ∀ b w', b = w.heap.size → OwnS w' el sz (some b) (some ⟨b, 0, none⟩) l.toNat c.toNat ((List.replicate l.toNat zl).flatten) → Ext w w' → (lateIx ops i = false → S w → S w') ∧ GX P ops Q S n p (e.put dst (.slice (some ⟨b, 0, none⟩) l.toNat c.toNat)) w') : GO P ops Q S n .eff i ⟨dst, .makeSlice t x y, ty, pos, aft, g⟩ p e w := by
  refine GO.run (R := fun u w' => u = .slice (some ⟨w.heap.size, 0, none⟩) l.toNat c.toNat ∧ OwnS w' el sz (some w.heap.size) (some ⟨w.heap.size, 0, none⟩) l.toNat c.toNat ((List.replicate l.toNat zl).flatten) ∧ Ext w w') hw hd (fun a ha => ?_) (by rintro _ w' ⟨rfl, h1, h2⟩; exact h _ w' rfl h1 h2)
  obtain ⟨hu, ii, z, hi, hz, hs, hby, hzs⟩ := hf.facts
  subst hs
  subst hby
  have hzl : z.cells.toList = zl := by
    unfold zeroB at hz0
    simp [hi, hz] at hz0
    simpa using hz0
  have hr := run_make (P := P) w t el ii z hu hi hz k1 k2 l c h0 hlc hb (by omega)
  refine ⟨_, _, w.alloc (.cells (madeCells z.cells (c.toNat * ii.size)) el), by simp [execOp, ev_eq ha hx, ev_eq ha hy, hr], .inl rfl, rfl, ?_, Ext.alloc _ _⟩
  have hzlen : zl.length = ii.size := by rw [← hzl]; simpa using hzs
  have hfl : ∀ m, ((List.replicate m zl).flatten).length = m * ii.size := by
    intro m; simp [hzlen]
  refine OwnS.new ⟨hfl _, .inr ⟨w.heap.size, c.toNat, _, rfl, Nat.zero_le _, heap_alloc_new w _, by omega, by unfold maxLen; omega, by simp [size_madeCells], ?_⟩⟩
  have key : ∀ m, (madeCells z.cells (m * ii.size)).toList = (List.replicate m zl).flatten := by
    intro m
    apply List.ext_getElem?
    intro j
    by_cases hj : j < m * ii.size
    · have hpos : 0 < ii.size := by
        rcases Nat.eq_zero_or_pos ii.size with h | h
        · simp [h] at hj
        · exact h
      have hmod : j % ii.size < zl.length := by rw [hzlen]; exact Nat.mod_lt _ hpos
      have h1 : (madeCells z.cells (m * ii.size)).toList[j]? = some (zl[j % ii.size]) := by
        simp only [madeCells, Array.toList_map, List.getElem?_map, Array.toList_range, List.getElem?_range hj, Option.map_some]
        congr 1
        rw [hzs]
        have : j % ii.size < z.cells.size := by rw [hzs]; exact Nat.mod_lt _ hpos
        rw [getElem!_pos z.cells _ this]
        subst hzl
        simp
      rw [h1]
      have hdiv : j / ii.size < m := by
        rw [Nat.div_lt_iff_lt_mul hpos]; exact hj
      have hdm := Nat.div_add_mod j ii.size
      have : j = (j / ii.size) * zl.length + j % ii.size := by rw [hzlen, Nat.mul_comm]; omega
      have hrep : ∀ (m q r : Nat), q < m → (hr : r < zl.length) → ((List.replicate m zl).flatten)[q * zl.length + r]? = some zl[r] := by
        intro m
        induction m with
        | zero => intro q r h; omega
        | succ m ih =>
          intro q r hq hr
          rw [List.replicate_succ, List.flatten_cons]
          cases q with
          | zero => rw [Nat.zero_mul, Nat.zero_add, List.getElem?_append_left hr]; simp [hr]
          | succ q =>
            rw [List.getElem?_append_right (by rw [Nat.add_mul]; omega)]
            have : (q + 1) * zl.length + r - zl.length = q * zl.length + r := by rw [Nat.add_mul]; omega
            rw [this]
            exact ih q r (by omega) hr
      have h2 := hrep m (j / ii.size) (j % ii.size) hdiv hmod
      rw [← this] at h2
      exact h2.symm
    · rw [List.getElem?_eq_none (by simp [size_madeCells]; omega), List.getElem?_eq_none (by rw [hfl]; omega)]
  have hsplit : (List.replicate c.toNat zl) = List.replicate l.toNat zl ++ List.replicate (c.toNat - l.toNat) zl := by
    rw [List.replicate_append_replicate]; congr 1; omega
  rw [key, hsplit, List.flatten_append, ← hfl l.toNat, List.take_left]
theorem GO.sliceS [Fr] {k : Kd} (hk : kOk k = true) {t : TypeId} {x : Operand} {lo hi mx : Option Operand} {a : Option Addr} {len cap l h m : Nat} {el : TypeId} {sz by_ : Nat} [hf : SlF P t el sz by_]
    (hw : wantedE ops e ⟨dst, .slice t x lo hi mx, ty, pos, aft, g⟩ = some true) (hx : ev e x = some (.slice a len cap)) (hd : fits n dst = true)
    (hb : ∀ w : World, (Instr.sliceBounds true len cap (lo.map fun y => (ev e y).getD undef) (hi.map fun y => (ev e y).getD undef) (mx.map fun y => (ev e y).getD undef)).run P w = .ok (l, h, m) w)
    (hev : (∀ y, lo = some y → (ev e y).isSome) ∧ (∀ y, hi = some y → (ev e y).isSome) ∧ (∀ y, mx = some y → (ev e y).isSome))
    (hh : GX P ops Q S n p (e.put dst (.slice (sliced' a l m sz) (h - l) (m - l))) w) : GO P ops Q S n k i ⟨dst, .slice t x lo hi mx, ty, pos, aft, g⟩ p e w := by
  refine GO.val (kOk_or hk) hw hd (fun ac ha w => ?_) hh
  have hm : ∀ (y : Option Operand), (∀ z, y = some z → (ev e z).isSome) → y.map ac.eval = y.map fun y => (ev e y).getD undef := by
    intro y hy
    cases y with
    | none => rfl
    | some z =>
      obtain ⟨v, hv⟩ := Option.isSome_iff_exists.1 (hy z rfl)
      simp [ev_eq ha hv, hv]
  have h1 := run_slice_any (P := P) (w := w) t a len cap hf.undX (lo.map fun y => (ev e y).getD undef) (hi.map fun y => (ev e y).getD undef) (mx.map fun y => (ev e y).getD undef)
  simp only [hb, Result.andThen_ok, hf.sizeX] at h1
  simp only [execOp, Sem.run_bind, ev_eq ha hx, hm lo hev.1, hm hi hev.2.1, hm mx hev.2.2, run_sliceAt_slice (w := w) t _ _ _ _ hf.undX, h1, Result.andThen_ok, Sem.run_pure]
  rfl
theorem bounds_l {len cap : Nat} {kl : IntKind} {l : Int} (h0 : 0 ≤ l) (h1 : l ≤ len) (w : World) : (Instr.sliceBounds true len cap (some (.int kl l)) none none).run P w = .ok (l.toNat, len, cap) w := by
  simp [Instr.sliceBounds, run_sliceBound, h0, h1]
theorem bounds_h {len cap : Nat} {kh : IntKind} {h : Int} (h0 : 0 ≤ h) (h1 : h ≤ cap) (w : World) : (Instr.sliceBounds true len cap none (some (.int kh h)) none).run P w = .ok (0, h.toNat, cap) w := by
  simp [Instr.sliceBounds, run_sliceBound, h0, h1]
theorem bounds_lh {len cap : Nat} {kl kh : IntKind} {l h : Int} (h0 : 0 ≤ l) (h1 : l ≤ h) (h2 : h ≤ cap) (w : World) : (Instr.sliceBounds true len cap (some (.int kl l)) (some (.int kh h)) none).run P w = .ok (l.toNat, h.toNat, cap) w := by
  have e1 : ((h.toNat : Nat) : Int) = h := Int.toNat_of_nonneg (by omega)
  simp [Instr.sliceBounds, run_sliceBound, h0, h1, h2, e1, (by omega : 0 ≤ h)]
theorem bounds_0 {len cap : Nat} (w : World) : (Instr.sliceBounds true len cap none none none).run P w = .ok (0, len, cap) w := by
  simp [Instr.sliceBounds]
theorem bounds_hm {len cap : Nat} {kh km : IntKind} {h m : Int} (h0 : 0 ≤ h) (h1 : h ≤ m) (h2 : m ≤ cap) (w : World) : (Instr.sliceBounds true len cap none (some (.int kh h)) (some (.int km m))).run P w = .ok (0, h.toNat, m.toNat) w := by
  have e1 : ((m.toNat : Nat) : Int) = m := Int.toNat_of_nonneg (by omega)
  simp [Instr.sliceBounds, run_sliceBound, h0, h1, h2, e1, (by omega : 0 ≤ m)]
theorem bounds_lhm {len cap : Nat} {kl kh km : IntKind} {l h m : Int} (h0 : 0 ≤ l) (h1 : l ≤ h) (h2 : h ≤ m) (h3 : m ≤ cap) (w : World) : (Instr.sliceBounds true len cap (some (.int kl l)) (some (.int kh h)) (some (.int km m))).run P w = .ok (l.toNat, h.toNat, m.toNat) w := by
  have e1 : ((h.toNat : Nat) : Int) = h := Int.toNat_of_nonneg (by omega)
  have e2 : ((m.toNat : Nat) : Int) = m := Int.toNat_of_nonneg (by omega)
  simp [Instr.sliceBounds, run_sliceBound, h0, h1, h2, h3, e1, e2, (by omega : 0 ≤ m), (by omega : 0 ≤ h)]
theorem GO.sliceStr [Fr] {k : Kd} (hk : kOk k = true) {t : TypeId} [hu : UnF P t .string] {x : Operand} {lo hi : Option Operand} {s : ByteArray} {l h : Nat}
    (hw : wantedE ops e ⟨dst, .slice t x lo hi none, ty, pos, aft, g⟩ = some true) (hx : ev e x = some (.string s)) (hd : fits n dst = true)
    (hb : ∀ w : World, (Instr.sliceBounds false s.size s.size (lo.map fun y => (ev e y).getD undef) (hi.map fun y => (ev e y).getD undef) none).run P w = .ok (l, h, s.size) w)
    (hev : (∀ y, lo = some y → (ev e y).isSome) ∧ (∀ y, hi = some y → (ev e y).isSome))
    (hh : GX P ops Q S n p (e.put dst (.string (s.extract l h))) w) : GO P ops Q S n k i ⟨dst, .slice t x lo hi none, ty, pos, aft, g⟩ p e w := by
  refine GO.val (kOk_or hk) hw hd (fun ac ha w => ?_) hh
  have hm : ∀ (y : Option Operand), (∀ z, y = some z → (ev e z).isSome) → y.map ac.eval = y.map fun y => (ev e y).getD undef := by
    intro y hy
    cases y with
    | none => rfl
    | some z =>
      obtain ⟨v, hv⟩ := Option.isSome_iff_exists.1 (hy z rfl)
      simp [ev_eq ha hv, hv]
  simp [execOp, ev_eq ha hx, hm lo hev.1, hm hi hev.2, run_sliceAt_string (w := w) t _ _ _ _ hu.out, Instr.slice, run_underlying hu.out, hb]
theorem run_appendS {t el : TypeId} {sz by_ : Nat} (hf : SlF P t el sz by_) {ob : Option Nat} {a a2 : Option Addr} {len cap m c2 : Nat} {cs news : List Value} (hO : OwnS w el sz ob a len cap cs) (hN : SlA w a2 news) (hnl : news.length = m * sz) (h1 : ∀ u ∈ news, u.oneCell' = true)
    (hb : (len + m) * by_ ≤ 140737488355328) (hm : len + m ≤ 140737488355328) (hz : 0 < sz) :
    ∃ ob' a' c' w', (Builtin.append_ #[t, t] ty #[.slice a len cap, .slice a2 m c2]).run P w = .ok (.slice a' (len + m) c') w' ∧ OwnS w' el sz ob' a' (len + m) c' (cs ++ news) ∧ Mod (fun k => some k = ob) w w' ∧ (∀ x, ob' = some x → ob = some x ∨ w.heap.size ≤ x) ∧ (∀ x, a' = some x → ob' = some x.block ∨ (a = some x ∧ ob' = ob)) := by
  obtain ⟨hu, ii, z, hi, hzv, hs, hby, hzs⟩ := hf.facts
  subst hs
  subst hby
  have h63 : len + m ≤ maxLen := by unfold maxLen; omega
  have hsmall : ((len + m : Nat) : Int) ≤ 9223372036854775807 := by omega
  -- nothing comes
  by_cases hm0 : m = 0
  · subst hm0
    have hn0 : news = [] := List.eq_nil_of_length_eq_zero (by simpa using hnl)
    subst hn0
    refine ⟨ob, a, cap, w, ?_, by simpa using hO, Mod.refl w, fun x hx => .inl hx, fun x hx => .inr ⟨hx, rfl⟩⟩
    have hle : len ≤ cap := by
      obtain ⟨_, ⟨_, h, _, _⟩ | ⟨b, _, rfl, hl, h | ⟨g, c, cur, hv, _, hg, hle, _⟩⟩⟩ := hO
      · omega
      · cases h.1
      · simp only [Value.slice.injEq] at hv; omega
    have hfc : (Builtin.firstCells ii.size 0 (.slice a2 0 c2)).run P w = .ok #[] w := by
      cases a2 with
      | none => simp [Builtin.firstCells]
      | some x => simpa using run_firstCells_some (P := P) w ii.size 0 x 0 c2 [] (by simp) (by simp)
    cases a with
    | none => simp [Builtin.append_, run_underlying hu, Go.sizeOf, typeInfo, hi, Builtin.lenOf, hle, hfc]
    | some x => simp [Builtin.append_, run_underlying hu, Go.sizeOf, typeInfo, hi, Builtin.lenOf, hle, hfc, storeCells]
  · have hpos : 0 < m := by omega
    have hnpos : 0 < news.length := by rw [hnl]; exact Nat.mul_pos hpos hz
    obtain ⟨b2, o2, rfl, hN'⟩ := hN.of_pos hnpos
    have hnews : ∀ j u, news[j]? = some u → w.cell? ((⟨b2, o2, none⟩ : Addr).add j) = some u := fun j u hu => by rw [add_none]; exact hN' j u hu
    obtain ⟨hl, ⟨rfl, rfl, hsl, h0⟩ | ⟨b, rfl, rfl, hown⟩⟩ := hO
    · -- it is full: it is copied
      have fresh : ∀ (old c' : Nat), (w.drew.alloc (.cells (cs.toArray ++ news.toArray ++ Builtin.zeroCells z.cells (grownCap w (cap + m) old el - (cap + m))) el)).ownsRow 0 el ii.size (.slice (some ⟨w.heap.size, 0, none⟩) (cap + m) (grownCap w (cap + m) old el)) (cap + m) (cs ++ news) := by
        intro old _
        have hge := grownCap_ge w (cap + m) old el
        have hcm : grownCap w (cap + m) old el ≤ maxLen := grownCap_le_maxLen w (cap + m) old el h63
        have hlen : (cs ++ news).length = (cap + m) * ii.size := by rw [List.length_append, hl, hnl, Nat.add_mul]
        refine ⟨hlen, .inr ⟨w.heap.size, _, _, rfl, Nat.zero_le _, heap_alloc_new w.drew _, hge, hcm, ?_, ?_⟩⟩
        · simp only [Array.size_append, List.size_toArray, size_zeroCells, hzs, hl, hnl, ← Nat.add_mul]
          congr 1
          omega
        · simp only [Array.toList_append, List.append_assoc]
          rw [← List.append_assoc, ← hlen]
          exact List.take_left
      have hmod : ∀ o, Mod (fun k => some k = none) w (w.drew.alloc o) := fun o => Ext.mod ((Ext.drew w).trans (Ext.alloc w.drew o))
      match a, hsl, h0 with
      | none, hsl, h0 =>
        have hc0 := h0 rfl
        subst hc0
        have hcs : cs = [] := hsl
        subst hcs
        have hr := run_append_nil (P := P) w t ty el ii z hu hi hzv ⟨b2, o2, none⟩ m c2 news hnl hnews hpos (by omega) (by simp at hb; omega)
        have hf' := fresh 0 0
        simp only [Nat.zero_add, List.nil_append, Array.empty_append] at hf' ⊢
        exact ⟨some w.heap.size, _, _, _, hr, OwnS.new hf', hmod _, fun x hx => by cases hx; exact .inr (Nat.le_refl _), fun x hx => by cases hx; exact .inl rfl⟩
      | some ⟨b1, o1, none⟩, hsl, h0 =>
        have hr := run_append_grow (P := P) w t ty el ii z hu hi hzv ⟨b1, o1, none⟩ cap cap cs hl (fun j u hu => by rw [add_none]; exact hsl j u hu) ⟨b2, o2, none⟩ m c2 news hnl hnews (by omega) hsmall (growslice_fits (by omega) hb)
        exact ⟨some w.heap.size, _, _, _, hr, OwnS.new (fresh cap 0), hmod _, fun x hx => by cases hx; exact .inr (Nat.le_refl _), fun x hx => by cases hx; exact .inl rfl⟩
      | some ⟨b1, o1, some s1⟩, hsl, h0 =>
        have hcs : cs = [] := hsl
        subst hcs
        have hr := run_append_grow (P := P) w t ty el ii z hu hi hzv ⟨b1, o1, some s1⟩ cap cap [] hl (fun j u hu => by simp at hu) ⟨b2, o2, none⟩ m c2 news hnl hnews (by omega) hsmall (growslice_fits (by omega) hb)
        exact ⟨some w.heap.size, _, _, _, hr, OwnS.new (fresh cap 0), hmod _, fun x hx => by cases hx; exact .inr (Nat.le_refl _), fun x hx => by cases hx; exact .inl rfl⟩
    · -- it is the owner's own
      obtain ⟨v', w', hr, hown', hgr, _⟩ := run_append_own (P := P) w 0 t ty el ii z ii.size ii.bytes hu hi hzv rfl rfl hzs hz (.slice (some ⟨b, 0, none⟩) len cap) len cs hown ⟨b2, o2, none⟩ m c2 news hnl hnews h1 h63 hb (Nat.zero_le _)
      have hv : ∃ b' c', v' = .slice (some ⟨b', 0, none⟩) (len + m) c' ∧ (b' = b ∨ w.heap.size ≤ b') := by
        obtain ⟨_, h | ⟨g, c, cur, h, _, hg, _, _, hcs, htk⟩⟩ := hown
        · cases h.1
        · cases h
          by_cases hroom : len + m ≤ cap
          · have hr2 := run_append_room (P := P) w t ty el ii hu hi b len cap cur hg ⟨b2, o2, none⟩ m c2 news hnl hnews h1 hroom (by rw [hnl, hcs, ← Nat.add_mul]; exact Nat.mul_le_mul_right _ hroom)
            rw [hr] at hr2
            cases hr2
            exact ⟨_, _, rfl, .inl rfl⟩
          · have hr2 := run_append_grow (P := P) w t ty el ii z hu hi hzv ⟨b, 0, none⟩ len cap cs hl (fun j u hu => by
                rw [add_none, cell_of_row w _ _ cur el _ hg]
                rw [← htk, List.getElem?_take] at hu
                split at hu
                · simpa using hu
                · cases hu) ⟨b2, o2, none⟩ m c2 news hnl hnews (by omega) hsmall (growslice_fits (by omega) hb)
            rw [hr] at hr2
            cases hr2
            exact ⟨_, _, rfl, .inr (Nat.le_refl _)⟩
      obtain ⟨b', c', rfl, hb'⟩ := hv
      refine ⟨some b', _, c', w', hr, OwnS.new hown', (Mod.of_grown hgr).weaken fun k _ h => by simpa [Value.ownBlock] using h, fun x hx => ?_, fun x hx => by cases hx; exact .inl rfl⟩
      cases hx
      rcases hb' with rfl | h
      · exact .inl rfl
      · exact .inr h
theorem GO.append [Fr] {x y : Operand} {t el : TypeId} {sz by_ : Nat} [hf : SlF P t el sz by_] {ob : Option Nat} {a a2 : Option Addr} {len cap m c2 : Nat} {cs news : List Value} (hO : OwnS w el sz ob a len cap cs) (hN : SlA w a2 news) (hnl : news.length = m * sz) (h1 : ∀ u ∈ news, u.oneCell' = true)
    (hb : (len + m) * by_ ≤ 140737488355328) (hm : len + m ≤ 140737488355328) (hz : Nat.blt 0 sz = true) (hw : wantedE ops e ⟨dst, .call ⟨.builtin .append, #[x, y], #[t, t]⟩, ty, pos, aft, g⟩ = some true) (hx : ev e x = some (.slice a len cap)) (hy : ev e y = some (.slice a2 m c2)) (hd : fits n dst = true)
    (h : ∀ ob' a' c' w', OwnS w' el sz ob' a' (len + m) c' (cs ++ news) → Mod (fun k => some k = ob) w w' → (∀ x, ob' = some x → ob = some x ∨ w.heap.size ≤ x) → (∀ x, a' = some x → ob' = some x.block ∨ (a = some x ∧ ob' = ob)) →
      (lateIx ops i = false → S w → S w') ∧ GX P ops Q S n p (e.put dst (.slice a' (len + m) c')) w') : GO P ops Q S n .eff i ⟨dst, .call ⟨.builtin .append, #[x, y], #[t, t]⟩, ty, pos, aft, g⟩ p e w := by
  have hz' : 0 < sz := by have := hz; simp [Nat.blt] at this; omega
  obtain ⟨ob', a', c', w', hr, hown, hmod, hbl, hal⟩ := run_appendS (P := P) (ty := ty) hf hO hN hnl h1 hb hm hz' (c2 := c2)
  refine GO.run (R := fun u w1 => u = .slice a' (len + m) c' ∧ w1 = w') hw hd (fun ac ha => ⟨_, _, w', ?_, .inl rfl, rfl, rfl⟩) (by rintro _ w1 ⟨rfl, hw1⟩; rw [hw1]; exact h ob' a' c' w' hown hmod hbl hal)
  simp [execOp, resolve, invoke, builtin, ev_eq ha hx, ev_eq ha hy, hr]
theorem run_bytesStr {l : List UInt8} {a : Option Addr} {c : Nat} (h : SlA w a (bytesV l)) : (Conv.bytesToString (.slice a l.length c)).run P w = .ok (str l) w := by
  match a, h with
  | none, h =>
    have : l = [] := by
      have := congrArg List.length h
      simpa using List.eq_nil_of_length_eq_zero (by simpa using this)
    subst this
    rfl
  | some ⟨b, o, none⟩, h =>
    have h1 := run_loadCells_list (P := P) w ⟨b, o, none⟩ (bytesV l) (fun j v hv => by rw [add_none]; exact h j v hv)
    have h2 : bytesV l = (l.map fun x => (x.toNat : Int)).map (Value.int .u8) := by simp [bytesV, byteV]
    rw [length_bytesV, h2] at h1
    rw [run_bytesToString w _ _ _ _ h1]
    have key : ∀ (l : List UInt8) (s : ByteArray), (l.map fun x => (x.toNat : Int)).foldl (fun (r : ByteArray) n => r.push (UInt8.ofNat n.toNat)) s = ⟨s.data ++ l.toArray⟩ := by
      intro l
      induction l with
      | nil => intro s; simp
      | cons x r ih =>
        intro s
        rw [List.map_cons, List.foldl_cons, ih]
        simp [ByteArray.push]
    have h0 : ByteArray.empty.data = #[] := rfl
    rw [key, h0]
    simp [str]
  | some ⟨b, o, some s⟩, h =>
    have h0 : l = [] := by
      have := congrArg List.length h
      simpa using List.eq_nil_of_length_eq_zero (by simpa using this)
    subst h0
    have h1 := run_loadCells_list (P := P) w ⟨b, o, some s⟩ [] (fun j v hv => by simp at hv)
    rw [List.length_nil] at h1 ⊢
    rw [run_bytesToString w _ _ _ [] h1]
    rfl
theorem run_toBytes {src dT el : TypeId} (hs : P.underlying src = some .string) (hd' : P.underlying dT = some (.slice el)) (hel : P.underlying el = some (.int .u8)) (l : List UInt8) :
    ∃ c w', (convert src dT (str l)).run P w = .ok (.slice (some ⟨w.heap.size, 0, none⟩) l.length c) w' ∧ l.length ≤ c ∧ At w' w.heap.size 0 (bytesV l) ∧ Ext w w' := by
  have hsz : (⟨l.toArray⟩ : ByteArray).size = l.length := by simp [ByteArray.size]
  obtain ⟨cap, hcap⟩ : ∃ cap, cap = grownCap w l.length 0 el := ⟨_, rfl⟩
  obtain ⟨cells, hcells⟩ : ∃ cells : Array Value, cells = (l.map fun b => (.int .u8 b.toNat : Value)).toArray ++ Array.replicate (cap - l.length) (.int .u8 0) := ⟨_, rfl⟩
  have hq : (choose (.appendCap l.length 0 el)).run P w = .ok cap w.drew := by simp [Question.forced, hcap, grownCap]
  have hnew : (w.drew.alloc (.cells cells el)).heap[w.heap.size]? = some (.cells cells el (0, 0)) := heap_alloc_new w.drew _
  have hr : (convert src dT (str l)).run P w = .ok (.slice (some ⟨w.heap.size, 0, none⟩) l.length cap) ((w.drew.alloc (.cells cells el)).freeze ⟨w.heap.size, cells.size, none⟩ 1) := by
    have hrow : (newRow el cells).run P w.drew = .ok ⟨w.heap.size, 0, none⟩ (w.drew.alloc (.cells cells el)) := by simp [newRow]
    have hmk : (markStringish ⟨w.heap.size, 0, none⟩).run P (w.drew.alloc (.cells cells el)) = .ok () ((w.drew.alloc (.cells cells el)).freeze ⟨w.heap.size, cells.size, none⟩ 1) := by
      simp only [markStringish, Sem.run_bind, run_shape, World.shape?, hnew, Result.andThen_ok, run_freeze]
    have hdat : ((⟨l.toArray⟩ : ByteArray).data.map fun b => (.int .u8 b.toNat : Value)) = (l.map fun b => (.int .u8 b.toNat : Value)).toArray := by simp
    simp only [convert, str, Sem.run_bind, run_underlying hs, run_underlying hd', run_underlying hel, Result.andThen_ok, Conv.stringToBytes, hsz, hq, hdat, ← hcells, hrow, hmk, Sem.run_pure]
  refine ⟨cap, _, hr, by rw [hcap]; exact grownCap_ge w _ _ _, ?_, ?_⟩
  · intro i v hv
    have h1 : (((w.drew.alloc (.cells cells el)).freeze ⟨w.heap.size, cells.size, none⟩ 1)).heap[w.heap.size]? = some (.cells cells el (cells.size, cells.size + 1)) := by
      simp only [World.freeze, Nat.one_ne_zero, if_false, Array.getElem?_modify, if_true, hnew, Option.map_some]
      rfl
    rw [cell_of_row _ _ _ cells el _ h1]
    have hi : i < l.length := by have := (List.getElem?_eq_some_iff.1 hv).1; simpa using this
    rw [hcells, Nat.zero_add, Array.getElem?_append_left (by simpa using hi)]
    simpa [bytesV, byteV] using hv
  · have h1 : Ext w (w.drew.alloc (.cells cells el)) := (Ext.drew w).trans (Ext.alloc w.drew _)
    refine ⟨h1.os, h1.tape, h1.output, Nat.le_trans h1.size (by simp [World.freeze]), fun k hk hn => Eq.trans ?_ (h1.block k hk hn)⟩
    simp only [World.freeze, Nat.one_ne_zero, if_false, Array.getElem?_modify]
    rw [if_neg (by omega)]
end
end Go.Proofs.YtfoabgljfikklaaGreatDoor.V
namespace Go.Proofs.YtfoabgljfikklaaGreatDoor.V
def Ret (P : Program) (f : FuncId) (args : Array Value) (w : World) (R : Value → World → Prop) : Prop :=
  Calls P f args w fun en w' => ∃ v, en = .returned v ∧ R v w'
theorem Ret.mono {P : Program} {f : FuncId} {args : Array Value} {w : World} {R R' : Value → World → Prop} (h : Ret P f args w R) (hr : ∀ v w', R v w' → R' v w') : Ret P f args w R' :=
  Calls.mono h fun _ _ ⟨v, he, hR⟩ => ⟨v, he, hr v _ hR⟩
def callB (P : Program) (f : FuncId) : Bool :=
  match P.funcs[f]? with
  | some fn => !(fn.name == "runtime.NumGoroutine") && fn.body.isSome
  | none => false
class CaF (P : Program) (f : FuncId) : Prop where
  out : callB P f = true
theorem run_callFunc {P : Program} {f : FuncId} (h : CaF P f) (args : Array Value) (w : World) : (callFunc f args).run P w = .ok (.enter f args) w := by
  have := h.out
  unfold callB at this
  split at this
  · rename_i fn hf
    simp only [Bool.and_eq_true, Bool.not_eq_true'] at this
    obtain ⟨h1, h2⟩ := this
    have h3 : fn.body.isNone = false := by cases hb : fn.body <;> simp_all
    simp only [callFunc, Sem.run_bind, run_program, Result.andThen_ok, hf, h1, h3]
    rfl
  · cases this
section
variable {P : Program} {ops : Array Oper} {Q : Exit → Act → World → Prop} {S : World → Prop} {n : Nat}
variable {i : Nat} {p : Plan} {e : Env} {w : World} {k : Kd} {dst : Option Tmp} {ty : TypeId} {pos : String} {aft : Array Edge} {g : Option (Nat × Bool)}
theorem GO.callL [Fr] {x : Operand} {args : Array Operand} {ts : Array TypeId} {f : FuncId} {fs cs : Array Value} {vs : List Value} {R : Value → World → Prop} [hf : CaF P f] (hw : wantedE ops e ⟨dst, .call ⟨.value x, args, ts⟩, ty, pos, aft, g⟩ = some true) (hx : ev e x = some (.func (.func f) fs cs)) (hy : evs e args.toList = some vs) (hd : fits n dst = true)
    {al : List Value} (hal : fs.toList ++ vs ++ cs.toList = al) (hc : Ret P f al.toArray w R)
    (h : ∀ v w', R v w' → (lateIx ops i = false → S w → S w') ∧ GX P ops Q S n p (e.put dst v) w') : GO P ops Q S n .eff i ⟨dst, .call ⟨.value x, args, ts⟩, ty, pos, aft, g⟩ p e w := by
  refine GO.act (R := R) hw hd (fun a ha K hK => ?_) h
  have hall : (fs ++ vs.toArray ++ cs) = al.toArray := by
    subst hal
    apply Array.toList_inj.1
    simp
  have hrun : (execOp a.eval ⟨dst, .call ⟨.value x, args, ts⟩, ty, pos, aft, g⟩).run P w = .ok (.enter f al.toArray) w := by
    simp only [execOp, resolve, Sem.run_bind, Deferred.ofValue, ev_eq ha hx, evs_arr ha hy, Sem.run_pure, Result.andThen_ok, invoke, run_callFunc hf, hall]
  refine ⟨fun f _ => trivial, ?_⟩
  rw [semAt_of hrun (by simp), Oper.uponIn_enter]
  refine ⟨fun h => (by cases h), Fr.calls.2 (Calls.mono hc fun en w' ⟨v, he, hR⟩ => ?_)⟩
  subst he
  exact hK v w' hR
theorem stepR_scope {P : Program} {b : Frame} {a : Act} {k : List Item} {cs : List Frame} {w : World} {c : Code} : step P (lone (b.atR a (.code (.scope c) :: k)) cs w) = .next (lone (b.atR a (.code c :: .inScope c :: k)) cs w) :=
  step_lone_go (by simp [stepG, stepG.exec, Frame.atR])
theorem stepR_inScope {P : Program} {b : Frame} {a : Act} {k : List Item} {cs : List Frame} {w : World} {c : Code} : step P (lone (b.atR a (.inScope c :: k)) cs w) = .next (lone (b.atR a k) cs w) :=
  step_lone_go (by simp [stepG, stepG.exec, Frame.atR])
theorem wpIn_scope {F : Fence} {m : Nat} {P : Program} {Q : Exit → Act → World → Prop} {a : Act} {w : World} {c : Code} (h : c.wpIn F m P (Exit.noGoto Q) a w) : (Code.scope c).wpIn F m P Q a w := by
  intro b k cs hro hb hr
  have h0 : (lone (b.atR a (.code (.scope c) :: k)) cs w).fenced P F := fenced_calm hb hr rfl
  obtain ⟨e, a₁, w₁, hq, harr⟩ := h b (.inScope c :: k) cs hro hb hr
  cases e with
  | normal => exact ⟨.normal, a₁, w₁, hq, .head h0 stepR_scope (StepsIn.trans harr (.one (fenced_calm hb hr rfl) stepR_inScope))⟩
  | exit id =>
    have hx : exitTo id (.inScope c :: k) = exitTo id k := by simp [exitTo]
    exact ⟨_, a₁, w₁, hq, fun k' hk => .head h0 stepR_scope (harr.1 k' (by rw [hx]; exact hk)),
      fun hr' hk => let ⟨k₁, h1, h2⟩ := harr.2 hr' (by rw [hx]; exact hk); ⟨k₁, h1, .head h0 stepR_scope h2⟩⟩
  | goto l => exact hq.elim
  | ret => exact ⟨_, a₁, w₁, hq, .of_steps (.one h0 stepR_scope) harr⟩
  | panic ch => exact ⟨_, a₁, w₁, hq, .of_steps (.one h0 stepR_scope) harr⟩
  | outgrown => exact ⟨_, a₁, w₁, hq, .of_steps (.one h0 stepR_scope) harr⟩
def GC [Fr] (P : Program) (c : Code) (Q : Exit → Act → World → Prop) (n : Nat) (e : Env) (w : World) : Prop := ∀ a, Knows a e n → c.wpIn Fr.F 0 P Q a w
def GQ [Fr] (Q : Exit → Act → World → Prop) (x : Exit) (n : Nat) (e : Env) (w : World) : Prop := ∀ a, Knows a e n → Q x a w
def Go [Fr] (P : Program) (c : Code) (Q : Exit → Act → World → Prop) : Exit → Act → World → Prop := Exit.then (fun a w => c.wpIn Fr.F 0 P Q a w) Q
theorem GC.sub [Fr] {c : Code} {e' : Env} (hs : Sub e' e) (h : GC P c Q n e' w) : GC P c Q n e w := fun a ha => h a (ha.sub hs)
theorem GC.pick [Fr] {c : Code} {e' : Env} (l : List Nat) (hs : pickE e l = some e') (h : GC P c Q n e' w) : GC P c Q n e w := h.sub (sub_pick hs)
theorem GQ.sub [Fr] {x : Exit} {e' : Env} (hs : Sub e' e) (h : GQ Q x n e' w) : GQ Q x n e w := fun a ha => h a (ha.sub hs)
theorem GQ.pick [Fr] {x : Exit} {e' : Env} (l : List Nat) (hs : pickE e l = some e') (h : GQ Q x n e' w) : GQ Q x n e w := h.sub (sub_pick hs)
theorem GC.seq [Fr] {x y : Code} (h : GC P x (Go P y Q) n e w) : GC P (.seq x y) Q n e w := fun a ha => wpIn_seq (h a ha)
theorem GC.skip [Fr] (h : GQ Q .normal n e w) : GC P .skip Q n e w := fun a ha => wpIn_skip (h a ha)
theorem GC.ret [Fr] (h : GQ Q .ret n e w) : GC P .ret Q n e w := fun a ha => wpIn_ret (h a ha)
theorem GC.exit [Fr] {id : Nat} (h : GQ Q (.exit id) n e w) : GC P (.exit id) Q n e w := fun a ha => wpIn_exit (h a ha)
theorem GC.block [Fr] {id : Nat} {c : Code} (h : GC P c (Exit.inBlock id Q) n e w) : GC P (.block id c) Q n e w := fun a ha => wpIn_block (h a ha)
theorem GC.cond [Fr] {c : Operand} {x y : Code} {b : Bool} (hc : ev e c = some (.bool b)) (h1 : b = true → GC P x Q n e w) (h2 : b = false → GC P y Q n e w) : GC P (.cond c x y) Q n e w :=
  fun a ha => wpIn_cond_split (ev_eq ha hc) (fun hb => h1 hb a ha) (fun hb => h2 hb a ha)
theorem GQ.goNormal [Fr] {c : Code} (h : GC P c Q n e w) : GQ (Go P c Q) .normal n e w := h
theorem GQ.goExit [Fr] {c : Code} {id : Nat} (h : GQ Q (.exit id) n e w) : GQ (Go P c Q) (.exit id) n e w := h
theorem GQ.goRet [Fr] {c : Code} (h : GQ Q .ret n e w) : GQ (Go P c Q) .ret n e w := h
theorem GQ.inNormal [Fr] {id : Nat} (h : GQ Q .normal n e w) : GQ (Exit.inBlock id Q) .normal n e w := h
theorem GQ.inRet [Fr] {id : Nat} (h : GQ Q .ret n e w) : GQ (Exit.inBlock id Q) .ret n e w := h
theorem GQ.inExit [Fr] {id : Nat} (h : GQ Q .normal n e w) : GQ (Exit.inBlock id Q) (.exit id) n e w := fun a ha => by simpa [Exit.inBlock] using h a ha
theorem GQ.inExitNe [Fr] {id id' : Nat} (hne : Nat.beq id' id = false) (h : GQ Q (.exit id') n e w) : GQ (Exit.inBlock id Q) (.exit id') n e w := fun a ha => by
  have : id' ≠ id := Nat.ne_of_beq_eq_false hne
  simpa [Exit.inBlock, this] using h a ha
def planIdx : Plan → Option (List Nat)
  | .done => some []
  | .pure i p | .eff i p => (planIdx p).map (i :: ·)
  | _ => none
theorem wpOps_plan [Fr] : ∀ (p : Plan) (l : List Nat) (a : Act) (w : World), planIdx p = some l → wpPlan P ops Q S p a w → wpOpsIn Fr.F 0 P ops Q l a w
  | .done, l, a, w, hl, h => by simp [planIdx] at hl; subst hl; exact h
  | .pure i p, l, a, w, hl, h => by
    simp only [planIdx, Option.map_eq_some_iff] at hl
    obtain ⟨l', hl', rfl⟩ := hl
    obtain ⟨o, v, ho, hy, hp⟩ := h
    rw [wpOpsIn_cons]
    exact YieldsIf.wpOpF ho hy trivial (wpOps_plan p l' _ w hl' hp)
  | .eff i p, l, a, w, hl, h => by
    simp only [planIdx, Option.map_eq_some_iff] at hl
    obtain ⟨l', hl', rfl⟩ := hl
    rw [wpOpsIn_cons]
    exact wpOpIn_mono (fun a' w' hh => wpOps_plan p l' a' w' hl' hh.2) h
  | .read .., _, _, _, hl, _ => by cases hl
  | .alt .., _, _, _, hl, _ => by cases hl
theorem GC.region [Fr] {id : Nat} {ops : Array Oper} (pl : Plan) (hp : planIdx pl = some (List.range ops.size)) (h : GX P ops Q (fun _ => True) n pl e w) : GC P (.region id ops false) Q n e w :=
  fun a ha => wpIn_region (wpOps_plan pl _ a w hp (h a ha))
theorem GX.done [Fr] (h : GQ Q .normal n e w) : GX P ops Q S n .done e w := h
theorem GX.doneD [Fr] (h : GQ Q .normal n e w) : GX P ops (NoPanic Q) S n .done e w := h
def Again [Fr] {X : Type} (E : X → Env) (J : X → World → Prop) (μ : X → Nat) (n : Nat) (m : Nat) (a : Act) (w : World) : Prop := ∃ x, Knows a (E x) n ∧ J x w ∧ μ x < m
theorem GC.loop [Fr] {X : Type} {c : Code} (E : X → Env) (J : X → World → Prop) (μ : X → Nat) (x0 : X) (h0 : Sub (E x0) e) (hJ : J x0 w)
    (round : ∀ x w, J x w → GC P c (Exit.then (Again E J μ n (μ x)) Q) n (E x) w) : GC P (.loop c) Q n e w := by
  intro a ha
  have key : ∀ (m : Nat) (a : Act) (w : World), (∃ x, μ x < m ∧ Knows a (E x) n ∧ J x w) → Code.roundsIn Fr.F 0 P c Q m a w := by
    intro m
    induction m with
    | zero => rintro a w ⟨x, hx, _⟩; omega
    | succ m ih =>
      rintro a w ⟨x, hx, hk, hj⟩
      rw [roundsIn_succ]
      refine Code.wpIn_mono (fun e a w hq => ?_) (round x w hj a hk)
      cases e with
      | normal => obtain ⟨x', h1, h2, h3⟩ := hq; exact ih a w ⟨x', by omega, h1, h2⟩
      | _ => exact hq
  exact wpIn_loop_rounds (μ x0 + 1) (key _ a w ⟨x0, Nat.lt_succ_self _, ha.sub h0, hJ⟩)
theorem GQ.again [Fr] {X : Type} {E : X → Env} {J : X → World → Prop} {μ : X → Nat} {m : Nat} (x : X) (hs : Sub (E x) e) (hJ : J x w) (hm : μ x < m) : GQ (Exit.then (Again E J μ n m) Q) .normal n e w := fun _ ha => ⟨x, ha.sub hs, hJ, hm⟩
theorem GQ.loopExit [Fr] {X : Type} {E : X → Env} {J : X → World → Prop} {μ : X → Nat} {m id : Nat} (h : GQ Q (.exit id) n e w) : GQ (Exit.then (Again E J μ n m) Q) (.exit id) n e w := h
theorem GQ.loopRet [Fr] {X : Type} {E : X → Env} {J : X → World → Prop} {μ : X → Nat} {m : Nat} (h : GQ Q .ret n e w) : GQ (Exit.then (Again E J μ n m) Q) .ret n e w := h
theorem GC.cut [Fr] {X : Type} {c : Code} (E : X → Env) (J : X → World → Prop) (h1 : GC P c (Exit.then (fun a w => ∃ x, Knows a (E x) n ∧ J x w) Q) n e w) (h2 : ∀ x w, J x w → GQ Q .normal n (E x) w) : GC P c Q n e w := by
  intro a ha
  refine Code.wpIn_mono (fun e a w hq => ?_) (h1 a ha)
  cases e with
  | normal => obtain ⟨x, hk, hj⟩ := hq; exact h2 x w hj a hk
  | _ => exact hq
theorem GQ.cutNormal [Fr] {X : Type} {E : X → Env} {J : X → World → Prop} (x : X) (hs : Sub (E x) e) (hJ : J x w) : GQ (Exit.then (fun a w => ∃ x, Knows a (E x) n ∧ J x w) Q) .normal n e w := fun _ ha => ⟨x, ha.sub hs, hJ⟩
theorem GQ.cutExit [Fr] {X : Type} {E : X → Env} {J : X → World → Prop} {id : Nat} (h : GQ Q (.exit id) n e w) : GQ (Exit.then (fun a w => ∃ x, Knows a (E x) n ∧ J x w) Q) (.exit id) n e w := h
theorem GQ.cutRet [Fr] {X : Type} {E : X → Env} {J : X → World → Prop} (h : GQ Q .ret n e w) : GQ (Exit.then (fun a w => ∃ x, Knows a (E x) n ∧ J x w) Q) .ret n e w := h
def argE (t : Nat) : List Value → Env
  | [] => []
  | v :: r => (t, v) :: argE (t + 1) r
theorem look_argE : ∀ (l : List Value) (t s : Nat) (v : Value), look s (argE t l) = some v → t ≤ s ∧ l[s - t]? = some v
  | [], t, s, v, h => by cases h
  | u :: r, t, s, v, h => by
    simp only [argE, look] at h
    cases hb : Nat.beq t s with
    | true =>
      have := Nat.eq_of_beq_eq_true hb
      rw [hb] at h
      subst this
      simp at h
      simp [h]
    | false =>
      have hne := Nat.ne_of_beq_eq_false hb
      rw [hb] at h
      obtain ⟨h1, h2⟩ := look_argE r (t + 1) s v h
      refine ⟨by omega, ?_⟩
      have : s - t = (s - (t + 1)) + 1 := by omega
      rw [this, List.getElem?_cons_succ]
      exact h2
theorem Ret.enter {f : FuncId} {fn : Func} {c : Code} {vs : List Value} {R : Value → World → Prop} (hf : P.funcs[f]? = some fn) (hb : fn.body = some c) (hn : fn.ntmps = n) (hle : Nat.ble vs.length n = true)
    (h : GC P c (bodyPost P fn (fun en w' => ∃ v, en = .returned v ∧ R v w')) n (argE 0 vs) w) : Ret P f vs.toArray w R := by
  have hle' := Nat.le_of_ble_eq_true hle
  have hk : Knows { tmps := vs.toArray ++ Array.replicate (fn.ntmps - vs.toArray.size) undef, defers := [] } (argE 0 vs) n := by
    refine ⟨rfl, by simp [hn]; omega, fun t v ht => ?_⟩
    obtain ⟨_, h2⟩ := look_argE vs 0 t v ht
    have hlt : t < vs.length := (List.getElem?_eq_some_iff.1 (by simpa using h2)).1
    rw [Array.getElem?_append_left (by simpa using hlt)]
    simpa using h2
  exact calls_of_wp hf hb ((wpIn_wide (n := 0)).1 (h _ hk))
theorem GQ.ret1 {fn : Func} {t : Tmp} {v : Value} {R : Value → World → Prop} {x : Exit} (hx : x = .ret ∨ x = .normal) (hr : fn.results = #[.tmp t]) (hl : look t e = some v) (hR : R v w) : GQ (bodyPost P fn (fun en w' => ∃ v, en = .returned v ∧ R v w')) x n e w := by
  intro a ha
  have hs := ha.slot t v hl
  have : (results fn a.tmps).run P w = .ok v w := by rw [results_tmp hr]; simp [hs]
  rcases hx with rfl | rfl <;> exact ⟨ha.defers, v, this, v, rfl, hR⟩
theorem GQ.ret0 {fn : Func} {R : Value → World → Prop} {x : Exit} (hx : x = .ret ∨ x = .normal) (hr : fn.results = #[]) (hR : R (.tuple #[]) w) : GQ (bodyPost P fn (fun en w' => ∃ v, en = .returned v ∧ R v w')) x n e w := by
  intro a ha
  have : (results fn a.tmps).run P w = .ok (.tuple #[]) w := results_none hr _ _ _
  rcases hx with rfl | rfl <;> exact ⟨ha.defers, _, this, _, rfl, hR⟩
theorem GQ.ret2 {fn : Func} {t u : Tmp} {v v' : Value} {R : Value → World → Prop} {x : Exit} (hx : x = .ret ∨ x = .normal) (hr : fn.results = #[.tmp t, .tmp u]) (hl : look t e = some v) (hl' : look u e = some v') (hR : R (.tuple #[v, v']) w) : GQ (bodyPost P fn (fun en w' => ∃ v, en = .returned v ∧ R v w')) x n e w := by
  intro a ha
  have : (results fn a.tmps).run P w = .ok (.tuple #[v, v']) w := by rw [results_tmp2 hr]; simp [ha.slot t v hl, ha.slot u v' hl']
  rcases hx with rfl | rfl <;> exact ⟨ha.defers, _, this, _, rfl, hR⟩
theorem GQ.ret3 {fn : Func} {t u s : Tmp} {v v' v'' : Value} {R : Value → World → Prop} {x : Exit} (hx : x = .ret ∨ x = .normal) (hr : fn.results = #[.tmp t, .tmp u, .tmp s]) (hl : look t e = some v) (hl' : look u e = some v') (hl'' : look s e = some v'') (hR : R (.tuple #[v, v', v'']) w) : GQ (bodyPost P fn (fun en w' => ∃ v, en = .returned v ∧ R v w')) x n e w := by
  intro a ha
  have : (results fn a.tmps).run P w = .ok (.tuple #[v, v', v'']) w := by simp [results, hr, ha.slot t v hl, ha.slot u v' hl', ha.slot s v'' hl'']
  rcases hx with rfl | rfl <;> exact ⟨ha.defers, _, this, _, rfl, hR⟩
end
theorem Ret.calls {P : Program} {f : FuncId} {args : Array Value} {w : World} {R : Value → World → Prop} (h : Ret P f args w R) : Calls P f args w fun en w' => ∃ v, en = .returned v ∧ R v w' := h
theorem Ret.of_calls {P : Program} {f : FuncId} {args : Array Value} {w : World} {R : Value → World → Prop} (h : Calls P f args w fun en w' => ∃ v, en = .returned v ∧ R v w') : Ret P f args w R := h
attribute [irreducible] GC GQ Ret Again
end Go.Proofs.YtfoabgljfikklaaGreatDoor.V
