/-
  The rules for operations on memory: loads, stores, new variables, slices, appends, conversions between bytes and strings, calls. No condition: these are rules over any program.
-/
import Derived.Test.YtfoabgljfikklaaGreatDoorWab
set_option linter.unusedVariables false
set_option linter.unusedSimpArgs false
namespace Go.Proofs.YtfoabgljfikklaaGreatDoor.V
def SlA (w : World) : Option Addr → List Value → Prop
  | none, cs => cs = []
  | some ⟨b, o, none⟩, cs => At w b o cs
  | some _, cs => cs = []
theorem SlA.empty (w : World) (a : Option Addr) : SlA w a [] := by
  match a with
  | none => rfl
  | some ⟨b, o, none⟩ => exact At.nil _ _ _
  | some ⟨_, _, some _⟩ => rfl
theorem SlA.mod {S : Nat → Prop} {w w' : World} {a : Option Addr} {cs : List Value} (h : SlA w a cs) (hm : Mod S w w') (hn : ∀ x, a = some x → ¬ S x.block) : SlA w' a cs := by
  match a, h, hn with
  | none, h, _ => exact h
  | some ⟨b, o, none⟩, h, hn => exact At.mod h hm (hn _ rfl)
  | some ⟨_, _, some _⟩, h, _ => exact h
theorem SlA.ext {w w' : World} {a : Option Addr} {cs : List Value} (h : SlA w a cs) (hm : Ext w w') : SlA w' a cs := h.mod hm fun _ _ h => h
theorem SlA.nil (w : World) : SlA w none [] := rfl
theorem SlA.some_at {w : World} {a : Option Addr} {c : Value} {cs : List Value} (h : SlA w a (c :: cs)) : ∃ b o, a = some ⟨b, o, none⟩ ∧ At w b o (c :: cs) := by
  match a, h with
  | some ⟨b, o, none⟩, h => exact ⟨b, o, rfl, h⟩
theorem SlA.of_pos {w : World} {a : Option Addr} {cs : List Value} (h : SlA w a cs) (hl : 0 < cs.length) : ∃ b o, a = some ⟨b, o, none⟩ ∧ At w b o cs := by
  cases cs with
  | nil => simp at hl
  | cons c cs => exact h.some_at
def byteV (b : UInt8) : Value := .int .u8 b.toNat
def bytesV (l : List UInt8) : List Value := l.map byteV
def str (l : List UInt8) : Value := .string ⟨l.toArray⟩
@[simp] theorem length_bytesV (l : List UInt8) : (bytesV l).length = l.length := by simp [bytesV]
def OwnS (w : World) (el : TypeId) (sz : Nat) (ob : Option Nat) (a : Option Addr) (len cap : Nat) (cs : List Value) : Prop :=
  cs.length = len * sz ∧
  ((ob = none ∧ cap = len ∧ SlA w a cs ∧ (a = none → len = 0)) ∨
   (∃ b, ob = some b ∧ a = some ⟨b, 0, none⟩ ∧ w.ownsRow 0 el sz (.slice a len cap) len cs))
theorem OwnS.sla {w : World} {el sz : Nat} {ob : Option Nat} {a : Option Addr} {len cap : Nat} {cs : List Value} (h : OwnS w el sz ob a len cap cs) : SlA w a cs := by
  obtain ⟨_, ⟨_, _, h, _⟩ | ⟨b, _, rfl, hl, h | ⟨g, c, cur, h, _, hg, _, _, _, ht⟩⟩⟩ := h
  · exact h
  · cases h.1
  · cases h
    intro i v hv
    rw [cell_of_row w _ _ cur el _ hg]
    rw [← ht, List.getElem?_take] at hv
    split at hv
    · simpa using hv
    · cases hv
theorem OwnS.length {w : World} {el sz : Nat} {ob : Option Nat} {a : Option Addr} {len cap : Nat} {cs : List Value} (h : OwnS w el sz ob a len cap cs) : cs.length = len * sz := h.1
theorem OwnS.nil (w : World) (el sz : Nat) : OwnS w el sz none none 0 0 [] := ⟨by simp, .inl ⟨rfl, rfl, rfl, fun _ => rfl⟩⟩
theorem OwnS.block {w : World} {el sz : Nat} {b : Nat} {a : Option Addr} {len cap : Nat} {cs : List Value} (h : OwnS w el sz (some b) a len cap cs) : a = some ⟨b, 0, none⟩ ∧ b < w.heap.size := by
  obtain ⟨_, ⟨h, _⟩ | ⟨b', hb, rfl, h⟩⟩ := h
  · cases h
  · cases hb
    exact ⟨rfl, (h.lt b rfl).2⟩
theorem OwnS.mod {S : Nat → Prop} {w w' : World} {el sz : Nat} {ob : Option Nat} {a : Option Addr} {len cap : Nat} {cs : List Value} (h : OwnS w el sz ob a len cap cs) (hm : Mod S w w') (hn : ∀ x, a = some x → ¬ S x.block) : OwnS w' el sz ob a len cap cs := by
  obtain ⟨hl, ⟨h1, h2, h3, h4⟩ | ⟨b, h1, rfl, h2, h | ⟨g, c, cur, h, h0, hg, rest⟩⟩⟩ := h
  · exact ⟨hl, .inl ⟨h1, h2, h3.mod hm hn, h4⟩⟩
  · cases h.1
  · cases h
    exact ⟨hl, .inr ⟨_, h1, rfl, h2, .inr ⟨_, _, cur, rfl, h0, hm.row hg (hn _ rfl), rest⟩⟩⟩
theorem OwnS.ext {w w' : World} {el sz : Nat} {ob : Option Nat} {a : Option Addr} {len cap : Nat} {cs : List Value} (h : OwnS w el sz ob a len cap cs) (hm : Ext w w') : OwnS w' el sz ob a len cap cs := h.mod hm fun _ _ h => h
theorem OwnS.new {w : World} {el sz b len cap : Nat} {cs : List Value} (h : w.ownsRow 0 el sz (.slice (some ⟨b, 0, none⟩) len cap) len cs) : OwnS w el sz (some b) (some ⟨b, 0, none⟩) len cap cs := ⟨h.1, .inr ⟨b, rfl, rfl, h⟩⟩
def sliced' (a : Option Addr) (l m sz : Nat) : Option Addr := if m = l then a else a.map (·.add (l * sz))
theorem SlA.sliced {w : World} {a : Option Addr} {cs : List Value} (h : SlA w a cs) (l m sz k : Nat) (hm : m = l → k = 0) : SlA w (sliced' a l m sz) ((cs.drop (l * sz)).take (k * sz)) := by
  unfold sliced'
  by_cases hml : m = l
  · have := hm hml
    subst this
    simp only [hml, if_true, Nat.zero_mul, List.take_zero]
    exact SlA.empty _ _
  · simp only [hml, if_false]
    match a, h with
    | none, h => subst h; simp [SlA]
    | some ⟨b, o, none⟩, h =>
      simp only [Option.map_some, add_none]
      exact At.take h _ _
    | some ⟨b, o, some s⟩, h => subst h; rw [List.drop_nil, List.take_nil]; exact SlA.empty _ _
section
variable {P : Program} {ops : Array Oper} {Q : Exit → Act → World → Prop} {S : World → Prop} {n : Nat}
variable {i : Nat} {p : Plan} {e : Env} {w : World} {k : Kd} {dst : Option Tmp} {ty : TypeId} {pos : String} {aft : Array Edge} {g : Option (Nat × Bool)}
theorem run_load1 {t : TypeId} (hf : TyF P t false 1) {b o : Nat} {v : Value} (h : w.cell? ⟨b, o, none⟩ = some v) : (Instr.loadAt t (.pointer (some ⟨b, o, none⟩))).run P w = .ok v w := by
  simp [Instr.loadAt, Instr.sureAddr, loadVar, hf.isAgg, h]
theorem run_loadN {t : TypeId} {sz : Nat} (hf : TyF P t true sz) {b o : Nat} {l : List Value} (h : At w b o l) (hl : l.length = sz) : (Instr.loadAt t (.pointer (some ⟨b, o, none⟩))).run P w = .ok (.agg l.toArray) w := by
  have := run_loadCells_list (P := P) w ⟨b, o, none⟩ l (fun j v hv => by rw [add_none]; exact h j v hv)
  subst hl
  simp [Instr.loadAt, Instr.sureAddr, loadVar, hf.isAgg, hf.sizeOf, this]
theorem GO.load1 [Fr] {t : TypeId} [hf : TyF P t false 1] {x : Operand} {b o : Nat} {v : Value} {l : List Value} (hA : At w b o (v :: l)) (hw : wantedE ops e ⟨dst, .load t x, ty, pos, aft, g⟩ = some true) (hx : ev e x = some (.pointer (some ⟨b, o, none⟩))) (hd : fits n dst = true)
    (h : GX P ops Q S n p (e.put dst v) w) : GO P ops Q S n .eff i ⟨dst, .load t x, ty, pos, aft, g⟩ p e w :=
  GO.run (R := fun u w' => u = v ∧ w' = w) hw hd (fun a ha => ⟨_, v, w, by
    have hc : w.cell? ⟨b, o, none⟩ = some v := by simpa using hA 0 v rfl
    simp [execOp, ev_eq ha hx, run_load1 hf hc], .inl rfl, rfl, rfl⟩) (by rintro _ _ ⟨rfl, rfl⟩; exact ⟨fun _ h => h, h⟩)
theorem GO.loadN [Fr] {t : TypeId} {sz : Nat} [hf : TyF P t true sz] {x : Operand} {b o : Nat} {l : List Value} (hA : At w b o l) (hl : l.length = sz) (hw : wantedE ops e ⟨dst, .load t x, ty, pos, aft, g⟩ = some true) (hx : ev e x = some (.pointer (some ⟨b, o, none⟩))) (hd : fits n dst = true)
    (h : GX P ops Q S n p (e.put dst (.agg l.toArray)) w) : GO P ops Q S n .eff i ⟨dst, .load t x, ty, pos, aft, g⟩ p e w :=
  GO.run (R := fun u w' => u = .agg l.toArray ∧ w' = w) hw hd (fun a ha => ⟨_, .agg l.toArray, w, by simp [execOp, ev_eq ha hx, run_loadN hf hA hl], .inl rfl, rfl, rfl⟩) (by rintro _ _ ⟨rfl, rfl⟩; exact ⟨fun _ h => h, h⟩)
theorem GO.load1R [Fr] {t : TypeId} [hf : TyF P t false 1] {x : Operand} {b o : Nat} {v : Value} {l : List Value} (hS : S w) (hA : ∀ w', S w' → At w' b o (v :: l)) (hw : wantedE ops e ⟨dst, .load t x, ty, pos, aft, g⟩ = some true) (hx : ev e x = some (.pointer (some ⟨b, o, none⟩))) (hd : fits n dst = true)
    (h : GX P ops Q S n p (e.put dst v) w) : GO P ops Q S n .read i ⟨dst, .load t x, ty, pos, aft, g⟩ p e w :=
  GO.rd hS hw hd (fun a ha w' hw' => by
    have hc : w'.cell? ⟨b, o, none⟩ = some v := by simpa using hA w' hw' 0 v rfl
    simp [execOp, ev_eq ha hx, run_load1 hf hc]) h
theorem GO.loadNR [Fr] {t : TypeId} {sz : Nat} [hf : TyF P t true sz] {x : Operand} {b o : Nat} {l : List Value} (hS : S w) (hA : ∀ w', S w' → At w' b o l) (hl : l.length = sz) (hw : wantedE ops e ⟨dst, .load t x, ty, pos, aft, g⟩ = some true) (hx : ev e x = some (.pointer (some ⟨b, o, none⟩))) (hd : fits n dst = true)
    (h : GX P ops Q S n p (e.put dst (.agg l.toArray)) w) : GO P ops Q S n .read i ⟨dst, .load t x, ty, pos, aft, g⟩ p e w :=
  GO.rd hS hw hd (fun a ha w' hw' => by simp [execOp, ev_eq ha hx, run_loadN hf (hA w' hw') hl]) h
def Wr (w : World) (b o m : Nat) : Prop := ∃ c t fr, w.heap[b]? = some (.cells c t fr) ∧ o + m ≤ c.size ∧ ∀ j, j < m → (decide (fr.1 ≤ o + j) && decide (o + j < fr.2)) = false
theorem Blk.wr {b : Nat} {l : List Value} (h : Blk w b l) {o m : Nat} (hl : o + m ≤ l.length) : Wr w b o m := by
  obtain ⟨t, ht⟩ := h
  exact ⟨_, t, _, ht, by simpa using hl, fun j _ => by simp⟩
theorem Wr.mod {T : Nat → Prop} {w w' : World} {b o m : Nat} (h : Wr w b o m) (hm : Mod T w w') (hn : ¬ T b) : Wr w' b o m := by
  obtain ⟨c, t, fr, hb, rest⟩ := h
  exact ⟨c, t, fr, hm.row hb hn, rest⟩
theorem Wr.put {w w' : World} {b o m b' o' : Nat} {vs : List Value} (h : Wr w b o m) (hp : Put w w' b' o' vs) (hr : Wr w b' o' vs.length) : Wr w' b o m := by
  obtain ⟨c, t, fr, hb, h1, h2⟩ := h
  by_cases hbb : b = b'
  · subst hbb
    obtain ⟨c', t', fr', hb', h3, _⟩ := hr
    rw [hb] at hb'
    cases hb'
    refine ⟨_, t, fr, hp.here _ _ _ hb, ?_, h2⟩
    simp only [List.size_toArray, List.length_append, List.length_take, List.length_drop, Array.length_toList]
    omega
  · exact ⟨c, t, fr, (hp.other b hbb).trans hb, h1, h2⟩
theorem put_setCells (b : Nat) : ∀ (vs : List Value) (o : Nat) (w : World) (c : Array Value) (t : TypeId) (fr : Nat × Nat), w.heap[b]? = some (.cells c t fr) → o + vs.length ≤ c.size → Put w (w.setCells b o vs) b o vs
  | [], o, w, c, t, fr, hb, ho => ⟨rfl, rfl, rfl, rfl, fun _ _ => rfl, fun c t fr h => by simpa [World.setCells] using h⟩
  | v :: r, o, w, c, t, fr, hb, ho => by
    have hb1 : (w.setCell ⟨b, o, none⟩ v).heap[b]? = some (.cells (c.setIfInBounds o v) t fr) := by
      simp [World.setCell, Array.getElem?_modify, hb]
    have ih := put_setCells b r (o + 1) (w.setCell ⟨b, o, none⟩ v) _ t fr hb1 (by simp at ho ⊢; omega)
    refine ⟨ih.os, ih.tape, ih.output, ih.size.trans (by simp), fun k hk => (ih.other k hk).trans (by simp only [World.setCell, Array.getElem?_modify]; rw [if_neg (fun e => hk e.symm)]), fun c' t' fr' h => ?_⟩
    rw [hb] at h
    cases h
    have h1 := ih.here _ _ _ hb1
    rw [World.setCells, h1]
    congr 2
    apply congrArg
    have := list_seg_step c.toList o v r (by simp at ho ⊢; omega)
    simp only [Array.toList_setIfInBounds]
    rw [List.length_cons]
    exact this
theorem run_storeAt {t : TypeId} {agg : Bool} {sz : Nat} (hf : TyF P t agg sz) {b o : Nat} {v : Value} {vs : List Value} (hv : v.cells.toList = vs) (hl : vs.length = sz) (h1 : ∀ u ∈ vs, u.oneCell' = true) (hW : Wr w b o sz) :
    (Instr.storeAt t (.pointer (some ⟨b, o, none⟩)) v).run P w = .ok () (w.setCells b o vs) ∧ Put w (w.setCells b o vs) b o vs := by
  obtain ⟨c, et, fr, hb, ho, hz⟩ := hW
  subst hl
  have hs : v.cells.size = vs.length := by rw [← hv]; simp
  have h2 := run_storeCells_cells (P := P) b o vs 0 w (fun j hj => by
      rw [cell_of_row w b _ c et fr hb]
      rw [Array.getElem?_eq_getElem (by omega)]
      rfl)
    (fun j hj => by
      have := hz j hj
      simp only [World.frozen?, hb, Nat.add_zero]
      exact this) h1
  refine ⟨?_, put_setCells b vs o w c et fr hb ho⟩
  simp only [Nat.add_zero] at h2
  simp [Instr.storeAt, Instr.sureAddr, storeVar, hf.sizeOf, hs, hv, h2]
theorem GO.store [Fr] {t : TypeId} {agg : Bool} {sz : Nat} [hf : TyF P t agg sz] {x y : Operand} {b o : Nat} {v : Value} {vs : List Value} (hW : Wr w b o sz) (hv : v.cells.toList = vs) (hl : vs.length = sz) (h1 : ∀ u ∈ vs, u.oneCell' = true)
    (hw : wantedE ops e ⟨none, .store t x y, ty, pos, aft, g⟩ = some true) (hx : ev e x = some (.pointer (some ⟨b, o, none⟩))) (hy : ev e y = some v)
    (h : ∀ w', Put w w' b o vs → (lateIx ops i = false → S w → S w') ∧ GX P ops Q S n p e w') : GO P ops Q S n .eff i ⟨none, .store t x y, ty, pos, aft, g⟩ p e w :=
  GO.run (R := fun _ w' => Put w w' b o vs) hw rfl (fun a ha => ⟨.skip, undef, _, by simp [execOp, ev_eq ha hx, ev_eq ha hy, (run_storeAt (P := P) hf hv hl h1 hW).1], .inr ⟨rfl, rfl⟩, (run_storeAt (P := P) hf hv hl h1 hW).2⟩) (fun _ w' h' => h w' h')
theorem GO.box [Fr] {t : TypeId} {x : Operand} {v : Value} {l : List Value} (hv : v.cells.toList = l) (hw : wantedE ops e ⟨dst, .box t x, ty, pos, aft, g⟩ = some true) (hx : ev e x = some v) (hd : fits n dst = true)
    (h : ∀ b w', b = w.heap.size → Blk w' b l → Ext w w' → (lateIx ops i = false → S w → S w') ∧ GX P ops Q S n p (e.put dst (.pointer (some ⟨b, 0, none⟩))) w') : GO P ops Q S n .eff i ⟨dst, .box t x, ty, pos, aft, g⟩ p e w :=
  GO.run (R := fun u w' => u = .pointer (some ⟨w.heap.size, 0, none⟩) ∧ Blk w' w.heap.size l ∧ Ext w w') hw hd
    (fun a ha => ⟨_, _, w.alloc (.cells v.cells t), by simp [execOp, ev_eq ha hx, Instr.box, newVar, newRow], .inl rfl, rfl, by
      have := Blk.new w l t
      rw [← hv] at this ⊢
      simpa using this, Ext.alloc _ _⟩)
    (by rintro _ w' ⟨rfl, h1, h2⟩; exact h _ w' rfl h1 h2)
def zeroB (P : Program) (t : TypeId) : Option (List Value) :=
  match P.info? t with
  | some i => i.zero.map (·.cells.toList)
  | none => none
class ZeF (P : Program) (t : TypeId) (l : outParam (List Value)) : Prop where
  out : zeroB P t = some l
theorem ZeF.zero {t : TypeId} {l : List Value} (h : ZeF P t l) (w : World) : ∃ z, (zeroValue t).run P w = .ok z w ∧ z.cells.toList = l := by
  have := h.out
  unfold zeroB at this
  split at this
  · rename_i i hi
    cases hz : i.zero with
    | none => simp [hz] at this
    | some z =>
      simp [hz] at this
      exact ⟨z, by simp [zeroValue, typeInfo, hi, hz], by simpa using this⟩
  · cases this
theorem GO.alloc [Fr] {t : TypeId} {l : List Value} [hz : ZeF P t l] (hw : wantedE ops e ⟨dst, .alloc t, ty, pos, aft, g⟩ = some true) (hd : fits n dst = true)
    (h : ∀ b w', b = w.heap.size → Blk w' b l → Ext w w' → (lateIx ops i = false → S w → S w') ∧ GX P ops Q S n p (e.put dst (.pointer (some ⟨b, 0, none⟩))) w') : GO P ops Q S n .eff i ⟨dst, .alloc t, ty, pos, aft, g⟩ p e w := by
  obtain ⟨z, hz1, hz2⟩ := hz.zero w
  exact GO.run (R := fun u w' => u = .pointer (some ⟨w.heap.size, 0, none⟩) ∧ Blk w' w.heap.size l ∧ Ext w w') hw hd
    (fun a ha => ⟨_, _, w.alloc (.cells z.cells t), by simp [execOp, Instr.alloc, hz1, newVar, newRow], .inl rfl, rfl, by
      have := Blk.new w l t
      rw [← hz2] at this ⊢
      simpa using this, Ext.alloc _ _⟩)
    (by rintro _ w' ⟨rfl, h1, h2⟩; exact h _ w' rfl h1 h2)
def fillL (place : Nat → Option (Nat × Nat)) : List Value → List (Nat × List Value) → Option (List Value)
  | cells, [] => some cells
  | cells, (i, l) :: rest => match place i with
    | none => none
    | some (off, size) => match Nat.beq l.length size, Nat.ble (off + size) cells.length with
      | true, true => fillL place (cells.take off ++ l ++ cells.drop (off + size)) rest
      | _, _ => none
theorem foldl_set (l : List Value) : ∀ (k off : Nat) (cs : Array Value), off + k + l.length ≤ cs.size →
    ((l.zipIdx k).foldl (fun (cs : Array Value) (x : Value × Nat) => cs.setIfInBounds (off + x.2) x.1) cs).toList = cs.toList.take (off + k) ++ l ++ cs.toList.drop (off + k + l.length) := by
  induction l with
  | nil => intro k off cs h; simp
  | cons v r ih =>
    intro k off cs h
    simp only [List.zipIdx_cons, List.foldl_cons]
    rw [ih (k + 1) off _ (by simp at h ⊢; omega)]
    have := list_seg_step cs.toList (off + k) v r (by simp at h ⊢; omega)
    simp only [Array.toList_setIfInBounds, ← Nat.add_assoc]
    rw [List.length_cons, ← Nat.add_assoc] at *
    simpa [Nat.add_assoc] using this
theorem fill_eq (place : Nat → Option (Nat × Nat)) : ∀ (parts : List (Nat × Value)) (pl : List (Nat × List Value)) (cells : Array Value) (out : List Value),
    parts.map (fun x => (x.1, x.2.cells.toList)) = pl → fillL place cells.toList pl = some out → Instr.fill place cells parts = some out.toArray
  | [], pl, cells, out, hp, h => by
    subst hp
    simp [fillL] at h
    subst h
    simp [Instr.fill]
  | (i, v) :: rest, pl, cells, out, hp, h => by
    subst hp
    simp only [List.map_cons, fillL] at h
    split at h
    · cases h
    · rename_i off size hpl
      simp only [Instr.fill, hpl]
      split at h
      · rename_i h1 h2
        have h1' : v.cells.size = size := by have := Nat.eq_of_beq_eq_true h1; simpa using this
        have h2' : off + size ≤ cells.size := by have := Nat.le_of_ble_eq_true h2; simpa using this
        subst h1'
        rw [if_neg (by simp; omega)]
        refine fill_eq place rest _ _ out rfl ?_
        have hfold : (Array.foldl (fun cs (x : Value × Nat) => cs.setIfInBounds (off + x.2) x.1) cells v.cells.zipIdx).toList = cells.toList.take off ++ v.cells.toList ++ cells.toList.drop (off + v.cells.size) := by
          have := foldl_set v.cells.toList 0 off cells (by simpa using h2')
          rw [← Array.foldl_toList]
          simpa using this
        rw [← h]
        congr 1
      · cases h
def buildB (P : Program) (t : TypeId) (pl : List (Nat × List Value)) : Option (List Value) :=
  match P.underlying t, zeroB P t with
  | some (.struct fs), some z => fillL (fun i => match fs[i]? with
      | some f => match tyB P f.type with
        | some (_, s) => some (f.offset, s)
        | none => none
      | none => none) z pl
  | _, _ => none
theorem places_eq {fs : Array Field} (hall : ∀ f ∈ fs, (tyB P f.type).isSome = true) (w : World) :
    (fs.mapM fun f => do pure (f.offset, ← sizeOf f.type) : Sem (Array (Nat × Nat))).run P w = .ok (fs.map fun (f : Field) => (f.offset, ((tyB P f.type).map (·.2)).getD 0)) w := by
  have key : ∀ (l : List Field), (∀ f ∈ l, (tyB P f.type).isSome = true) → (l.mapM (fun f => do pure (f.offset, ← sizeOf f.type) : Field → Sem (Nat × Nat))).run P w = .ok (l.map fun f => (f.offset, ((tyB P f.type).map (·.2)).getD 0)) w := by
    intro l
    induction l with
    | nil => intro _; simp
    | cons f r ih =>
      intro h
      obtain ⟨⟨ag, s⟩, hs⟩ := Option.isSome_iff_exists.1 (h f (by simp))
      have h1 := TyF.sizeOf ⟨hs⟩ w
      have h2 := ih (fun x hx => h x (by simp [hx]))
      simp only [List.mapM_cons, Sem.run_bind, h1, Result.andThen_ok, Sem.run_pure, h2, hs, List.map_cons, Option.map_some, Option.getD_some]
  have := key fs.toList (fun f hf => hall f (by simpa using hf))
  rw [Array.mapM_eq_mapM_toList]
  simp only [Sem.run_map, this, Result.andThen_ok]
  congr 1
  apply Array.toList_inj.1
  simp
theorem GO.build [Fr] {k : Kd} (hk : kOk k = true) {t : TypeId} {parts : Array (Nat × Operand)} {vs : List (Nat × Value)} {pl : List (Nat × List Value)} {out : List Value} (hallB : ((match P.underlying t with | some (.struct fs) => fs.all fun f => (tyB P f.type).isSome | _ => false) : Bool) = true)
    (hb : buildB P t pl = some out) (hw : wantedE ops e ⟨dst, .build t parts, ty, pos, aft, g⟩ = some true)
    (hx : parts.toList.mapM (fun x => (ev e x.2).map fun v => (x.1, v)) = some vs) (hp : vs.map (fun x => (x.1, x.2.cells.toList)) = pl) (hd : fits n dst = true)
    (h : GX P ops Q S n p (e.put dst (.agg out.toArray)) w) : GO P ops Q S n k i ⟨dst, .build t parts, ty, pos, aft, g⟩ p e w := by
  refine GO.val (kOk_or hk) hw hd (fun a ha w => ?_) h
  have hparts : (parts.map fun (i, x) => (i, a.eval x)).toList = vs := by
    have key : ∀ (l : List (Nat × Operand)) (us : List (Nat × Value)), l.mapM (fun x => (ev e x.2).map fun v => (x.1, v)) = some us → l.map (fun (i, x) => (i, a.eval x)) = us := by
      intro l
      induction l with
      | nil => intro us h; simp at h; simp [h]
      | cons x r ih =>
        intro us h
        rw [List.mapM_cons] at h
        cases hv : ev e x.2 with
        | none => simp [hv] at h
        | some v =>
          cases hr : r.mapM (fun x => (ev e x.2).map fun v => (x.1, v)) with
          | none => simp [hv, hr] at h
          | some vr =>
            simp [hv, hr] at h
            subst h
            simp [ev_eq ha hv, ← ih vr hr]
    simpa using key parts.toList vs hx
  unfold buildB at hb
  split at hb
  · rename_i fs z hu hz
    obtain ⟨z0, hz1, hz2⟩ := ZeF.zero (P := P) ⟨hz⟩ w
    have hall : ∀ f ∈ fs, (tyB P f.type).isSome = true := by
      simp only [hu, Array.all_eq_true_iff_forall_mem] at hallB
      exact hallB
    have hplace : (fun (i : Nat) => match fs[i]? with
      | some (f : Field) => match tyB P f.type with
        | some (_, s) => some (f.offset, s)
        | none => none
      | none => none) = ((fs.map fun (f : Field) => (f.offset, ((tyB P f.type).map (·.2)).getD 0))[·]?) := by
      funext i
      cases hf : fs[i]? with
      | none => simp [hf]
      | some f =>
        obtain ⟨⟨ag, s⟩, hs⟩ := Option.isSome_iff_exists.1 (hall f (Array.mem_of_getElem? hf))
        simp [hf, hs]
    rw [hplace, ← hz2] at hb
    have hf := fill_eq _ vs pl z0.cells out hp hb
    simp only [execOp, Sem.run_bind, Instr.build, hz1, Result.andThen_ok, run_underlying hu, places_eq hall w, hparts, hf]
    rfl
  · cases hb
end
end Go.Proofs.YtfoabgljfikklaaGreatDoor.V
