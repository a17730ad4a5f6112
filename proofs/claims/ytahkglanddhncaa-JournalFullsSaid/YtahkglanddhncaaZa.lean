/-
  How the arguments of a statement, as its reading gives them, are commands, bytes and numbers in memory. No condition.
-/
import Derived.Test.YtahkglanddhncaaYl
import Derived.Test.YtahkglanddhncaaRows
import Derived.WalkKit
import Derived.ProofKit
import Derived.OpenShut
import Derived.ShutString
import Derived.ChangeOld
import Derived.Below
import Derived.SliceStrings
namespace Go.Proofs.Ytahkglanddhncaa.V
open Go.ChangeShapes Go.WideShapes Go.ChangeAt Go.RowKit

section
variable {H : Type} {enc : TypeId × Value → H} {P : Program} {W : World} {fuel : Nat}

/-- The reading of a value. -/
abbrev Rd (enc : TypeId × Value → H) (P : Program) (W : World) (fuel : Nat) (t : TypeId) (cs : List Value) : Option (DataW H × List MemPlace) := DataW.trod enc P W 0 (fun _ => true) true fuel t cs

def fieldOf (P : Program) (t i : Nat) : Option Field := match P.underlying t with | some (.struct fs) => fs[i]? | _ => none
/-- A field of one cell: where, and its type. -/
def fieldCell (P : Program) (t i : Nat) : Option (Nat × TypeDesc) :=
  match fieldOf P t i with
  | some f => if P.cellsOf f.type = 1 then (P.underlying f.type).map (f.offset, ·) else none
  | none => none
theorem fieldOf_struct {t i : Nat} {f : Field} (h : fieldOf P t i = some f) : ∃ fs, P.underlying t = some (.struct fs) ∧ fs[i]? = some f := by
  unfold fieldOf at h
  split at h
  · rename_i fs hfs; exact ⟨fs, hfs, h⟩
  · cases h
theorem trod_field {t i : Nat} {f : Field} {cs : List Value} {x : DataW H × List MemPlace} (hf : fieldOf P t i = some f) (h : Rd enc P W fuel t cs = some x) :
    ∃ n y, Rd enc P W n f.type ((cs.drop f.offset).take (P.cellsOf f.type)) = some y := by
  obtain ⟨fs, h1, h2⟩ := fieldOf_struct hf
  obtain ⟨xs, n, _, _, _, hl, hx⟩ := DataW.trod_struct h1 h
  have hi : i < xs.length := by rw [hl]; exact (Array.getElem?_eq_some_iff.1 h2).1
  exact ⟨n, xs[i], (hx i f h2).trans (List.getElem?_eq_getElem hi)⟩
theorem trod_cell {t i o : Nat} {d : TypeDesc} {cs : List Value} {x : DataW H × List MemPlace} (hf : fieldCell P t i = some (o, d)) (h : Rd enc P W fuel t cs = some x) :
    ∃ n y ty, P.underlying ty = some d ∧ Rd enc P W n ty ((cs.drop o).take 1) = some y := by
  unfold fieldCell at hf
  split at hf
  · rename_i f hf1
    split at hf
    · rename_i hc
      obtain ⟨n, y, hy⟩ := trod_field hf1 h
      cases hu : P.underlying f.type with
      | none => rw [hu] at hf; cases hf
      | some d' =>
        rw [hu] at hf
        simp at hf
        obtain ⟨h1, h2⟩ := hf
        subst h1 h2
        rw [hc] at hy
        exact ⟨n, y, f.type, hu, hy⟩
    · cases hf
  · cases hf

/-- What a slice's cell keeps to. -/
def Sp (W : World) (v : Value) : Prop := ∀ a n c, v = .slice (some a) n c → a.spot = none ∧ a.block < W.heap.size
theorem Sp.of_cell {r : Reach} {base u : Nat} {v : Value} (h : Cell.okWide P W r base u v) : Sp W v := by
  rintro a n c rfl
  unfold Cell.okWide at h
  have key : ∀ h : Cell.ok P W r base u (.slice (some a) n c), a.spot = none ∧ a.block < W.heap.size := by
    intro h
    unfold Cell.ok at h
    split at h <;> try (first | exact h.elim | cases ‹Value.slice (some a) n c = _›)
    all_goals simp_all [World.has]
    obtain ⟨_, _, _, _, row, cells, hs, _⟩ := h
    unfold World.shape? at hs
    split at hs
    · rename_i hh; exact (Array.getElem?_eq_some_iff.1 hh).1
    · cases hs
  split at h
  all_goals first | exact key h | simp_all
theorem Sp.of_row {r : Reach} {base t : Nat} {cs : Array Value} (h : Row.okWide P W r base t cs) : ∀ v ∈ cs.toList, Sp W v := by
  obtain ⟨ts, _, _, h3⟩ := h
  intro v hv
  obtain ⟨i, hi⟩ := List.getElem?_of_mem hv
  obtain ⟨u, _, hu⟩ := h3 i v (by simpa using hi)
  exact Sp.of_cell hu

theorem byteV_of {n : Int} (h : (Lit.int .u8 n).wf = true) : byteV (UInt8.ofNat n.toNat) = .int .u8 n := by
  have hx : 0 ≤ n ∧ n ≤ 255 := by simpa [Lit.wf, IntKind.min, IntKind.max, IntKind.signed, IntKind.bits] using h
  rw [byteV_mod]
  congr 1
  omega

theorem open_bytesAt {t e : TypeId} {v : Value} {x : DataW H × List MemPlace} (ht : P.underlying t = some (.slice e)) (he : P.underlying e = some (.int .u8)) (hc : P.cellsOf e = 1)
    (h : Rd enc P W fuel t [v] = some x) (hs : Sp W v) : ∃ a c l, v = .slice a l.length c ∧ BytesAt W a c l := by
  rcases open_ints ht he hc h with ⟨hv, _⟩ | ⟨a, len, cap, zs, hv, _, hl, hm, hz, _, hcell, hwz⟩
  · simp at hv
    subst hv
    exact ⟨none, 0, [], rfl, BytesAt.none _⟩
  · simp at hv
    subst hv
    obtain ⟨h1, h2⟩ := hs _ _ _ rfl
    simp at hz
    refine ⟨some a, cap, (zs.take len).map fun n => UInt8.ofNat n.toNat, by simp [hz, Nat.min_eq_left hl], ⟨?_, by simp; omega, by simp, fun y hy => by cases hy; exact h2⟩⟩
    obtain ⟨b, o, sp⟩ := a
    dsimp only at h1
    subst h1
    intro i v hv
    simp only [bytesV, List.map_map, List.getElem?_map, Option.map_eq_some_iff] at hv
    obtain ⟨n, hn, rfl⟩ := hv
    rw [List.getElem?_take] at hn
    split at hn
    · have hi := (List.getElem?_eq_some_iff.1 hn).1
      have := hcell i hi
      rw [add_none] at this
      rw [this, Function.comp]
      rw [byteV_of (hwz n (List.mem_of_getElem? hn))]
      simp [List.getD, hn]
    · cases hn
theorem str_of (s : ByteArray) : str s.data.toList = .string s := by
  cases s; rfl
theorem open_strsAt {t e : TypeId} {v : Value} {x : DataW H × List MemPlace} (ht : P.underlying t = some (.slice e)) (he : P.underlying e = some .string) (hc : P.cellsOf e = 1)
    (h : Rd enc P W fuel t [v] = some x) (hs : Sp W v) : ∃ a c l, v = .slice a l.length c ∧ StrsAt W a c l := by
  rcases open_strings ht he hc h with ⟨hv, _⟩ | ⟨a, len, cap, ss, hv, _, hl, hm, hz, _, hcell, hws⟩
  · simp at hv
    subst hv
    exact ⟨none, 0, [], rfl, StrsAt.none _⟩
  · simp at hv
    subst hv
    obtain ⟨h1, h2⟩ := hs _ _ _ rfl
    simp at hz
    refine ⟨some a, cap, (ss.take len).map fun s => s.data.toList, by simp [hz, Nat.min_eq_left hl], ⟨?_, by simp; omega, by simp, fun y hy => by cases hy; exact h2⟩⟩
    obtain ⟨b, o, sp⟩ := a
    dsimp only at h1
    subst h1
    intro i v hv
    simp only [strsV, List.map_map, List.getElem?_map, Option.map_eq_some_iff] at hv
    obtain ⟨n, hn, rfl⟩ := hv
    rw [List.getElem?_take] at hn
    split at hn
    · have hi := (List.getElem?_eq_some_iff.1 hn).1
      have := hcell i hi
      rw [add_none] at this
      rw [this, Function.comp, str_of]
      simp [List.getD, hn]
    · cases hn
theorem open_strAt {t : TypeId} {v : Value} {x : DataW H × List MemPlace} (ht : P.underlying t = some .string) (h : Rd enc P W fuel t [v] = some x) : ∃ l, v = str l := by
  obtain ⟨s, hv, _, _⟩ := DataW.trod_string ht h
  simp at hv
  subst hv
  exact ⟨s.data.toList, (str_of s).symm⟩
theorem open_u64At {t : TypeId} {v : Value} {x : DataW H × List MemPlace} (ht : P.underlying t = some (.int .u64)) (h : Rd enc P W fuel t [v] = some x) : ∃ n : Nat, v = .int .u64 n ∧ n < 18446744073709551616 := by
  obtain ⟨n, hv, _, hw⟩ := DataW.trod_int ht h
  have hx : 0 ≤ n ∧ n ≤ 18446744073709551615 := by simpa [Lit.wf, IntKind.min, IntKind.max, IntKind.signed, IntKind.bits] using hw
  simp at hv
  subst hv
  exact ⟨n.toNat, by congr 1; omega, by omega⟩
theorem open_i64At {t : TypeId} {v : Value} {x : DataW H × List MemPlace} (ht : P.underlying t = some (.int .i64)) (h : Rd enc P W fuel t [v] = some x) : ∃ n : Int, v = .int .i64 n ∧ -9223372036854775808 ≤ n ∧ n < 9223372036854775808 := by
  obtain ⟨n, hv, _, hw⟩ := DataW.trod_int ht h
  have hx : -9223372036854775808 ≤ n ∧ n ≤ 9223372036854775807 := by simpa [Lit.wf, IntKind.min, IntKind.max, IntKind.signed, IntKind.bits] using hw
  simp at hv
  subst hv
  exact ⟨n, rfl, by omega, by omega⟩
end

/-- What any command keeps to. -/
structure WfC (c : Cmd) : Prop where
  op : -9223372036854775808 ≤ c.op ∧ c.op < 9223372036854775808
  life : c.life < 18446744073709551616
  version : c.version < 18446744073709551616

theorem open_cmd {H : Type} {enc : TypeId × Value → H} {W : World} {fuel : Nat} {cs : List Value} {x : DataW H × List MemPlace} (h : Rd enc Try.prog W fuel 44 cs = some x) (hl : cs.length = 10) (hs : ∀ v ∈ cs, Sp W v) :
    ∃ c, CmdV W 0 cs c ∧ WfC c := by
  match cs, hl with
  | [c0, c1, c2, c3, c4, c5, c6, c7, c8, c9], _ =>
    obtain ⟨_, _, _, u0, r0⟩ := trod_cell (i := 0) (o := 0) (d := .int .i64) (by kernel_rfl) h
    obtain ⟨_, _, _, u1, r1⟩ := trod_cell (i := 1) (o := 1) (d := .string) (by kernel_rfl) h
    obtain ⟨_, _, _, u2, r2⟩ := trod_cell (i := 2) (o := 2) (d := .slice 9) (by kernel_rfl) h
    obtain ⟨_, _, _, u3, r3⟩ := trod_cell (i := 3) (o := 3) (d := .slice 5) (by kernel_rfl) h
    obtain ⟨_, _, _, u4, r4⟩ := trod_cell (i := 4) (o := 4) (d := .slice 9) (by kernel_rfl) h
    obtain ⟨_, _, _, u5, r5⟩ := trod_cell (i := 5) (o := 5) (d := .int .u64) (by kernel_rfl) h
    obtain ⟨_, _, _, u6, r6⟩ := trod_cell (i := 6) (o := 6) (d := .int .u64) (by kernel_rfl) h
    obtain ⟨_, _, _, u7, r7⟩ := trod_cell (i := 7) (o := 7) (d := .string) (by kernel_rfl) h
    obtain ⟨_, _, _, u8, r8⟩ := trod_cell (i := 8) (o := 8) (d := .string) (by kernel_rfl) h
    obtain ⟨_, _, _, u9, r9⟩ := trod_cell (i := 9) (o := 9) (d := .string) (by kernel_rfl) h
    obtain ⟨op, rfl, w0⟩ := open_i64At u0 r0
    obtain ⟨key, rfl⟩ := open_strAt u1 r1
    obtain ⟨ka, kc, keys, rfl, hK⟩ := open_strsAt u2 (by kernel_rfl) (by kernel_rfl) r2 (hs _ (by simp))
    obtain ⟨va, vc, value, rfl, hV⟩ := open_bytesAt u3 (by kernel_rfl) (by kernel_rfl) r3 (hs _ (by simp))
    obtain ⟨ta, tc, tags, rfl, hT⟩ := open_strsAt u4 (by kernel_rfl) (by kernel_rfl) r4 (hs _ (by simp))
    obtain ⟨life, rfl, w5⟩ := open_u64At u5 r5
    obtain ⟨version, rfl, w6⟩ := open_u64At u6 r6
    obtain ⟨tag, rfl⟩ := open_strAt u7 r7
    obtain ⟨pre, rfl⟩ := open_strAt u8 r8
    obtain ⟨child, rfl⟩ := open_strAt u9 r9
    exact ⟨⟨op, key, keys, value, tags, life, version, tag, pre, child⟩, ⟨ka, kc, va, vc, ta, tc, rfl, hK, hV, hT, fun _ _ => Nat.zero_le _⟩, ⟨w0, w5, w6⟩⟩
theorem open_ent {H : Type} {enc : TypeId × Value → H} {W : World} {fuel : Nat} {cs : List Value} {x : DataW H × List MemPlace} (h : Rd enc Try.prog W fuel 47 cs = some x) (hl : cs.length = 11) (hs : ∀ v ∈ cs, Sp W v) :
    ∃ x, EntV W 0 cs x ∧ x.1 < 18446744073709551616 ∧ WfC x.2 := by
  match cs, hl with
  | c0 :: r, hl =>
    obtain ⟨_, _, _, u0, r0⟩ := trod_cell (i := 0) (o := 0) (d := .int .u64) (by kernel_rfl) h
    have hfo : (fieldOf Try.prog 47 1).map (fun f => (f.offset, f.type, Try.prog.cellsOf f.type)) = some (1, 44, 10) := by kernel_rfl
    obtain ⟨f, hf, he⟩ := Option.map_eq_some_iff.1 hfo
    simp only [Prod.mk.injEq] at he
    obtain ⟨n, y, hy⟩ := trod_field hf h
    rw [he.1, he.2.2, he.2.1] at hy
    have hr : r.length = 10 := by simpa using hl
    rw [List.drop_succ_cons, List.drop_zero, List.take_of_length_le (Nat.le_of_eq hr)] at hy
    obtain ⟨t, ht, wt⟩ := open_u64At u0 r0
    subst ht
    obtain ⟨c, hc, wc⟩ := open_cmd hy hr (fun v hv => hs v (by simp [hv]))
    exact ⟨(t, c), ⟨r, rfl, hc⟩, wt, wc⟩

/-- The world that a walk leaves. -/
theorem Ext.belowR {w w' : World} (h : Ext w w') : RowKit.Below w.heap.size w w' := h.below
end Go.Proofs.Ytahkglanddhncaa.V
