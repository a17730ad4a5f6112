/-
  How the arguments of a statement, as its reading gives them, are commands, bytes and numbers in memory. No condition.
-/
import Derived.Test.YtahkglanddhncaaYl
import Derived.Test.YtahkglanddhncaaYt
import Derived.Test.YtahkglanddhncaaRows
import Derived.WalkKit
import Derived.ProofKit
import Derived.OpenShut
import Derived.ShutString
import Derived.ChangeOld
import Derived.Below
import Derived.SliceStrings
import Derived.Deep.Slices
namespace Go.Proofs.Ytahkglanddhncaa.V
open Go.ChangeShapes Go.WideShapes Go.ChangeAt Go.RowKit

section
variable {H : Type} {enc : TypeId × Value → H} {P : Program} {W : World} {fuel : Nat}

/-- The reading of a value. -/
abbrev Rd (enc : TypeId × Value → H) (P : Program) (W : World) (fuel : Nat) (t : TypeId) (cs : List Value) : Option (DataW H × List MemPlace) := DataW.trod enc P W 0 (fun _ => true) true fuel t cs

def fieldOf (P : Program) (t i : Nat) : Option Field := match P.underlying t with | some (.struct fs) => fs[i]? | _ => none
/-- A field of one cell: where, and its type. -/
def fieldCell (P : Program) (t i : Nat) : Option (Nat × TypeDesc) :=
  match fieldOf P t i with
  | some f => if P.cellsOf f.type = 1 then (P.underlying f.type).map (f.offset, ·) else none
  | none => none
theorem fieldOf_struct {t i : Nat} {f : Field} (h : fieldOf P t i = some f) : ∃ fs, P.underlying t = some (.struct fs) ∧ fs[i]? = some f := by
  unfold fieldOf at h
  split at h
  · rename_i fs hfs; exact ⟨fs, hfs, h⟩
  · cases h
theorem trod_field {t i : Nat} {f : Field} {cs : List Value} {x : DataW H × List MemPlace} (hf : fieldOf P t i = some f) (h : Rd enc P W fuel t cs = some x) :
    ∃ n y, Rd enc P W n f.type ((cs.drop f.offset).take (P.cellsOf f.type)) = some y := by
  obtain ⟨fs, h1, h2⟩ := fieldOf_struct hf
  obtain ⟨xs, n, _, _, _, hl, hx⟩ := DataW.trod_struct h1 h
  have hi : i < xs.length := by rw [hl]; exact (Array.getElem?_eq_some_iff.1 h2).1
  exact ⟨n, xs[i], (hx i f h2).trans (List.getElem?_eq_getElem hi)⟩
theorem trod_cell {t i o : Nat} {d : TypeDesc} {cs : List Value} {x : DataW H × List MemPlace} (hf : fieldCell P t i = some (o, d)) (h : Rd enc P W fuel t cs = some x) :
    ∃ n y ty, P.underlying ty = some d ∧ Rd enc P W n ty ((cs.drop o).take 1) = some y := by
  unfold fieldCell at hf
  split at hf
  · rename_i f hf1
    split at hf
    · rename_i hc
      obtain ⟨n, y, hy⟩ := trod_field hf1 h
      cases hu : P.underlying f.type with
      | none => rw [hu] at hf; cases hf
      | some d' =>
        rw [hu] at hf
        simp at hf
        obtain ⟨h1, h2⟩ := hf
        subst h1 h2
        rw [hc] at hy
        exact ⟨n, y, f.type, hu, hy⟩
    · cases hf
  · cases hf

theorem cell_spot {w : World} {a : Addr} {v : Value} (h : w.cell? a = some v) : a.spot = none := by
  unfold World.cell? at h
  split at h
  · split at h
    · cases h
    · rename_i hs; simpa using hs
  · cases h
/-- What is read at an address, if anything is. -/
theorem sla_of {w : World} {a : Addr} {cs : List Value} (h : ∀ i v, cs[i]? = some v → w.cell? (a.add i) = some v) : SlA w (some a) cs ∧ (cs ≠ [] → a.block < w.heap.size) := by
  cases cs with
  | nil => exact ⟨SlA.empty _ _, fun h => absurd rfl h⟩
  | cons c r =>
    have h0 := h 0 c rfl
    have e0 : a.add 0 = a := by simp [Addr.add]
    rw [e0] at h0
    have hsp := cell_spot h0
    obtain ⟨b, o, sp⟩ := a
    dsimp only at hsp
    subst hsp
    exact ⟨fun i v hv => by have := h i v hv; rwa [add_none] at this, fun _ => block_lt_of_cell h0⟩

theorem byteV_of {n : Int} (h : (Lit.int .u8 n).wf = true) : byteV (UInt8.ofNat n.toNat) = .int .u8 n := by
  have hx : 0 ≤ n ∧ n ≤ 255 := by simpa [Lit.wf, IntKind.min, IntKind.max, IntKind.signed, IntKind.bits] using h
  rw [byteV_mod]
  congr 1
  omega

theorem open_bytesAt {t e : TypeId} {v : Value} {x : DataW H × List MemPlace} (ht : P.underlying t = some (.slice e)) (he : P.underlying e = some (.int .u8)) (hc : P.cellsOf e = 1)
    (h : Rd enc P W fuel t [v] = some x) : ∃ a c l, v = .slice a l.length c ∧ BytesAt W a c l := by
  rcases open_ints ht he hc h with ⟨hv, _⟩ | ⟨a, len, cap, zs, hv, _, hl, hm, hz, _, hcell, hwz⟩
  · simp at hv
    subst hv
    exact ⟨none, 0, [], rfl, BytesAt.none _⟩
  · simp at hv
    subst hv
    simp at hz
    have key := sla_of (w := W) (a := a) (cs := bytesV ((zs.take len).map fun n => UInt8.ofNat n.toNat)) (fun i v hv => by
      simp only [bytesV, List.map_map, List.getElem?_map, Option.map_eq_some_iff] at hv
      obtain ⟨n, hn, rfl⟩ := hv
      rw [List.getElem?_take] at hn
      split at hn
      · have hi := (List.getElem?_eq_some_iff.1 hn).1
        rw [hcell i hi, Function.comp]
        rw [byteV_of (hwz n (List.mem_of_getElem? hn))]
        simp [List.getD, hn]
      · cases hn)
    refine ⟨some a, cap, (zs.take len).map fun n => UInt8.ofNat n.toNat, by simp [hz, Nat.min_eq_left hl], ⟨key.1, by simp; omega, by simp, fun y hy hne => by cases hy; exact key.2 (fun h => hne (by simpa [bytesV] using h))⟩⟩
theorem str_of (s : ByteArray) : str s.data.toList = .string s := by
  cases s; rfl
theorem open_strsAt {t e : TypeId} {v : Value} {x : DataW H × List MemPlace} (ht : P.underlying t = some (.slice e)) (he : P.underlying e = some .string) (hc : P.cellsOf e = 1)
    (h : Rd enc P W fuel t [v] = some x) : ∃ a c l, v = .slice a l.length c ∧ StrsAt W a c l := by
  rcases open_strings ht he hc h with ⟨hv, _⟩ | ⟨a, len, cap, ss, hv, _, hl, hm, hz, _, hcell, hws⟩
  · simp at hv
    subst hv
    exact ⟨none, 0, [], rfl, StrsAt.none _⟩
  · simp at hv
    subst hv
    simp at hz
    have key := sla_of (w := W) (a := a) (cs := strsV ((ss.take len).map fun s => s.data.toList)) (fun i v hv => by
      simp only [strsV, List.map_map, List.getElem?_map, Option.map_eq_some_iff] at hv
      obtain ⟨n, hn, rfl⟩ := hv
      rw [List.getElem?_take] at hn
      split at hn
      · have hi := (List.getElem?_eq_some_iff.1 hn).1
        rw [hcell i hi, Function.comp, str_of]
        simp [List.getD, hn]
      · cases hn)
    refine ⟨some a, cap, (ss.take len).map fun s => s.data.toList, by simp [hz, Nat.min_eq_left hl], ⟨key.1, by simp; omega, by simp, fun y hy hne => by cases hy; exact key.2 (fun h => hne (by simpa [strsV] using h))⟩⟩
theorem open_strAt {t : TypeId} {v : Value} {x : DataW H × List MemPlace} (ht : P.underlying t = some .string) (h : Rd enc P W fuel t [v] = some x) : ∃ l, v = str l := by
  obtain ⟨s, hv, _, _⟩ := DataW.trod_string ht h
  simp at hv
  subst hv
  exact ⟨s.data.toList, (str_of s).symm⟩
theorem open_u64At {t : TypeId} {v : Value} {x : DataW H × List MemPlace} (ht : P.underlying t = some (.int .u64)) (h : Rd enc P W fuel t [v] = some x) : ∃ n : Nat, v = .int .u64 n ∧ n < 18446744073709551616 := by
  obtain ⟨n, hv, _, hw⟩ := DataW.trod_int ht h
  have hx : 0 ≤ n ∧ n ≤ 18446744073709551615 := by simpa [Lit.wf, IntKind.min, IntKind.max, IntKind.signed, IntKind.bits] using hw
  simp at hv
  subst hv
  exact ⟨n.toNat, by congr 1; omega, by omega⟩
theorem open_i64At {t : TypeId} {v : Value} {x : DataW H × List MemPlace} (ht : P.underlying t = some (.int .i64)) (h : Rd enc P W fuel t [v] = some x) : ∃ n : Int, v = .int .i64 n ∧ -9223372036854775808 ≤ n ∧ n < 9223372036854775808 := by
  obtain ⟨n, hv, _, hw⟩ := DataW.trod_int ht h
  have hx : -9223372036854775808 ≤ n ∧ n ≤ 9223372036854775807 := by simpa [Lit.wf, IntKind.min, IntKind.max, IntKind.signed, IntKind.bits] using hw
  simp at hv
  subst hv
  exact ⟨n, rfl, by omega, by omega⟩
end

theorem open_cmd {H : Type} {enc : TypeId × Value → H} {W : World} {fuel : Nat} {cs : List Value} {x : DataW H × List MemPlace} (h : Rd enc Try.prog W fuel 44 cs = some x) (hl : cs.length = 10) :
    ∃ c, CmdV W 0 cs c ∧ WfC c := by
  match cs, hl with
  | [c0, c1, c2, c3, c4, c5, c6, c7, c8, c9], _ =>
    obtain ⟨_, _, _, u0, r0⟩ := trod_cell (i := 0) (o := 0) (d := .int .i64) (by kernel_rfl) h
    obtain ⟨_, _, _, u1, r1⟩ := trod_cell (i := 1) (o := 1) (d := .string) (by kernel_rfl) h
    obtain ⟨_, _, _, u2, r2⟩ := trod_cell (i := 2) (o := 2) (d := .slice 9) (by kernel_rfl) h
    obtain ⟨_, _, _, u3, r3⟩ := trod_cell (i := 3) (o := 3) (d := .slice 5) (by kernel_rfl) h
    obtain ⟨_, _, _, u4, r4⟩ := trod_cell (i := 4) (o := 4) (d := .slice 9) (by kernel_rfl) h
    obtain ⟨_, _, _, u5, r5⟩ := trod_cell (i := 5) (o := 5) (d := .int .u64) (by kernel_rfl) h
    obtain ⟨_, _, _, u6, r6⟩ := trod_cell (i := 6) (o := 6) (d := .int .u64) (by kernel_rfl) h
    obtain ⟨_, _, _, u7, r7⟩ := trod_cell (i := 7) (o := 7) (d := .string) (by kernel_rfl) h
    obtain ⟨_, _, _, u8, r8⟩ := trod_cell (i := 8) (o := 8) (d := .string) (by kernel_rfl) h
    obtain ⟨_, _, _, u9, r9⟩ := trod_cell (i := 9) (o := 9) (d := .string) (by kernel_rfl) h
    obtain ⟨op, rfl, w0⟩ := open_i64At u0 r0
    obtain ⟨key, rfl⟩ := open_strAt u1 r1
    obtain ⟨ka, kc, keys, rfl, hK⟩ := open_strsAt u2 (by kernel_rfl) (by kernel_rfl) r2
    obtain ⟨va, vc, value, rfl, hV⟩ := open_bytesAt u3 (by kernel_rfl) (by kernel_rfl) r3
    obtain ⟨ta, tc, tags, rfl, hT⟩ := open_strsAt u4 (by kernel_rfl) (by kernel_rfl) r4
    obtain ⟨life, rfl, w5⟩ := open_u64At u5 r5
    obtain ⟨version, rfl, w6⟩ := open_u64At u6 r6
    obtain ⟨tag, rfl⟩ := open_strAt u7 r7
    obtain ⟨pre, rfl⟩ := open_strAt u8 r8
    obtain ⟨child, rfl⟩ := open_strAt u9 r9
    exact ⟨⟨op, key, keys, value, tags, life, version, tag, pre, child⟩, ⟨ka, kc, va, vc, ta, tc, rfl, hK, hV, hT, fun _ _ => Nat.zero_le _⟩, ⟨w0, w5, w6⟩⟩
theorem open_ent {H : Type} {enc : TypeId × Value → H} {W : World} {fuel : Nat} {cs : List Value} {x : DataW H × List MemPlace} (h : Rd enc Try.prog W fuel 47 cs = some x) (hl : cs.length = 11) :
    ∃ x, EntV W 0 cs x ∧ x.1 < 18446744073709551616 ∧ WfC x.2 := by
  match cs, hl with
  | c0 :: r, hl =>
    obtain ⟨_, _, _, u0, r0⟩ := trod_cell (i := 0) (o := 0) (d := .int .u64) (by kernel_rfl) h
    have hfo : (fieldOf Try.prog 47 1).map (fun f => (f.offset, f.type, Try.prog.cellsOf f.type)) = some (1, 44, 10) := by kernel_rfl
    obtain ⟨f, hf, he⟩ := Option.map_eq_some_iff.1 hfo
    simp only [Prod.mk.injEq] at he
    obtain ⟨n, y, hy⟩ := trod_field hf h
    rw [he.1, he.2.2, he.2.1] at hy
    have hr : r.length = 10 := by simpa using hl
    rw [List.drop_succ_cons, List.drop_zero, List.take_of_length_le (Nat.le_of_eq hr)] at hy
    obtain ⟨t, ht, wt⟩ := open_u64At u0 r0
    subst ht
    obtain ⟨c, hc, wc⟩ := open_cmd hy hr
    exact ⟨(t, c), ⟨r, rfl, hc⟩, wt, wc⟩

theorem open_u16At {H : Type} {enc : TypeId × Value → H} {P : Program} {W : World} {fuel : Nat} {t : TypeId} {v : Value} {x : DataW H × List MemPlace} (ht : P.underlying t = some (.int .u16)) (h : Rd enc P W fuel t [v] = some x) : ∃ n : Nat, v = .int .u16 n ∧ n < 65536 := by
  obtain ⟨n, hv, _, hw⟩ := DataW.trod_int ht h
  have hx : 0 ≤ n ∧ n ≤ 65535 := by simpa [Lit.wf, IntKind.min, IntKind.max, IntKind.signed, IntKind.bits] using hw
  simp at hv
  subst hv
  exact ⟨n.toNat, by congr 1; omega, by omega⟩
theorem mapM_len {α β : Type} {f : α → Option β} : ∀ {l : List α} {r : List β}, l.mapM f = some r → r.length = l.length
  | [], r, h => by simp at h; subst h; rfl
  | x :: l, r, h => by
    rw [List.mapM_cons] at h
    simp only [Option.bind_eq_bind, Option.bind_eq_some_iff, Option.pure_def, Option.some.injEq] at h
    obtain ⟨y, _, ys, hys, rfl⟩ := h
    simp [mapM_len hys]
theorem cells_get {w : World} {base : Nat} {a : Addr} {n : Nat} {cs : List Value} (h : w.cells? base a n = some cs) : cs.length = n ∧ ∀ i v, cs[i]? = some v → w.cell? (a.add i) = some v := by
  unfold World.cells? at h
  split at h
  · have hm := fun i (hi : i < n) => mapM_some_get h i i (by simp [hi])
    have hl : cs.length = n := by
      have := mapM_len h
      simpa using this
    refine ⟨hl, fun i v hv => ?_⟩
    have hi : i < n := by have := (List.getElem?_eq_some_iff.1 hv).1; omega
    rw [hm i hi, hv]
  · cases h
/-- A slice of commands with their times. -/
theorem open_ents {H : Type} {enc : TypeId × Value → H} {W : World} {fuel : Nat} {v : Value} {x : DataW H × List MemPlace} (ht : Try.prog.underlying 25 = some (.slice 47))
    (h : Rd enc Try.prog W fuel 25 [v] = some x) : ∃ a c cells xs, v = .slice a xs.length c ∧ SlA W a cells ∧ EntsF W (fun _ => True) cells xs ∧ xs.length ≤ 9223372036854775807 ∧ ∀ x ∈ xs, x.1 < 18446744073709551616 ∧ WfC x.2 := by
  rcases Go.Deep.open_slice ht h with ⟨hv, _⟩ | ⟨a, len, cap, m, n, D, Pl, hv, _, hl, hc, hm, _, hx⟩
  · simp at hv
    subst hv
    exact ⟨none, 0, [], [], rfl, rfl, rfl, by simp, by simp⟩
  · simp at hv
    subst hv
    simp at hm
    have hco : Try.prog.cellsOf 47 = 11 := by kernel_rfl
    rw [hco] at hx
    have key : ∀ k, k ≤ len → ∃ cells xs, xs.length = k ∧ EntsF W (fun _ => True) cells xs ∧ (∀ i v, cells[i]? = some v → W.cell? (a.add i) = some v) ∧ ∀ x ∈ xs, x.1 < 18446744073709551616 ∧ WfC x.2 := by
      intro k
      induction k with
      | zero => intro _; exact ⟨[], [], rfl, rfl, by simp, by simp⟩
      | succ k ih =>
        intro hk
        obtain ⟨cells, xs, h1, h2, h3, h4⟩ := ih (by omega)
        obtain ⟨cs, hcs, hrd⟩ := hx k (by omega)
        obtain ⟨q1, q2⟩ := cells_get hcs
        obtain ⟨y, ⟨ly, hy1, hy2⟩, hy3, hy4⟩ := open_ent hrd q1
        have hcl := EntsF.length h2
        refine ⟨cells ++ cs, xs ++ [y], by simp [h1], EntsF.snoc ⟨ly, hy1, hy2.f.mono (fun _ _ _ => trivial)⟩ h2, fun i v hv => ?_, fun x hx => ?_⟩
        · by_cases hi : i < cells.length
          · rw [List.getElem?_append_left hi] at hv; exact h3 i v hv
          · rw [List.getElem?_append_right (by omega)] at hv
            have := q2 _ v hv
            rw [Go.Deep.add_add] at this
            rwa [show k * 11 + (i - cells.length) = i by omega] at this
        · rcases List.mem_append.1 hx with hx | hx
          · exact h4 x hx
          · simp at hx; subst hx; exact ⟨hy3, hy4⟩
    obtain ⟨cells, xs, h1, h2, h3, h4⟩ := key len (Nat.le_refl _)
    refine ⟨some a, cap, cells, xs, by rw [h1], (sla_of h3).1, h2, ?_, h4⟩
    unfold maxLen at hc
    omega

/-- The world that a walk leaves. -/
theorem Ext.belowR {w w' : World} (h : Ext w w') : RowKit.Below w.heap.size w w' := h.below
end Go.Proofs.Ytahkglanddhncaa.V
