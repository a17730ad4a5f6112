/-
  How the arguments of a statement, as its reading gives them, are commands and numbers in memory. No condition.
-/
import Derived.Test.YtbjomeonjlialaaGreatFc
import Derived.Test.YtbjomeonjlialaaGreatRows
import Derived.WalkKit
import Derived.ProofKit
import Derived.OpenShut
import Derived.ShutString
import Derived.ChangeOld
import Derived.Below
import Derived.SliceStrings
import Derived.Deep.Slices
namespace Go.Proofs.YtbjomeonjlialaaGreat.V
open Go.ChangeShapes Go.WideShapes Go.ChangeAt Go.RowKit

section
variable {H : Type} {enc : TypeId × Value → H} {P : Program} {W : World} {fuel : Nat}

/-- The reading of a value. -/
abbrev Rd (enc : TypeId × Value → H) (P : Program) (W : World) (fuel : Nat) (t : TypeId) (cs : List Value) : Option (DataW H × List MemPlace) := DataW.trod enc P W 0 (fun _ => true) true fuel t cs

def fieldOf (P : Program) (t i : Nat) : Option Field := match P.underlying t with | some (.struct fs) => fs[i]? | _ => none
/-- A field of one cell: where, and its type. -/
def fieldCell (P : Program) (t i : Nat) : Option (Nat × TypeDesc) :=
  match fieldOf P t i with
  | some f => if P.cellsOf f.type = 1 then (P.underlying f.type).map (f.offset, ·) else none
  | none => none
theorem fieldOf_struct {t i : Nat} {f : Field} (h : fieldOf P t i = some f) : ∃ fs, P.underlying t = some (.struct fs) ∧ fs[i]? = some f := by
  unfold fieldOf at h
  split at h
  · rename_i fs hfs; exact ⟨fs, hfs, h⟩
  · cases h
theorem trod_field {t i : Nat} {f : Field} {cs : List Value} {x : DataW H × List MemPlace} (hf : fieldOf P t i = some f) (h : Rd enc P W fuel t cs = some x) :
    ∃ n y, Rd enc P W n f.type ((cs.drop f.offset).take (P.cellsOf f.type)) = some y := by
  obtain ⟨fs, h1, h2⟩ := fieldOf_struct hf
  obtain ⟨xs, n, _, _, _, hl, hx⟩ := DataW.trod_struct h1 h
  have hi : i < xs.length := by rw [hl]; exact (Array.getElem?_eq_some_iff.1 h2).1
  exact ⟨n, xs[i], (hx i f h2).trans (List.getElem?_eq_getElem hi)⟩
theorem trod_cell {t i o : Nat} {d : TypeDesc} {cs : List Value} {x : DataW H × List MemPlace} (hf : fieldCell P t i = some (o, d)) (h : Rd enc P W fuel t cs = some x) :
    ∃ n y ty, P.underlying ty = some d ∧ Rd enc P W n ty ((cs.drop o).take 1) = some y := by
  unfold fieldCell at hf
  split at hf
  · rename_i f hf1
    split at hf
    · rename_i hc
      obtain ⟨n, y, hy⟩ := trod_field hf1 h
      cases hu : P.underlying f.type with
      | none => rw [hu] at hf; cases hf
      | some d' =>
        rw [hu] at hf
        simp at hf
        obtain ⟨h1, h2⟩ := hf
        subst h1 h2
        rw [hc] at hy
        exact ⟨n, y, f.type, hu, hy⟩
    · cases hf
  · cases hf

theorem cell_spot {w : World} {a : Addr} {v : Value} (h : w.cell? a = some v) : a.spot = none := by
  unfold World.cell? at h
  split at h
  · split at h
    · cases h
    · rename_i hs; simpa using hs
  · cases h
/-- What is read at an address, if anything is. -/
theorem sla_of {w : World} {a : Addr} {cs : List Value} (h : ∀ i v, cs[i]? = some v → w.cell? (a.add i) = some v) : SlA w (some a) cs ∧ (cs ≠ [] → a.block < w.heap.size) := by
  cases cs with
  | nil => exact ⟨SlA.empty _ _, fun h => absurd rfl h⟩
  | cons c r =>
    have h0 := h 0 c rfl
    have e0 : a.add 0 = a := by simp [Addr.add]
    rw [e0] at h0
    have hsp := cell_spot h0
    obtain ⟨b, o, sp⟩ := a
    dsimp only at hsp
    subst hsp
    exact ⟨fun i v hv => by have := h i v hv; rwa [add_none] at this, fun _ => block_lt_of_cell h0⟩

theorem str_of (s : ByteArray) : str s.data.toList = .string s := by
  cases s; rfl
/-- A slice of bytes, of which only the length is of interest. -/
theorem open_bytesLen {t e : TypeId} {v : Value} {x : DataW H × List MemPlace} (ht : P.underlying t = some (.slice e)) (he : P.underlying e = some (.int .u8)) (hc : P.cellsOf e = 1)
    (h : Rd enc P W fuel t [v] = some x) : ∃ a c, ∃ l : List UInt8, v = .slice a l.length c := by
  rcases open_ints ht he hc h with ⟨hv, _⟩ | ⟨a, len, cap, zs, hv, _, hl, hm, hz, _, hcell, hwz⟩
  · simp at hv
    subst hv
    exact ⟨none, 0, [], rfl⟩
  · simp at hv
    subst hv
    exact ⟨some a, cap, List.replicate len 0, by simp⟩
theorem open_intAt {k : IntKind} {t : TypeId} {v : Value} {x : DataW H × List MemPlace} (ht : P.underlying t = some (.int k)) (h : Rd enc P W fuel t [v] = some x) : ∃ n : Int, v = .int k n := by
  obtain ⟨n, hv, _, _⟩ := DataW.trod_int ht h
  simp at hv
  exact ⟨n, hv⟩
theorem open_strsAt {t e : TypeId} {v : Value} {x : DataW H × List MemPlace} (ht : P.underlying t = some (.slice e)) (he : P.underlying e = some .string) (hc : P.cellsOf e = 1)
    (h : Rd enc P W fuel t [v] = some x) : ∃ a c l, v = .slice a l.length c ∧ StrsAt W a c l := by
  rcases open_strings ht he hc h with ⟨hv, _⟩ | ⟨a, len, cap, ss, hv, _, hl, hm, hz, _, hcell, hws⟩
  · simp at hv
    subst hv
    exact ⟨none, 0, [], rfl, StrsAt.none _⟩
  · simp at hv
    subst hv
    simp at hz
    have key := sla_of (w := W) (a := a) (cs := strsV ((ss.take len).map fun s => s.data.toList)) (fun i v hv => by
      simp only [strsV, List.map_map, List.getElem?_map, Option.map_eq_some_iff] at hv
      obtain ⟨n, hn, rfl⟩ := hv
      rw [List.getElem?_take] at hn
      split at hn
      · have hi := (List.getElem?_eq_some_iff.1 hn).1
        rw [hcell i hi, Function.comp, str_of]
        simp [List.getD, hn]
      · cases hn)
    refine ⟨some a, cap, (ss.take len).map fun s => s.data.toList, by simp [hz, Nat.min_eq_left hl], ⟨key.1, by simp; omega, by simp, fun y hy hne => by cases hy; exact key.2 (fun h => hne (by simpa [strsV] using h))⟩⟩
theorem open_strAt {t : TypeId} {v : Value} {x : DataW H × List MemPlace} (ht : P.underlying t = some .string) (h : Rd enc P W fuel t [v] = some x) : ∃ l, v = str l := by
  obtain ⟨s, hv, _, _⟩ := DataW.trod_string ht h
  simp at hv
  subst hv
  exact ⟨s.data.toList, (str_of s).symm⟩
theorem open_u64At {t : TypeId} {v : Value} {x : DataW H × List MemPlace} (ht : P.underlying t = some (.int .u64)) (h : Rd enc P W fuel t [v] = some x) : ∃ n : Nat, v = .int .u64 n ∧ n < 18446744073709551616 := by
  obtain ⟨n, hv, _, hw⟩ := DataW.trod_int ht h
  have hx : 0 ≤ n ∧ n ≤ 18446744073709551615 := by simpa [Lit.wf, IntKind.min, IntKind.max, IntKind.signed, IntKind.bits] using hw
  simp at hv
  subst hv
  exact ⟨n.toNat, by congr 1; omega, by omega⟩
theorem open_i64At {t : TypeId} {v : Value} {x : DataW H × List MemPlace} (ht : P.underlying t = some (.int .i64)) (h : Rd enc P W fuel t [v] = some x) : ∃ n : Int, v = .int .i64 n ∧ -9223372036854775808 ≤ n ∧ n < 9223372036854775808 := by
  obtain ⟨n, hv, _, hw⟩ := DataW.trod_int ht h
  have hx : -9223372036854775808 ≤ n ∧ n ≤ 9223372036854775807 := by simpa [Lit.wf, IntKind.min, IntKind.max, IntKind.signed, IntKind.bits] using hw
  simp at hv
  subst hv
  exact ⟨n, rfl, by omega, by omega⟩
end

theorem open_cmd {H : Type} {enc : TypeId × Value → H} {W : World} {fuel : Nat} {cs : List Value} {x : DataW H × List MemPlace} (h : Rd enc Tryz.prog W fuel 67 cs = some x) (hl : cs.length = 10) :
    ∃ c, CmdW W cs c := by
  match cs, hl with
  | [c0, c1, c2, c3, c4, c5, c6, c7, c8, c9], _ =>
    obtain ⟨_, _, _, u0, r0⟩ := trod_cell (i := 0) (o := 0) (d := .int .i64) (by kernel_rfl) h
    obtain ⟨_, _, _, u1, r1⟩ := trod_cell (i := 1) (o := 1) (d := .string) (by kernel_rfl) h
    obtain ⟨_, _, _, u2, r2⟩ := trod_cell (i := 2) (o := 2) (d := .slice 9) (by kernel_rfl) h
    obtain ⟨_, _, _, u3, r3⟩ := trod_cell (i := 3) (o := 3) (d := .slice 5) (by kernel_rfl) h
    obtain ⟨_, _, _, u4, r4⟩ := trod_cell (i := 4) (o := 4) (d := .slice 9) (by kernel_rfl) h
    obtain ⟨_, _, _, u5, r5⟩ := trod_cell (i := 5) (o := 5) (d := .int .u64) (by kernel_rfl) h
    obtain ⟨_, _, _, u6, r6⟩ := trod_cell (i := 6) (o := 6) (d := .int .u64) (by kernel_rfl) h
    obtain ⟨_, _, _, u7, r7⟩ := trod_cell (i := 7) (o := 7) (d := .string) (by kernel_rfl) h
    obtain ⟨_, _, _, u8, r8⟩ := trod_cell (i := 8) (o := 8) (d := .string) (by kernel_rfl) h
    obtain ⟨_, _, _, u9, r9⟩ := trod_cell (i := 9) (o := 9) (d := .string) (by kernel_rfl) h
    obtain ⟨op, rfl⟩ := open_intAt u0 r0
    obtain ⟨key, rfl⟩ := open_strAt u1 r1
    obtain ⟨ka, kc, keys, rfl, hK⟩ := open_strsAt u2 (by kernel_rfl) (by kernel_rfl) r2
    obtain ⟨va, vc, value, rfl⟩ := open_bytesLen u3 (by kernel_rfl) (by kernel_rfl) r3
    obtain ⟨ta, tc, tags, rfl, hT⟩ := open_strsAt u4 (by kernel_rfl) (by kernel_rfl) r4
    obtain ⟨life, rfl, _⟩ := open_u64At u5 r5
    obtain ⟨version, rfl, _⟩ := open_u64At u6 r6
    obtain ⟨tag, rfl⟩ := open_strAt u7 r7
    obtain ⟨pre, rfl⟩ := open_strAt u8 r8
    obtain ⟨child, rfl⟩ := open_strAt u9 r9
    exact ⟨⟨op, key, keys, value, tags, life, version, tag, pre, child⟩, ka, kc, va, vc, ta, tc, rfl, hK, hT⟩
/-- The world that a walk leaves. -/
theorem Ext.belowR {w w' : World} (h : Ext w w') : RowKit.Below w.heap.size w w' := h.below
theorem okWide_struct {P : Program} {W : World} {r : Reach} {base t : Nat} {v : Value} {i : Nat} {f : Field} (hf : fieldOf P t i = some f) (h : Value.okWide P W r base t v) :
    ∃ cs, v = .agg cs ∧ cs.size = P.cellsOf t ∧ Row.okWide P W r base t cs := by
  obtain ⟨fs, h1, _⟩ := fieldOf_struct hf
  simpa [Value.okWide, h1] using h
end Go.Proofs.YtbjomeonjlialaaGreat.V
