/-
  Arguments that are strangers to the run. No condition: these are rules over any program; and what follows from it.
-/
import Derived.Test.YtfoabgljfikklaaGreatDoorWaq
import Derived.Test.YtfoabgljfikklaaGreatDoorWas
import Derived.Test.YtfoabgljfikklaaGreatDoorWbx
import Derived.Test.YtfoabgljfikklaaGreatDoorRows
import Derived.WalkKit
import Derived.ProofKit
import Derived.OpenShut
import Derived.ShutString
import Derived.ChangeOld
import Derived.Below
import Derived.SliceStrings
import Derived.Deep.Slices
import Derived.Test.YtfoabgljfikklaaGreatDoorWay
set_option linter.unusedVariables false
set_option linter.unusedSimpArgs false
namespace Go.Proofs.YtfoabgljfikklaaGreatDoor.V
def strangers (k n : Nat) : List AV := (List.range' k n).map .o
theorem strangers_rel [Sig] {r : Rho} : ∀ (l : List Value) (k : Nat), (∀ i v, l[i]? = some v → Sig.val (k + i) = v) → RelL r (strangers k l.length) l
  | [], _, _ => RelL.nil r
  | v :: l, k, h => by
    have h1 := strangers_rel (r := r) l (k + 1) fun i u hu => by
      have := h (i + 1) u (by simpa using hu)
      rwa [show k + 1 + i = k + (i + 1) by omega]
    refine RelL.cons ?_ h1
    have := h 0 v rfl
    unfold Rel
    exact this.symm
theorem strangers_mid {F pre l post : List Value} {h : ∀ v ∈ F, v.oneCell' = true} {w : World} {r : Rho} {k n : Nat} {plans : Nat → Nat → Option Plan} (hF : F = pre ++ (l ++ post)) (hk : pre.length = k) (hn : l.length = n) : @RelL (sigOf plans F h w) r (strangers k n) l := by
  subst hk hn
  refine @strangers_rel (sigOf plans F h w) r l pre.length fun i v hi => ?_
  have : F[pre.length + i]? = some v := by
    rw [hF, List.getElem?_append_right (by omega), Nat.add_sub_cancel_left, List.getElem?_append_left (List.getElem?_eq_some_iff.1 hi).1, hi]
  simp [Sig.val, List.getD, this]
theorem rel_agg [Sig] {r : Rho} {l : List AV} {L : List Value} (h : RelL r l L) : Rel r (.g l) (.agg L.toArray) := by
  unfold Rel; exact ⟨L, rfl, h⟩
end Go.Proofs.YtfoabgljfikklaaGreatDoor.V
namespace Go.Proofs.YtfoabgljfikklaaGreatDoor.varyNone
open Go.Proofs.YtfoabgljfikklaaGreatDoor.V
def noneExt (z : Bool) : CallA := orExt (extAt 6 [] (.b true)) (extAt 9 [.g (strangers 0 15)] (.b z))
def noneArgs : List AV := [.g (strangers 0 15)]
theorem none_run1 : runsTo Tryz.prog (plansIn plTbl) (noneExt true) 20000 4 noneArgs true = true := by decide +kernel
theorem none_run0 : runsTo Tryz.prog (plansIn plTbl) (noneExt false) 20000 4 noneArgs true = true := by decide +kernel
def ActV (w : World) (L : List Value) (nm : List UInt8) (names : List (List UInt8)) (at_ : List Ky.Attr) (c : Cmd) : Prop :=
  ∃ v0 v1 na nc aa ac l, L = v0 :: v1 :: str nm :: .slice na names.length nc :: .slice aa at_.length ac :: l ∧ CmdW w l c ∧ StrsAt w na nc names ∧ Ky.AttrsAt w aa ac at_ ∧ v0.oneCell' = true ∧ v1.oneCell' = true
theorem none_ret (L : List Value) (nm : List UInt8) (names : List (List UInt8)) (at_ : List Ky.Attr) (c : Cmd) (w : World) (hV : ActV w L nm names at_ c) :
    Ret Tryz.prog 4 [.agg L.toArray].toArray w fun V w' => V = .bool true ∧ Ext w w' := by
  obtain ⟨v0, v1, na, nc, aa, ac, l, rfl, hC, hN, hA, o0, o1⟩ := hV
  have hlen := hC.length
  have h1 : ∀ v ∈ (v0 :: v1 :: str nm :: .slice na names.length nc :: .slice aa at_.length ac :: l), v.oneCell' = true := by
    intro v hv
    simp only [List.mem_cons] at hv
    rcases hv with rfl | rfl | rfl | rfl | rfl | hv
    · exact o0
    · exact o1
    · rfl
    · rfl
    · rfl
    · exact hC.one v hv
  obtain ⟨F, hF⟩ : ∃ F, F = (v0 :: v1 :: str nm :: .slice na names.length nc :: .slice aa at_.length ac :: l) := ⟨_, rfl⟩
  rw [← hF] at h1
  letI : Sig := sigOf (plansIn plTbl) F h1 w
  have hA' : ∀ r : Rho, RelL r noneArgs [.agg (v0 :: v1 :: str nm :: .slice na names.length nc :: .slice aa at_.length ac :: l).toArray] := fun r => RelL.cons (rel_agg (strangers_mid (pre := []) (post := []) (by simp [hF]) (by simp [hlen]) (by simp [hlen]))) (RelL.nil r)
  have hL : ∀ z : Bool, (z = true ↔ Ky.LightV nm names at_ c) → CallOK Tryz.prog w.heap.size (noneExt z) := fun z hz =>
    orExt_ok (extTrue_ok known_ret) (extAt_ok fun r w1 Args hArgs _ hold => by
      have := RelL.det _ (by decide) hArgs (hA' r)
      subst this
      refine (Ky.light_ret v0 v1 nm names at_ na aa nc ac c l w1 (hC.old hold) (hN.mod hold fun x hx hne => Nat.not_le_of_lt (hN.lt x hx hne)) (hA.mod hold fun x hx hne => Nat.not_le_of_lt (hA.lt x hx hne)) o0 o1).mono ?_
      rintro V w' ⟨⟨z', rfl, hz'⟩, hE⟩
      refine ⟨?_, hE⟩
      have : z' = z := by
        have : z' = true ↔ z = true := hz'.trans hz.symm
        revert this
        cases z <;> cases z' <;> simp
      subst this
      unfold Rel
      rfl)
  by_cases hz : Ky.LightV nm names at_ c
  · exact run_bool (P := Tryz.prog) (plans := plansIn plTbl) (ext := noneExt true) (k := 20000) (args := noneArgs) (w := w) (z := true) rfl (base_ok _ _ _) (hL true (by simp [hz])) (hA' _) none_run1
  · exact run_bool (P := Tryz.prog) (plans := plansIn plTbl) (ext := noneExt false) (k := 20000) (args := noneArgs) (w := w) (z := true) rfl (base_ok _ _ _) (hL false (by simp [hz])) (hA' _) none_run0
end Go.Proofs.YtfoabgljfikklaaGreatDoor.varyNone
namespace Go.Proofs.YtfoabgljfikklaaGreatDoor.V
open Go.ChangeShapes Go.WideShapes Go.ChangeAt Go.RowKit
section
variable {H : Type} {enc : TypeId × Value → H} {P : Program} {W : World} {fuel : Nat}
abbrev Rd (enc : TypeId × Value → H) (P : Program) (W : World) (fuel : Nat) (t : TypeId) (cs : List Value) : Option (DataW H × List MemPlace) := DataW.trod enc P W 0 (fun _ => true) true fuel t cs
def fieldOf (P : Program) (t i : Nat) : Option Field := match P.underlying t with | some (.struct fs) => fs[i]? | _ => none
def fieldCell (P : Program) (t i : Nat) : Option (Nat × TypeDesc) :=
  match fieldOf P t i with
  | some f => if P.cellsOf f.type = 1 then (P.underlying f.type).map (f.offset, ·) else none
  | none => none
theorem fieldOf_struct {t i : Nat} {f : Field} (h : fieldOf P t i = some f) : ∃ fs, P.underlying t = some (.struct fs) ∧ fs[i]? = some f := by
  unfold fieldOf at h
  split at h
  · rename_i fs hfs; exact ⟨fs, hfs, h⟩
  · cases h
theorem trod_field {t i : Nat} {f : Field} {cs : List Value} {x : DataW H × List MemPlace} (hf : fieldOf P t i = some f) (h : Rd enc P W fuel t cs = some x) :
    ∃ n y, Rd enc P W n f.type ((cs.drop f.offset).take (P.cellsOf f.type)) = some y := by
  obtain ⟨fs, h1, h2⟩ := fieldOf_struct hf
  obtain ⟨xs, n, _, _, _, hl, hx⟩ := DataW.trod_struct h1 h
  have hi : i < xs.length := by rw [hl]; exact (Array.getElem?_eq_some_iff.1 h2).1
  exact ⟨n, xs[i], (hx i f h2).trans (List.getElem?_eq_getElem hi)⟩
theorem trod_cell {t i o : Nat} {d : TypeDesc} {cs : List Value} {x : DataW H × List MemPlace} (hf : fieldCell P t i = some (o, d)) (h : Rd enc P W fuel t cs = some x) :
    ∃ n y ty, P.underlying ty = some d ∧ Rd enc P W n ty ((cs.drop o).take 1) = some y := by
  unfold fieldCell at hf
  split at hf
  · rename_i f hf1
    split at hf
    · rename_i hc
      obtain ⟨n, y, hy⟩ := trod_field hf1 h
      cases hu : P.underlying f.type with
      | none => rw [hu] at hf; cases hf
      | some d' =>
        rw [hu] at hf
        simp at hf
        obtain ⟨h1, h2⟩ := hf
        subst h1 h2
        rw [hc] at hy
        exact ⟨n, y, f.type, hu, hy⟩
    · cases hf
  · cases hf
theorem cell_spot {w : World} {a : Addr} {v : Value} (h : w.cell? a = some v) : a.spot = none := by
  unfold World.cell? at h
  split at h
  · split at h
    · cases h
    · rename_i hs; simpa using hs
  · cases h
theorem sla_of {w : World} {a : Addr} {cs : List Value} (h : ∀ i v, cs[i]? = some v → w.cell? (a.add i) = some v) : SlA w (some a) cs ∧ (cs ≠ [] → a.block < w.heap.size) := by
  cases cs with
  | nil => exact ⟨SlA.empty _ _, fun h => absurd rfl h⟩
  | cons c r =>
    have h0 := h 0 c rfl
    have e0 : a.add 0 = a := by simp [Addr.add]
    rw [e0] at h0
    have hsp := cell_spot h0
    obtain ⟨b, o, sp⟩ := a
    dsimp only at hsp
    subst hsp
    exact ⟨fun i v hv => by have := h i v hv; rwa [add_none] at this, fun _ => block_lt_of_cell h0⟩
theorem str_of (s : ByteArray) : str s.data.toList = .string s := by
  cases s; rfl
theorem open_bytesLen {t e : TypeId} {v : Value} {x : DataW H × List MemPlace} (ht : P.underlying t = some (.slice e)) (he : P.underlying e = some (.int .u8)) (hc : P.cellsOf e = 1)
    (h : Rd enc P W fuel t [v] = some x) : ∃ a c, ∃ l : List UInt8, v = .slice a l.length c := by
  rcases open_ints ht he hc h with ⟨hv, _⟩ | ⟨a, len, cap, zs, hv, _, hl, hm, hz, _, hcell, hwz⟩
  · simp at hv
    subst hv
    exact ⟨none, 0, [], rfl⟩
  · simp at hv
    subst hv
    exact ⟨some a, cap, List.replicate len 0, by simp⟩
theorem open_intAt {k : IntKind} {t : TypeId} {v : Value} {x : DataW H × List MemPlace} (ht : P.underlying t = some (.int k)) (h : Rd enc P W fuel t [v] = some x) : ∃ n : Int, v = .int k n := by
  obtain ⟨n, hv, _, _⟩ := DataW.trod_int ht h
  simp at hv
  exact ⟨n, hv⟩
theorem open_strsAt {t e : TypeId} {v : Value} {x : DataW H × List MemPlace} (ht : P.underlying t = some (.slice e)) (he : P.underlying e = some .string) (hc : P.cellsOf e = 1)
    (h : Rd enc P W fuel t [v] = some x) : ∃ a c l, v = .slice a l.length c ∧ StrsAt W a c l := by
  rcases open_strings ht he hc h with ⟨hv, _⟩ | ⟨a, len, cap, ss, hv, _, hl, hm, hz, _, hcell, hws⟩
  · simp at hv
    subst hv
    exact ⟨none, 0, [], rfl, StrsAt.none _⟩
  · simp at hv
    subst hv
    simp at hz
    have key := sla_of (w := W) (a := a) (cs := strsV ((ss.take len).map fun s => s.data.toList)) (fun i v hv => by
      simp only [strsV, List.map_map, List.getElem?_map, Option.map_eq_some_iff] at hv
      obtain ⟨n, hn, rfl⟩ := hv
      rw [List.getElem?_take] at hn
      split at hn
      · have hi := (List.getElem?_eq_some_iff.1 hn).1
        rw [hcell i hi, Function.comp, str_of]
        simp [List.getD, hn]
      · cases hn)
    refine ⟨some a, cap, (ss.take len).map fun s => s.data.toList, by simp [hz, Nat.min_eq_left hl], ⟨key.1, by simp; omega, by simp, fun y hy hne => by cases hy; exact key.2 (fun h => hne (by simpa [strsV] using h))⟩⟩
theorem open_strAt {t : TypeId} {v : Value} {x : DataW H × List MemPlace} (ht : P.underlying t = some .string) (h : Rd enc P W fuel t [v] = some x) : ∃ l, v = str l := by
  obtain ⟨s, hv, _, _⟩ := DataW.trod_string ht h
  simp at hv
  subst hv
  exact ⟨s.data.toList, (str_of s).symm⟩
theorem open_u64At {t : TypeId} {v : Value} {x : DataW H × List MemPlace} (ht : P.underlying t = some (.int .u64)) (h : Rd enc P W fuel t [v] = some x) : ∃ n : Nat, v = .int .u64 n ∧ n < 18446744073709551616 := by
  obtain ⟨n, hv, _, hw⟩ := DataW.trod_int ht h
  have hx : 0 ≤ n ∧ n ≤ 18446744073709551615 := by simpa [Lit.wf, IntKind.min, IntKind.max, IntKind.signed, IntKind.bits] using hw
  simp at hv
  subst hv
  exact ⟨n.toNat, by congr 1; omega, by omega⟩
end
theorem open_cmd {H : Type} {enc : TypeId × Value → H} {W : World} {fuel : Nat} {cs : List Value} {x : DataW H × List MemPlace} (h : Rd enc Tryz.prog W fuel 35 cs = some x) (hl : cs.length = 10) :
    ∃ c, CmdW W cs c := by
  match cs, hl with
  | [c0, c1, c2, c3, c4, c5, c6, c7, c8, c9], _ =>
    obtain ⟨_, _, _, u0, r0⟩ := trod_cell (i := 0) (o := 0) (d := .int .i64) (by kernel_rfl) h
    obtain ⟨_, _, _, u1, r1⟩ := trod_cell (i := 1) (o := 1) (d := .string) (by kernel_rfl) h
    obtain ⟨_, _, _, u2, r2⟩ := trod_cell (i := 2) (o := 2) (d := .slice 9) (by kernel_rfl) h
    obtain ⟨_, _, _, u3, r3⟩ := trod_cell (i := 3) (o := 3) (d := .slice 5) (by kernel_rfl) h
    obtain ⟨_, _, _, u4, r4⟩ := trod_cell (i := 4) (o := 4) (d := .slice 9) (by kernel_rfl) h
    obtain ⟨_, _, _, u5, r5⟩ := trod_cell (i := 5) (o := 5) (d := .int .u64) (by kernel_rfl) h
    obtain ⟨_, _, _, u6, r6⟩ := trod_cell (i := 6) (o := 6) (d := .int .u64) (by kernel_rfl) h
    obtain ⟨_, _, _, u7, r7⟩ := trod_cell (i := 7) (o := 7) (d := .string) (by kernel_rfl) h
    obtain ⟨_, _, _, u8, r8⟩ := trod_cell (i := 8) (o := 8) (d := .string) (by kernel_rfl) h
    obtain ⟨_, _, _, u9, r9⟩ := trod_cell (i := 9) (o := 9) (d := .string) (by kernel_rfl) h
    obtain ⟨op, rfl⟩ := open_intAt u0 r0
    obtain ⟨key, rfl⟩ := open_strAt u1 r1
    obtain ⟨ka, kc, keys, rfl, hK⟩ := open_strsAt u2 (by kernel_rfl) (by kernel_rfl) r2
    obtain ⟨va, vc, value, rfl⟩ := open_bytesLen u3 (by kernel_rfl) (by kernel_rfl) r3
    obtain ⟨ta, tc, tags, rfl, hT⟩ := open_strsAt u4 (by kernel_rfl) (by kernel_rfl) r4
    obtain ⟨life, rfl, _⟩ := open_u64At u5 r5
    obtain ⟨version, rfl, _⟩ := open_u64At u6 r6
    obtain ⟨tag, rfl⟩ := open_strAt u7 r7
    obtain ⟨pre, rfl⟩ := open_strAt u8 r8
    obtain ⟨child, rfl⟩ := open_strAt u9 r9
    exact ⟨⟨op, key, keys, value, tags, life, version, tag, pre, child⟩, ka, kc, va, vc, ta, tc, rfl, hK, hT⟩
theorem okWide_struct {P : Program} {W : World} {r : Reach} {base t : Nat} {v : Value} {i : Nat} {f : Field} (hf : fieldOf P t i = some f) (h : Value.okWide P W r base t v) :
    ∃ cs, v = .agg cs ∧ cs.size = P.cellsOf t ∧ Row.okWide P W r base t cs := by
  obtain ⟨fs, h1, _⟩ := fieldOf_struct hf
  simpa [Value.okWide, h1] using h
end Go.Proofs.YtfoabgljfikklaaGreatDoor.V
namespace Go.Proofs.YtfoabgljfikklaaGreatDoor.V.Ky
open Go.ChangeShapes Go.WideShapes Go.ChangeAt Go.RowKit
theorem open_attr {H : Type} {enc : TypeId × Value → H} {W : World} {fuel : Nat} {cs : List Value} {x : DataW H × List MemPlace} (h : Rd enc Tryz.prog W fuel 63 cs = some x) (hl : cs.length = 2) : ∃ y : Attr, cs = attrV y := by
  match cs, hl with
  | [a, b], _ =>
    obtain ⟨_, _, _, u0, r0⟩ := trod_cell (i := 0) (o := 0) (d := .string) (by kernel_rfl) h
    obtain ⟨_, _, _, u1, r1⟩ := trod_cell (i := 1) (o := 1) (d := .string) (by kernel_rfl) h
    obtain ⟨k, rfl⟩ := open_strAt u0 r0
    obtain ⟨nm, rfl⟩ := open_strAt u1 r1
    exact ⟨(k, nm), rfl⟩
theorem mapM_len {α β : Type} {f : α → Option β} : ∀ {l : List α} {r : List β}, l.mapM f = some r → r.length = l.length
  | [], r, h => by simp at h; subst h; rfl
  | x :: l, r, h => by
    rw [List.mapM_cons] at h
    simp only [Option.bind_eq_bind, Option.bind_eq_some_iff, Option.pure_def, Option.some.injEq] at h
    obtain ⟨y, _, ys, hys, rfl⟩ := h
    simp [mapM_len hys]
theorem cells_get {w : World} {base : Nat} {a : Addr} {n : Nat} {cs : List Value} (h : w.cells? base a n = some cs) : cs.length = n ∧ ∀ i v, cs[i]? = some v → w.cell? (a.add i) = some v := by
  unfold World.cells? at h
  split at h
  · have hm := fun i (hi : i < n) => mapM_some_get h i i (by simp [hi])
    have hl : cs.length = n := by
      have := mapM_len h
      simpa using this
    refine ⟨hl, fun i v hv => ?_⟩
    have hi : i < n := by have := (List.getElem?_eq_some_iff.1 hv).1; omega
    rw [hm i hi, hv]
  · cases h
theorem attrsV_len (l : List Attr) : (attrsV l).length = l.length * 2 := by
  induction l with
  | nil => rfl
  | cons x l ih => simp only [attrsV, List.flatMap_cons, List.length_append, List.length_cons] at ih ⊢; rw [ih]; simp [attrV]; omega
theorem attrsV_app (l m : List Attr) : attrsV (l ++ m) = attrsV l ++ attrsV m := by simp [attrsV]
theorem open_attrs {H : Type} {enc : TypeId × Value → H} {W : World} {fuel : Nat} {v : Value} {x : DataW H × List MemPlace} (ht : Tryz.prog.underlying 23 = some (.slice 63))
    (h : Rd enc Tryz.prog W fuel 23 [v] = some x) : ∃ a c l, v = .slice a l.length c ∧ AttrsAt W a c l := by
  rcases Go.Deep.open_slice ht h with ⟨hv, _⟩ | ⟨a, len, cap, m, n, D, Pl, hv, _, hl, hc, hm, _, hx⟩
  · simp at hv
    subst hv
    exact ⟨none, 0, [], rfl, ⟨rfl, Nat.le_refl _, fun _ => rfl, fun _ h => by cases h⟩⟩
  · simp at hv
    subst hv
    simp at hm
    have hco : Tryz.prog.cellsOf 63 = 2 := by kernel_rfl
    rw [hco] at hx
    have key : ∀ k, k ≤ len → ∃ l : List Attr, l.length = k ∧ (∀ i v, (attrsV l)[i]? = some v → W.cell? (a.add i) = some v) := by
      intro k
      induction k with
      | zero => intro _; exact ⟨[], rfl, by simp [attrsV]⟩
      | succ k ih =>
        intro hk
        obtain ⟨l, h1, h3⟩ := ih (by omega)
        obtain ⟨cs, hcs, hrd⟩ := hx k (by omega)
        obtain ⟨q1, q2⟩ := cells_get hcs
        obtain ⟨y, rfl⟩ := open_attr hrd q1
        have hcl := attrsV_len l
        refine ⟨l ++ [y], by simp [h1], fun i v hv => ?_⟩
        rw [attrsV_app] at hv
        by_cases hi : i < (attrsV l).length
        · rw [List.getElem?_append_left hi] at hv; exact h3 i v hv
        · rw [List.getElem?_append_right (by omega)] at hv
          have hv' : (attrV y)[i - (attrsV l).length]? = some v := by
            have e : attrsV [y] = attrV y := by simp [attrsV]
            rwa [e] at hv
          have := q2 _ v hv'
          rw [Go.Deep.add_add] at this
          rwa [show k * 2 + (i - (attrsV l).length) = i by omega] at this
    obtain ⟨l, h1, h3⟩ := key len (Nat.le_refl _)
    have hs := sla_of h3
    refine ⟨some a, cap, l, by rw [h1], ⟨hs.1, by omega, by simp, fun y hy hne => ?_⟩⟩
    cases hy
    refine hs.2 fun e => hne ?_
    have h0 : (attrsV l).length = 0 := by rw [e]; rfl
    rw [attrsV_len] at h0
    exact List.eq_nil_of_length_eq_zero (by omega)
end Go.Proofs.YtfoabgljfikklaaGreatDoor.V.Ky
