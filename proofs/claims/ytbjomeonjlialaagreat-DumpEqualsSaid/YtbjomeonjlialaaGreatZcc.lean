/-
  The law DumpEquals, by a contract: true for any two states. No condition; and what follows from it.
-/
import Derived.Test.YtbjomeonjlialaaGreatZbg
import Derived.Test.YtbjomeonjlialaaGreatZcb
import Derived.Test.YtbjomeonjlialaaGreatZbt
import Derived.Test.YtbjomeonjlialaaGreatZai
import Derived.Test.YtbjomeonjlialaaGreatRows
import Derived.WalkKit
import Derived.ProofKit
import Derived.OpenShut
import Derived.ShutString
import Derived.ChangeOld
import Derived.Below
import Derived.SliceStrings
import Derived.Deep.Slices
import Derived.Test.YtbjomeonjlialaaGreatZbd
import Derived.Test.YtbjomeonjlialaaGreatProg
import Derived.JoinedOf
set_option linter.unusedVariables false
set_option linter.unusedSimpArgs false
namespace Go.Proofs.YtbjomeonjlialaaGreat.V.S
section
variable [Sig] {lo : Nat} (hb : RunBase Tryz.prog (plansIn plTbl))
omit [Sig] in
theorem c6_ok [Sig] : CtrOK Unit Tryz.prog lo c6 := fun r w Args hA hs _ => by
  have hA := hA.of_nil
  subst hA
  refine (dumpNone.known_ret w).mono fun V w' ⟨h1, h2⟩ => ?_
  subst h1
  exact ⟨r, Rho.le.refl r, mk_b true, hs.ext h2, FrmC.ext h2⟩
include hb
def vt_c4 : Out (List Eqn) := (.any 34
 (.fork (.op .nt (.at 34) (.li 0))
 (.leaf [])
 (.any 35
  (.fork (.op .nt (.at 35) (.li 0))
  (.leaf [])
  (.fork (.op .bq (.op .an (.op (.cm .eql) (.at 0) (.at 16)) (.op .an (.op (.cm .eql) (.at 1) (.at 17)) (.op .an (.op (.cm .eql) (.at 2) (.at 18)) (.op .an (.op (.cm .eql) (.at 3) (.at 19)) (.op .an (.op (.cm .eql) (.at 4) (.at 20)) (.op .an (.op (.cm .eql) (.at 5) (.at 21)) (.op .an (.op (.cm .eql) (.at 6) (.at 22)) (.op .an (.op (.cm .eql) (.at 7) (.at 23)) (.op .an (.op (.cm .eql) (.at 8) (.at 24)) (.op .an (.op (.cm .eql) (.at 9) (.at 25)) (.op .an (.op (.cm .eql) (.at 10) (.at 26)) (.op .an (.op (.fn 12) (.at 11) (.at 27)) (.op .an (.op (.fn 10) (.at 12) (.at 28)) (.op .an (.op (.fn 6) (.at 13) (.at 29)) (.op .an (.op (.fn 4) (.at 14) (.at 30)) (.op (.fn 2) (.at 15) (.at 31))))))))))))))))) (.op .an (.op (.cm .eql) (.at 0) (.at 16)) (.op .an (.op (.cm .eql) (.at 1) (.at 17)) (.op .an (.op (.cm .eql) (.at 2) (.at 18)) (.op .an (.op (.cm .eql) (.at 3) (.at 19)) (.op .an (.op (.cm .eql) (.at 4) (.at 20)) (.op .an (.op (.cm .eql) (.at 5) (.at 21)) (.op .an (.op (.cm .eql) (.at 6) (.at 22)) (.op .an (.op (.cm .eql) (.at 7) (.at 23)) (.op .an (.op (.cm .eql) (.at 8) (.at 24)) (.op .an (.op (.cm .eql) (.at 9) (.at 25)) (.op .an (.op (.cm .eql) (.at 10) (.at 26)) (.op .an (.op (.fn 12) (.at 11) (.at 27)) (.op .an (.op (.fn 10) (.at 12) (.at 28)) (.op .an (.op (.fn 6) (.at 13) (.at 29)) (.op .an (.op (.fn 4) (.at 14) (.at 30)) (.op (.fn 2) (.at 15) (.at 31))))))))))))))))))
   (.fork (.op .bq (.op .an (.op (.cm .eql) (.at 16) (.at 0)) (.op .an (.op (.cm .eql) (.at 17) (.at 1)) (.op .an (.op (.cm .eql) (.at 18) (.at 2)) (.op .an (.op (.cm .eql) (.at 19) (.at 3)) (.op .an (.op (.cm .eql) (.at 20) (.at 4)) (.op .an (.op (.cm .eql) (.at 21) (.at 5)) (.op .an (.op (.cm .eql) (.at 22) (.at 6)) (.op .an (.op (.cm .eql) (.at 23) (.at 7)) (.op .an (.op (.cm .eql) (.at 24) (.at 8)) (.op .an (.op (.cm .eql) (.at 25) (.at 9)) (.op .an (.op (.cm .eql) (.at 26) (.at 10)) (.op .an (.op (.fn 12) (.at 27) (.at 11)) (.op .an (.op (.fn 10) (.at 28) (.at 12)) (.op .an (.op (.fn 6) (.at 29) (.at 13)) (.op .an (.op (.fn 4) (.at 30) (.at 14)) (.op (.fn 2) (.at 31) (.at 15))))))))))))))))) (.op .an (.op (.cm .eql) (.at 0) (.at 16)) (.op .an (.op (.cm .eql) (.at 1) (.at 17)) (.op .an (.op (.cm .eql) (.at 2) (.at 18)) (.op .an (.op (.cm .eql) (.at 3) (.at 19)) (.op .an (.op (.cm .eql) (.at 4) (.at 20)) (.op .an (.op (.cm .eql) (.at 5) (.at 21)) (.op .an (.op (.cm .eql) (.at 6) (.at 22)) (.op .an (.op (.cm .eql) (.at 7) (.at 23)) (.op .an (.op (.cm .eql) (.at 8) (.at 24)) (.op .an (.op (.cm .eql) (.at 9) (.at 25)) (.op .an (.op (.cm .eql) (.at 10) (.at 26)) (.op .an (.op (.fn 12) (.at 11) (.at 27)) (.op .an (.op (.fn 10) (.at 12) (.at 28)) (.op .an (.op (.fn 6) (.at 13) (.at 29)) (.op .an (.op (.fn 4) (.at 14) (.at 30)) (.op (.fn 2) (.at 15) (.at 31))))))))))))))))))
    (.fork (.op .an (.op (.cm .eql) (.at 0) (.at 0)) (.op .an (.op (.cm .eql) (.at 1) (.at 1)) (.op .an (.op (.cm .eql) (.at 2) (.at 2)) (.op .an (.op (.cm .eql) (.at 3) (.at 3)) (.op .an (.op (.cm .eql) (.at 4) (.at 4)) (.op .an (.op (.cm .eql) (.at 5) (.at 5)) (.op .an (.op (.cm .eql) (.at 6) (.at 6)) (.op .an (.op (.cm .eql) (.at 7) (.at 7)) (.op .an (.op (.cm .eql) (.at 8) (.at 8)) (.op .an (.op (.cm .eql) (.at 9) (.at 9)) (.op .an (.op (.cm .eql) (.at 10) (.at 10)) (.op .an (.op (.fn 12) (.at 11) (.at 11)) (.op .an (.op (.fn 10) (.at 12) (.at 12)) (.op .an (.op (.fn 6) (.at 13) (.at 13)) (.op .an (.op (.fn 4) (.at 14) (.at 14)) (.op (.fn 2) (.at 15) (.at 15)))))))))))))))))
     (.leaf [])
     (.leaf [⟨1, (.lb true), (.lb false)⟩]))
    (.leaf [⟨1, (.lb true), (.lb false)⟩]))
   (.leaf [⟨1, (.lb true), (.lb false)⟩]))))))
omit [Sig] hb in
theorem c4_run : Out.same (c4.run Tryz.prog (plansIn plTbl) x_c4 (loopXs Tryz.prog (plansIn plTbl) x_c4 ann 1000 3) 1000).slim vt_c4 = true := by decide +kernel
theorem c4_ok : CtrOK Unit Tryz.prog lo c4 := ctr_run hb (orExt_ok (call_ok (c8_ok hb)) (orExt_ok (call_ok (c9_ok hb)) (orExt_ok (call_ok (c10_ok hb)) (orExt_ok (call_ok c6_ok) noExt_ok)))) (by decide +kernel) c4_run (by decide +kernel) (by decide +kernel) fun g _ _ => by
  simp only [vt_c4, vcT, eqT, denT, proj1, setG, t_nt, f_nt, t_bq, f_bq, t_an, f_an, t_seql, f_seql, t_eql, f_eql, r_p2, r_fn, D.tr_b, e0_1, e0_2, e0_3, e0_5, e0_6, n0_1, n0_2, n0_3, n0_5, n0_6, Nat.reduceEqDiff, reduceIte, ne_eq, not_true_eq_false, and_true, implies_true, true_implies]
  simp
  intro d _ e _
  rw [Bool.eq_iff_iff]
  simp only [t_an, t_eql, e0_1, e0_2, e0_3, e0_5, e0_6]
  exact and_congr eq_comm (and_congr eq_comm (and_congr eq_comm (and_congr eq_comm (and_congr eq_comm (and_congr eq_comm (and_congr eq_comm (and_congr eq_comm (and_congr eq_comm (and_congr eq_comm (and_congr eq_comm (and_congr eq_comm (and_congr eq_comm (and_congr eq_comm (and_congr eq_comm (eq_comm)))))))))))))))
end
end Go.Proofs.YtbjomeonjlialaaGreat.V.S
namespace Go.Proofs.YtbjomeonjlialaaGreat.V
structure Cmd where
  op : Int
  key : List UInt8
  keys : List (List UInt8)
  value : List UInt8
  tags : List (List UInt8)
  life : Nat
  version : Nat
  tag : List UInt8
  pre : List UInt8
  child : List UInt8
def cmdCells (c : Cmd) (ka : Option Addr) (kc : Nat) (va : Option Addr) (vc : Nat) (ta : Option Addr) (tc : Nat) : List Value :=
  [.int .i64 c.op, str c.key, .slice ka c.keys.length kc, .slice va c.value.length vc, .slice ta c.tags.length tc, .int .u64 c.life, .int .u64 c.version, str c.tag, str c.pre, str c.child]
def strsV (l : List (List UInt8)) : List Value := l.map str
@[simp] theorem length_strsV (l : List (List UInt8)) : (strsV l).length = l.length := by simp [strsV]
structure StrsAt (w : World) (a : Option Addr) (c : Nat) (l : List (List UInt8)) : Prop where
  cells : SlA w a (strsV l)
  cap : l.length ≤ c
  nil : a = none → c = 0
  lt : ∀ x, a = some x → l ≠ [] → x.block < w.heap.size
theorem StrsAt.mod {S : Nat → Prop} {w w' : World} {a : Option Addr} {c : Nat} {l : List (List UInt8)} (h : StrsAt w a c l) (hm : Mod S w w') (hn : ∀ x, a = some x → l ≠ [] → ¬ S x.block) : StrsAt w' a c l := by
  refine ⟨?_, h.cap, h.nil, fun x hx hne => Nat.lt_of_lt_of_le (h.lt x hx hne) hm.size⟩
  by_cases hl : l = []
  · subst hl; exact SlA.empty _ _
  · exact h.cells.mod hm (fun x hx => hn x hx hl)
theorem StrsAt.none (w : World) : StrsAt w none 0 [] := ⟨rfl, Nat.le_refl _, fun _ => rfl, by simp⟩
def CmdW (w : World) (l : List Value) (c : Cmd) : Prop :=
  ∃ ka kc va vc ta tc, l = cmdCells c ka kc va vc ta tc ∧ StrsAt w ka kc c.keys ∧ StrsAt w ta tc c.tags
theorem CmdW.old {w w' : World} {l : List Value} {c : Cmd} (h : CmdW w l c) (hm : Mod (fun k => w.heap.size ≤ k) w w') : CmdW w' l c := by
  obtain ⟨ka, kc, va, vc, ta, tc, h1, h2, h3⟩ := h
  exact ⟨ka, kc, va, vc, ta, tc, h1, h2.mod hm fun x hx hne => Nat.not_le_of_lt (h2.lt x hx hne), h3.mod hm fun x hx hne => Nat.not_le_of_lt (h3.lt x hx hne)⟩
theorem CmdW.length {w : World} {l : List Value} {c : Cmd} (h : CmdW w l c) : l.length = 10 := by
  obtain ⟨ka, kc, va, vc, ta, tc, rfl, _⟩ := h; rfl
theorem CmdW.one {w : World} {l : List Value} {c : Cmd} (h : CmdW w l c) : ∀ u ∈ l, u.oneCell' = true := by
  obtain ⟨ka, kc, va, vc, ta, tc, rfl, _⟩ := h
  simp [cmdCells, Value.oneCell', str]
end Go.Proofs.YtbjomeonjlialaaGreat.V
namespace Go.Proofs.YtbjomeonjlialaaGreat.V
open Go.ChangeShapes Go.WideShapes Go.ChangeAt Go.RowKit
section
variable {H : Type} {enc : TypeId × Value → H} {P : Program} {W : World} {fuel : Nat}
abbrev Rd (enc : TypeId × Value → H) (P : Program) (W : World) (fuel : Nat) (t : TypeId) (cs : List Value) : Option (DataW H × List MemPlace) := DataW.trod enc P W 0 (fun _ => true) true fuel t cs
def fieldOf (P : Program) (t i : Nat) : Option Field := match P.underlying t with | some (.struct fs) => fs[i]? | _ => none
theorem fieldOf_struct {t i : Nat} {f : Field} (h : fieldOf P t i = some f) : ∃ fs, P.underlying t = some (.struct fs) ∧ fs[i]? = some f := by
  unfold fieldOf at h
  split at h
  · rename_i fs hfs; exact ⟨fs, hfs, h⟩
  · cases h
theorem cell_spot {w : World} {a : Addr} {v : Value} (h : w.cell? a = some v) : a.spot = none := by
  unfold World.cell? at h
  split at h
  · split at h
    · cases h
    · rename_i hs; simpa using hs
  · cases h
theorem str_of (s : ByteArray) : str s.data.toList = .string s := by
  cases s; rfl
end
theorem okWide_struct {P : Program} {W : World} {r : Reach} {base t : Nat} {v : Value} {i : Nat} {f : Field} (hf : fieldOf P t i = some f) (h : Value.okWide P W r base t v) :
    ∃ cs, v = .agg cs ∧ cs.size = P.cellsOf t ∧ Row.okWide P W r base t cs := by
  obtain ⟨fs, h1, _⟩ := fieldOf_struct hf
  simpa [Value.okWide, h1] using h
end Go.Proofs.YtbjomeonjlialaaGreat.V
namespace Go.Proofs.YtbjomeonjlialaaGreat.V.S
open Go.ChangeShapes Go.WideShapes Go.ChangeAt Go.RowKit
theorem byteV_of {n : Int} (h : (Lit.int .u8 n).wf = true) : byteV (UInt8.ofNat n.toNat) = .int .u8 n := by
  have hx : 0 ≤ n ∧ n ≤ 255 := by simpa [Lit.wf, IntKind.min, IntKind.max, IntKind.signed, IntKind.bits] using h
  unfold byteV
  congr 1
  simp
  omega
def kindsF (P : Program) (rec : TypeId → Option (List SK)) : Nat → List Field → Option (List SK)
  | _, [] => some []
  | o, f :: l => match rec f.type, Nat.beq f.offset o with
    | some ks, true => match Nat.beq ks.length (P.cellsOf f.type), kindsF P rec (o + P.cellsOf f.type) l with
      | true, some r => some (ks ++ r)
      | _, _ => none
    | _, _ => none
def tkinds (P : Program) : Nat → TypeId → Option (List SK)
  | 0, _ => none
  | m + 1, t => match P.underlying t with
    | some (.int k) => some [.i k]
    | some .bool => some [.b]
    | some .string => some [.s]
    | some (.slice e) => match P.underlying e, Nat.beq (P.cellsOf e) 1 with
      | some (.int .u8), true => some [.w]
      | _, _ => match tkinds P m e with
        | some fs => match Nat.beq fs.length (P.cellsOf e) with | true => some [.v fs] | false => none
        | none => none
    | some (.struct fs) => match kindsF P (tkinds P m) 0 fs.toList with
      | some ks => match Nat.beq ks.length (P.cellsOf t) with | true => some ks | false => none
      | none => none
    | _ => none
section
variable {X : Type} {P : Program} {H : Type} {enc : TypeId × Value → H} {W : World} {r : Rho X}
theorem fz_of (hr : ∀ k ob, W.heap[k]? = some ob → r.fz k = some ob) {a : Addr} {cs : List Value} (h : ∀ i v, cs[i]? = some v → W.cell? (a.add i) = some v) : FzAt r (some a) cs := by
  cases cs with
  | nil => exact .inl rfl
  | cons c l =>
    have h0 := h 0 c rfl
    have hsp := cell_spot h0
    obtain ⟨b, o, sp⟩ := a
    have hsp : sp = none := hsp
    subst hsp
    right
    unfold World.cell? at h0
    split at h0
    · rename_i cs t fr hb
      refine ⟨b, o, cs, t, fr, rfl, hr _ _ hb, fun i v hv => ?_⟩
      have := h i v hv
      rw [add_none] at this
      unfold World.cell? at this
      have hb' : W.heap[b]? = some (.cells cs t fr) := hb
      simp only [hb'] at this
      simpa using this
    · cases h0
theorem RelKs.app {fs gs : List SK} {ds es : List (D X)} {cs L : List Value} (h : RelKs r fs ds cs) (hl : ds.length = fs.length) (k : RelKs r gs es L) : RelKs r (fs ++ gs) (ds ++ es) (cs ++ L) := by
  induction fs generalizing ds cs with
  | nil =>
    unfold RelKs at h
    subst h
    have : ds = [] := List.length_eq_zero_iff.1 hl
    subst this
    exact k
  | cons f fs ih =>
    unfold RelKs at h
    obtain ⟨A, M, rfl, h1, h2⟩ := h
    cases ds with
    | nil => simp at hl
    | cons d ds =>
      simp only [List.cons_append]
      unfold RelKs
      exact ⟨A, M ++ L, rfl, h1, ih h2 (by simpa using hl)⟩
def elD (fs : List SK) (ds : List (D X)) : D X := match singleB fs with | true => ds.headD (.i 0) | false => .l ds
theorem rowD_elD {fs : List SK} {ds : List (D X)} (hl : ds.length = fs.length) : rowD fs (elD fs ds) = ds := by
  unfold rowD elD
  cases hs : singleB fs with
  | false => rfl
  | true =>
    match fs, hs with
    | [f], _ =>
      match ds, hl with
      | [d], _ => rfl
theorem cellsQ {a : Addr} {n : Nat} {cs : List Value} {base : Nat} (h : W.cells? base a n = some cs) : cs.length = n ∧ ∀ i v, cs[i]? = some v → W.cell? (a.add i) = some v := by
  unfold World.cells? at h
  split at h
  · have hl := mapM_some_length h
    refine ⟨by simpa using hl, fun i v hv => ?_⟩
    have hi : i < n := by
      have := (List.getElem?_eq_some_iff.1 hv).1
      rw [hl] at this
      simpa using this
    have := mapM_some_get h i i (by simp [hi])
    rw [this]
    exact hv
  · cases h
theorem choose_list {α : Type} {Q : Nat → α → Prop} : ∀ {n : Nat}, (∀ i, i < n → ∃ p, Q i p) → ∃ l : List α, l.length = n ∧ ∀ (i : Nat) p, l[i]? = some p → Q i p
  | 0, _ => ⟨[], rfl, fun i p h => by simp at h⟩
  | n + 1, h => by
    obtain ⟨l, h1, h2⟩ := choose_list (n := n) fun i hi => h i (by omega)
    obtain ⟨p, hp⟩ := h n (by omega)
    refine ⟨l ++ [p], by simp [h1], fun i q hq => ?_⟩
    by_cases hi : i < l.length
    · rw [List.getElem?_append_left hi] at hq
      exact h2 i q hq
    · rw [List.getElem?_append_right (by omega)] at hq
      have : i - l.length = 0 := by
        have := (List.getElem?_eq_some_iff.1 hq).1
        simp at this
        omega
      rw [this] at hq
      simp at hq
      subst hq
      rw [show i = n by omega]
      exact hp
theorem flat_cells {a : Addr} {sz : Nat} : ∀ {rows : List (List Value)} {k : Nat}, (∀ (j : Nat) row, rows[j]? = some row → row.length = sz ∧ ∀ (i : Nat) v, row[i]? = some v → W.cell? (a.add ((k + j) * sz + i)) = some v) → ∀ (i : Nat) v, rows.flatten[i]? = some v → W.cell? (a.add (k * sz + i)) = some v
  | [], _, _, i, v, h => by simp at h
  | row :: rows, k, hr, i, v, h => by
    obtain ⟨h1, h2⟩ := hr 0 row rfl
    rw [List.flatten_cons] at h
    by_cases hi : i < row.length
    · rw [List.getElem?_append_left hi] at h
      have := h2 i v h
      simpa using this
    · rw [List.getElem?_append_right (by omega)] at h
      have := flat_cells (rows := rows) (k := k + 1) (fun j row hj => by
        have := hr (j + 1) row (by simpa using hj)
        rw [show k + 1 + j = k + (j + 1) by omega]
        exact this) (i - row.length) v h
      rw [show (k + 1) * sz + (i - row.length) = k * sz + i by rw [Nat.add_mul]; omega] at this
      exact this
theorem rd_fields {n m : Nat} {cs : List Value} (ih : ∀ {t : TypeId} {ks : List SK} {cs : List Value} {x : DataW H × List MemPlace}, tkinds P m t = some ks → Rd enc P W n t cs = some x → cs.length = ks.length → ∃ ds : List (D X), ds.length = ks.length ∧ RelKs r ks ds cs) :
    ∀ {l : List Field} {o : Nat} {ks : List SK}, kindsF P (tkinds P m) o l = some ks → (∀ f ∈ l, ∃ y, Rd enc P W n f.type ((cs.drop f.offset).take (P.cellsOf f.type)) = some y) → o + ks.length = cs.length → ∃ ds : List (D X), ds.length = ks.length ∧ RelKs r ks ds (cs.drop o)
  | [], o, ks, h, _, hl => by
    simp only [kindsF, Option.some.injEq] at h
    subst h
    refine ⟨[], rfl, ?_⟩
    unfold RelKs
    simp at hl
    exact List.drop_eq_nil_of_le (by omega)
  | f :: l, o, ks, h, hf, hl => by
    simp only [kindsF] at h
    split at h
    · rename_i k1 hk ho
      have ho := Nat.eq_of_beq_eq_true ho
      split at h
      · rename_i rest hlen hrest
        have hlen := Nat.eq_of_beq_eq_true hlen
        cases h
        rw [List.length_append] at hl
        obtain ⟨y, hy⟩ := hf f List.mem_cons_self
        rw [ho] at hy
        obtain ⟨ds, h1, h2⟩ := ih hk hy (by rw [List.length_take, List.length_drop]; omega)
        obtain ⟨es, h3, h4⟩ := rd_fields ih hrest (fun g hg => hf g (List.mem_cons_of_mem _ hg)) (by omega)
        refine ⟨ds ++ es, by simp [h1, h3], ?_⟩
        have := RelKs.app h2 h1 h4
        rw [← List.drop_drop, List.take_append_drop] at this
        exact this
      · cases h
    · cases h
theorem rd_kinds (hr : ∀ k ob, W.heap[k]? = some ob → r.fz k = some ob) : ∀ (m : Nat) {t : TypeId} {ks : List SK} {fuel : Nat} {cs : List Value} {x : DataW H × List MemPlace}, tkinds P m t = some ks → Rd enc P W fuel t cs = some x → cs.length = ks.length → ∃ ds : List (D X), ds.length = ks.length ∧ RelKs r ks ds cs
  | 0, _, _, _, _, _, h, _, _ => by simp [tkinds] at h
  | m + 1, t, ks, fuel, cs, x, h, hx, hl => by
    simp only [tkinds] at h
    split at h
    · rename_i k hu
      cases h
      obtain ⟨n, rfl, _, _⟩ := DataW.trod_int hu hx
      exact ⟨[.i n], rfl, by unfold RelKs; exact ⟨_, [], rfl, by unfold RelK; rfl, by unfold RelKs; rfl⟩⟩
    · rename_i hu
      cases h
      obtain ⟨b, rfl, _⟩ := DataW.trod_bool hu hx
      exact ⟨[.b b], rfl, by unfold RelKs; exact ⟨_, [], rfl, by unfold RelK; rfl, by unfold RelKs; rfl⟩⟩
    · rename_i hu
      cases h
      obtain ⟨s, rfl, _, _⟩ := DataW.trod_string hu hx
      exact ⟨[.s s.data.toList], rfl, by unfold RelKs; exact ⟨_, [], rfl, by unfold RelK; exact (str_of s).symm, by unfold RelKs; rfl⟩⟩
    · rename_i e hu
      split at h
      · rename_i he hc
        cases h
        rcases open_ints hu he (Nat.eq_of_beq_eq_true hc) hx with ⟨rfl, _⟩ | ⟨a, len, cap, zs, rfl, _, hle, hm, hz, _, hcell, hwz⟩
        · exact ⟨[.p (.v (.slice none 0 0)) (.s [])], rfl, by unfold RelKs; exact ⟨_, [], rfl, nilb_rel, by unfold RelKs; rfl⟩⟩
        · simp at hz
          refine ⟨[.p (.v (.slice (some a) len cap)) (.s ((zs.take len).map fun n => UInt8.ofNat n.toNat))], rfl, ?_⟩
          unfold RelKs
          refine ⟨_, [], rfl, ?_, by unfold RelKs; rfl⟩
          have hlen : ((zs.take len).map fun n => UInt8.ofNat n.toNat).length = len := by simp; omega
          unfold RelK
          refine ⟨rfl, some a, cap, ?_, ?_, ?_⟩
          · show Value.slice (some a) len cap = .slice (some a) ((zs.take len).map fun n => UInt8.ofNat n.toNat).length cap
            rw [hlen]
          · refine fz_of hr fun i v hv => ?_
            have hv : (bytesV ((zs.take len).map fun n => UInt8.ofNat n.toNat))[i]? = some v := hv
            simp only [bytesV, List.map_map, List.getElem?_map, Option.map_eq_some_iff] at hv
            obtain ⟨n, hn, rfl⟩ := hv
            rw [List.getElem?_take] at hn
            split at hn
            · have hi := (List.getElem?_eq_some_iff.1 hn).1
              rw [hcell i hi, Function.comp]
              rw [byteV_of (hwz n (List.mem_of_getElem? hn))]
              simp [List.getD, hn]
            · cases hn
          · show ((zs.take len).map fun n => UInt8.ofNat n.toNat).length ≤ maxLen
            omega
      · split at h
        · rename_i fs hfs
          split at h
          · rename_i hsz
            have hsz := Nat.eq_of_beq_eq_true hsz
            cases h
            rcases DataW.trod_slice hu hx with ⟨rfl, _⟩ | ⟨a, len, cap, elems, rest, n, _, rfl, _, _, hle, hm, hlen, hel, _⟩
            · exact ⟨[.p (.v (.slice none 0 0)) (.l [])], rfl, by unfold RelKs; exact ⟨_, [], rfl, nil_rel, by unfold RelKs; rfl⟩⟩
            · have each : ∀ i, i < len → ∃ p : List Value × List (D X), p.1.length = fs.length ∧ p.2.length = fs.length ∧ RelKs r fs p.2 p.1 ∧ ∀ (j : Nat) v, p.1[j]? = some v → W.cell? (a.add (i * fs.length + j)) = some v := fun i hi => by
                have h1 := hel i hi
                rw [List.getElem?_eq_getElem (by omega), Option.bind_eq_some_iff] at h1
                obtain ⟨row, h2, h3⟩ := h1
                obtain ⟨h4, h5⟩ := cellsQ h2
                obtain ⟨ds, h6, h7⟩ := rd_kinds hr m hfs h3 (h4.trans hsz.symm)
                refine ⟨(row, ds), h4.trans hsz.symm, h6, h7, fun j v hv => ?_⟩
                have := h5 j v hv
                rw [Addr.add_add, ← hsz] at this
                exact this
              obtain ⟨L, g1, g2⟩ := choose_list each
              refine ⟨[.p (.v (.slice (some a) len cap)) (.l (L.map fun p => elD fs p.2))], rfl, ?_⟩
              unfold RelKs
              refine ⟨_, [], rfl, ?_, by unfold RelKs; rfl⟩
              unfold RelK
              refine ⟨rfl, some a, cap, ?_, L.map (·.1), ?_, ?_, ?_, ?_⟩
              · show Value.slice (some a) len cap = .slice (some a) (L.map fun p => elD fs p.2).length cap
                rw [List.length_map, g1]
              · show (L.map (·.1)).length = (L.map fun p => elD fs p.2).length
                simp
              · intro j y M hy hM
                have hy : (L.map fun p => elD fs p.2)[j]? = some y := hy
                rw [List.getElem?_map, Option.map_eq_some_iff] at hy hM
                obtain ⟨p, hp, rfl⟩ := hy
                obtain ⟨q, hq, rfl⟩ := hM
                rw [hp] at hq
                cases hq
                obtain ⟨k1, k2, k3, _⟩ := g2 j p hp
                rw [rowD_elD k2]
                exact k3
              · refine fz_of hr fun i v hv => ?_
                have := flat_cells (W := W) (a := a) (sz := fs.length) (rows := L.map (·.1)) (k := 0) (fun j row hj => by
                  rw [List.getElem?_map, Option.map_eq_some_iff] at hj
                  obtain ⟨p, hp, rfl⟩ := hj
                  obtain ⟨k1, k2, k3, k4⟩ := g2 j p hp
                  refine ⟨k1, fun i v hv => ?_⟩
                  rw [Nat.zero_add]
                  exact k4 i v hv) i v hv
                simpa using this
              · show (L.map fun p => elD fs p.2).length ≤ maxLen
                rw [List.length_map]
                omega
          · cases h
        · cases h
    · rename_i fs hu
      split at h
      · rename_i ks' hks
        split at h
        · cases h
          obtain ⟨xs, n, rfl, _, hcl, hxl, hf⟩ := DataW.trod_struct hu hx
          have := rd_fields (r := r) (cs := cs) (n := n) (fun {t ks cs x} h1 h2 h3 => rd_kinds hr m h1 h2 h3) hks (fun f hfm => by
            obtain ⟨i, hi⟩ := List.getElem?_of_mem hfm
            have hi' : fs[i]? = some f := by simpa using hi
            have hil : i < xs.length := by
              have := (Array.getElem?_eq_some_iff.1 hi').1
              omega
            exact ⟨xs[i], (hf i f hi').trans (List.getElem?_eq_getElem hil)⟩) (by omega)
          simpa using this
        · cases h
      · cases h
    · cases h
end
def patK : Nat → List SK → List AV
  | _, [] => []
  | o, k :: fs => cellK (.at o) k :: patK (o + 1) fs
def startR {X : Type} (W : World) (na : Nat) (ds : List (D X)) : Rho X := ⟨fun b => if b < na then some (0, 0) else none, fun k => W.heap[k]?, fun i => ds[i]?⟩
section
variable {X : Type} [Spec X] [Sig] {W : World}
theorem patK_rel {r : Rho X} : ∀ {fs : List SK} {o : Nat} {es : List (D X)} {L : List Value}, RelKs r fs es L → (∀ (i : Nat) e, es[i]? = some e → r.at' (o + i) = some e) → es.length = fs.length → RelL r (patK o fs) L
  | [], o, es, L, h, _, _ => by
    unfold RelKs at h
    rw [h]
    exact RelL.nil r
  | k :: fs, o, es, L, h, hat, hl => by
    unfold RelKs at h
    obtain ⟨A, M, rfl, h1, h2⟩ := h
    cases es with
    | nil => simp at hl
    | cons e es =>
      have h0 := hat 0 e rfl
      refine RelL.cons (cellK_rel (c := .at o) (d := e) h0 h1) (patK_rel h2 (fun i x hx => ?_) (by simpa using hl))
      have := hat (i + 1) x (by simpa using hx)
      rw [show o + 1 + i = o + (i + 1) by omega]
      exact this
theorem start_sat (hb : Sig.base = W) {na : Nat} {ds : List (D X)} (hl : ds.length = na) : Sat W.heap.size (startR W na ds) (ctrH na []) W := by
  have hg : ∀ b, (ctrH na []).get b = if b < na then some .dead else none := fun b => deads_get
  refine ⟨fun b ab hb => ?_, fun b c ab ac B K K' hb hc hlb => ?_, fun b hb => ?_, Nat.le_refl _, by rw [hb]; exact Mod.refl W, fun k ob hk => ⟨hk, fun b ab K hb hw => ?_⟩⟩
  · rw [hg] at hb
    split at hb
    · rename_i h
      cases hb
      exact ⟨0, 0, by simp only [startR, if_pos h], fun hw => (by cases hw), trivial⟩
    · cases hb
  · rw [hg] at hb
    split at hb
    · cases hb; cases hlb
    · cases hb
  · rw [hg] at hb
    split at hb
    · cases hb
    · rename_i h
      exact ⟨by simp only [startR, if_neg h], by simp only [startR]; exact List.getElem?_eq_none (by omega)⟩
  · rw [hg] at hb
    split at hb
    · cases hb; cases hw
    · cases hb
end
theorem start_ext {X : Type} {na : Nat} {r r' : Rho X} {H' : Tr AB} {w w' : World} (h : FrmC r (ctrH na []) w r' H' w') : Ext w w' := h.mod.weaken fun k _ ⟨b, ab, K, hb, hw, _⟩ => by
  have hb : (deads na).get b = some ab := hb
  rw [deads_get] at hb
  split at hb
  · cases hb; cases hw
  · cases hb
end Go.Proofs.YtbjomeonjlialaaGreat.V.S
namespace Go.Proofs.YtbjomeonjlialaaGreat.V.S
def stK : List SK := [.i .i64, .i .i64, .i .i64, .i .i64, .i .i64, .i .u64, .i .u64, .i .u64, .i .u64, .i .u64, .i .u64, .v (lk 6), .v (lk 5), .v (lk 3), .v (lk 2), .v (lk 1)]
theorem equals_ret (W : World) (c0 c1 : List Value) (h : ∀ r : Rho Unit, (∀ k ob, W.heap[k]? = some ob → r.fz k = some ob) → (∃ ds : List (D Unit), ds.length = stK.length ∧ RelKs r stK ds c0) ∧ ∃ ds : List (D Unit), ds.length = stK.length ∧ RelKs r stK ds c1) :
    Ret Tryz.prog 4 #[.agg c0.toArray, .agg c1.toArray] W fun V W' => V = .bool true ∧ Ext W W' := by
  letI : Sig := sigOf Tryz.prog (plansIn plTbl) [] (by simp) W
  have hb : RunBase Tryz.prog (plansIn plTbl) := base_ok [] (by simp) W
  obtain ⟨⟨d0, l0, h0⟩, d1, l1, h1⟩ := h (startR W 0 []) (fun k ob hk => hk)
  have l0 : d0.length = 16 := l0
  have l1 : d1.length = 16 := l1
  have hl : (d0 ++ d1).length = 32 := by simp [l0, l1]
  have f0 : RelKs (startR W 32 (d0 ++ d1)) stK d0 c0 := RelKs.fzq (r := startR W 0 []) (fun k o ho => ho) _ h0
  have f1 : RelKs (startR W 32 (d0 ++ d1)) stK d1 c1 := RelKs.fzq (r := startR W 0 []) (fun k o ho => ho) _ h1
  have hA : RelL (startR W 32 (d0 ++ d1)) c4.args [.agg c0.toArray, .agg c1.toArray] := by
    show RelL _ [.g (patK 0 stK), .g (patK 16 stK)] _
    refine RelL.cons (mk_g (patK_rel f0 (fun i e he => ?_) l0)) (RelL.cons (mk_g (patK_rel f1 (fun i e he => ?_) l1)) (RelL.nil _))
    · have hi := (List.getElem?_eq_some_iff.1 he).1
      show (d0 ++ d1)[0 + i]? = some e
      rw [Nat.zero_add, List.getElem?_append_left hi]
      exact he
    · show (d0 ++ d1)[16 + i]? = some e
      rw [List.getElem?_append_right (by omega), show 16 + i - d0.length = i by omega]
      exact he
  refine (c4_ok hb (startR W 32 (d0 ++ d1)) W _ hA (start_sat rfl hl) (fun c hc => by simp [c4] at hc)).mono fun V W' ⟨r', _, h2, _, h3⟩ => ?_
  obtain ⟨d, hd, rfl⟩ := rel_xb h2
  cases hd
  exact ⟨rfl, start_ext h3⟩
end Go.Proofs.YtbjomeonjlialaaGreat.V.S
namespace Go.Proofs.YtbjomeonjlialaaGreat.V
theorem and_t {a b : Bool} (h : a = true) (k : b = true) : (a && b) = true := by rw [h, k]; rfl
theorem cg_laidOut : laidOutB Tryz.checked.prog = true := by kernel_rfl
theorem cg_mapsRowed : mapsRowed Tryz.checked.prog = true := by kernel_rfl
theorem cg_stops : (Tryz.checked.prog.stops == []) = true := by kernel_rfl
theorem cg_stopKnobs : (Tryz.checked.prog.stopKnobs == []) = true := by kernel_rfl
theorem cg_stopsHeard : Tryz.checked.prog.stopsHeard = true := by kernel_rfl
theorem cg_mayEnter : Tryz.checked.prog.mayEnter = true := by kernel_rfl
def cMake (P : Program) (_fn : Func) (c : OpenClaim) : Bool := (P.make == some c.make)
def cKinds (P : Program) (fn : Func) (c : OpenClaim) : Bool := (c.kinds == (if c.domain.isEmpty then [] else fn.params.toList.map fun t => match P.underlying t with | some (.int k) => some k | _ => none))
theorem joinedFacts_of {P : Program} {f : FuncId} {fn : Func} {s : ChangeSpec} {c : OpenClaim} (h0 : (c.wf (OpenSpec.ofChange s)) = true) (h1 : (laidOutB P) = true) (h2 : (mapsRowed P) = true) (h3 : (fn.params.all (P.readableRec ·)) = true) (h4 : (namedTie P c.named s.vars) = true) (h5 : (c.stops == []) = true) (h6 : (P.stops == []) = true) (h7 : (c.knobs == []) = true) (h8 : (P.stopKnobs == []) = true) (h9 : (c.inPlace == P.inPlace f) = true) (h10 : (c.unfollowed == P.unfollowed f) = true) (h11 : (c.recurses == P.recurses f) = true) (h12 : (c.named == P.varsNamed f) = true) (h13 : (c.maps == (fn.params.toList ++ s.plain.varTypes P).any (P.mapsRec ·)) = true) (h14 : (c.ifaces == (fn.params.toList ++ s.plain.varTypes P).any (P.ifacesRec ·)) = true) (h15 : (c.mapsOut == P.mapsAmong fn.resultTypes.toList) = true) (h16 : (c.loops == (fn.params.toList ++ s.plain.varTypes P).any (P.loopsFrom ·)) = true) (h17 : (c.wideKeys == (fn.params.toList ++ s.plain.varTypes P ++ fn.resultTypes.toList).any (P.wideKeysFrom ·)) = true) (h18 : (s.vars.all (P.varReadable ·)) = true) (h19 : (fn.resultTypes.all (fun t => P.readableRec t && decide (t < P.types.size))) = true) (h20 : (c.ifacesOut == fn.resultTypes.toList.any (P.ifacesRec ·)) = true) (h21 : (c.loopsOut == fn.resultTypes.toList.any (P.loopsFrom ·)) = true) (h22 : (c.plainKeys == P.plainKeys) = true) (h23 : (c.shortTexts.isNone) = true) (h24 : (P.stopsHeard) = true) (h25 : (P.mayEnter) = true) (h26 : (c.lifted == P.liftsFinal) = true) (h27 : cMake P fn c = true) (h28 : cKinds P fn c = true) (h29 : (c.pinned == c.pinnedBy) = true) (h30 : (c.veiled == (fn.params.toList ++ s.plain.varTypes P ++ fn.resultTypes.toList).any (P.veiledRec ·)) = true) (h31 : (c.veiledFits P fn.params.toList (fn.params.toList ++ s.plain.varTypes P ++ fn.resultTypes.toList)) = true) : joinedFacts P f fn s c = true := by
  unfold joinedFacts
  exact (and_t (and_t (and_t (and_t (and_t (and_t (and_t (and_t (and_t (and_t (and_t (and_t (and_t (and_t (and_t (and_t (and_t (and_t (and_t (and_t (and_t (and_t (and_t (and_t (and_t (and_t (and_t (and_t (and_t (and_t (and_t h0 h1) h2) h3) h4) h5) h6) h7) h8) h9) h10) h11) h12) h13) h14) h15) h16) h17) h18) h19) h20) h21) h22) h23) h24) h25) h26) h27) h28) h29) h30) h31)
end Go.Proofs.YtbjomeonjlialaaGreat.V
namespace Go.Proofs.YtbjomeonjlialaaGreat.dumpEquals
open Go.Proofs.YtbjomeonjlialaaGreat.V
theorem c0 : Rows.dumpEqualsRow.wf (OpenSpec.ofChange Rows.dumpEqualsSpec) = true := by kernel_rfl
theorem c1 : laidOutB Tryz.checked.prog = true := cg_laidOut
theorem c2 : mapsRowed Tryz.checked.prog = true := cg_mapsRowed
theorem c3 : Tryz.f4.params.all (Tryz.checked.prog.readableRec ·) = true := by kernel_rfl
theorem c4 : namedTie Tryz.checked.prog Rows.dumpEqualsRow.named Rows.dumpEqualsSpec.vars = true := by kernel_rfl
theorem c5 : (Rows.dumpEqualsRow.stops == []) = true := by kernel_rfl
theorem c6 : (Tryz.checked.prog.stops == []) = true := cg_stops
theorem c7 : (Rows.dumpEqualsRow.knobs == []) = true := by kernel_rfl
theorem c8 : (Tryz.checked.prog.stopKnobs == []) = true := cg_stopKnobs
theorem c9 : (Rows.dumpEqualsRow.inPlace == Tryz.checked.prog.inPlace 4) = true := by kernel_rfl
theorem c10 : (Rows.dumpEqualsRow.unfollowed == Tryz.checked.prog.unfollowed 4) = true := by kernel_rfl
theorem c11 : (Rows.dumpEqualsRow.recurses == Tryz.checked.prog.recurses 4) = true := by kernel_rfl
theorem c12 : (Rows.dumpEqualsRow.named == Tryz.checked.prog.varsNamed 4) = true := by kernel_rfl
theorem c13 : (Rows.dumpEqualsRow.maps == (Tryz.f4.params.toList ++ Rows.dumpEqualsSpec.plain.varTypes Tryz.checked.prog).any (Tryz.checked.prog.mapsRec ·)) = true := by kernel_rfl
theorem c14 : (Rows.dumpEqualsRow.ifaces == (Tryz.f4.params.toList ++ Rows.dumpEqualsSpec.plain.varTypes Tryz.checked.prog).any (Tryz.checked.prog.ifacesRec ·)) = true := by kernel_rfl
theorem c15 : (Rows.dumpEqualsRow.mapsOut == Tryz.checked.prog.mapsAmong Tryz.f4.resultTypes.toList) = true := by kernel_rfl
theorem c16 : (Rows.dumpEqualsRow.loops == (Tryz.f4.params.toList ++ Rows.dumpEqualsSpec.plain.varTypes Tryz.checked.prog).any (Tryz.checked.prog.loopsFrom ·)) = true := by kernel_rfl
theorem c17 : (Rows.dumpEqualsRow.wideKeys == (Tryz.f4.params.toList ++ Rows.dumpEqualsSpec.plain.varTypes Tryz.checked.prog ++ Tryz.f4.resultTypes.toList).any (Tryz.checked.prog.wideKeysFrom ·)) = true := by kernel_rfl
theorem c18 : Rows.dumpEqualsSpec.vars.all (Tryz.checked.prog.varReadable ·) = true := by kernel_rfl
theorem c19 : Tryz.f4.resultTypes.all (fun t => Tryz.checked.prog.readableRec t && decide (t < Tryz.checked.prog.types.size)) = true := by kernel_rfl
theorem c20 : (Rows.dumpEqualsRow.ifacesOut == Tryz.f4.resultTypes.toList.any (Tryz.checked.prog.ifacesRec ·)) = true := by kernel_rfl
theorem c21 : (Rows.dumpEqualsRow.loopsOut == Tryz.f4.resultTypes.toList.any (Tryz.checked.prog.loopsFrom ·)) = true := by kernel_rfl
theorem c22 : (Rows.dumpEqualsRow.plainKeys == Tryz.checked.prog.plainKeys) = true := by kernel_rfl
theorem c23 : Rows.dumpEqualsRow.shortTexts.isNone = true := by kernel_rfl
theorem c24 : Tryz.checked.prog.stopsHeard = true := cg_stopsHeard
theorem c25 : Tryz.checked.prog.mayEnter = true := cg_mayEnter
theorem c26 : (Rows.dumpEqualsRow.lifted == Tryz.checked.prog.liftsFinal) = true := by kernel_rfl
theorem c27 : cMake Tryz.checked.prog Tryz.f4 Rows.dumpEqualsRow = true := by kernel_rfl
theorem c28 : cKinds Tryz.checked.prog Tryz.f4 Rows.dumpEqualsRow = true := by kernel_rfl
theorem c29 : (Rows.dumpEqualsRow.pinned == Rows.dumpEqualsRow.pinnedBy) = true := by kernel_rfl
theorem c30 : (Rows.dumpEqualsRow.veiled == (Tryz.f4.params.toList ++ Rows.dumpEqualsSpec.plain.varTypes Tryz.checked.prog ++ Tryz.f4.resultTypes.toList).any (Tryz.checked.prog.veiledRec ·)) = true := by kernel_rfl
theorem c31 : Rows.dumpEqualsRow.veiledFits Tryz.checked.prog Tryz.f4.params.toList (Tryz.f4.params.toList ++ Rows.dumpEqualsSpec.plain.varTypes Tryz.checked.prog ++ Tryz.f4.resultTypes.toList) = true := by kernel_rfl
theorem closed : joinedFacts Tryz.checked.prog 4 Tryz.f4 Rows.dumpEqualsSpec Rows.dumpEqualsRow = true := joinedFacts_of c0 c1 c2 c3 c4 c5 c6 c7 c8 c9 c10 c11 c12 c13 c14 c15 c16 c17 c18 c19 c20 c21 c22 c23 c24 c25 c26 c27 c28 c29 c30 c31
end Go.Proofs.YtbjomeonjlialaaGreat.dumpEquals
