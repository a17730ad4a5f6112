/-
  What a reckoned value, block and frame stand for in a world. No condition: these are relations over any program.
-/
import Derived.Test.YtbjomeonjlialaaGreatZag
set_option linter.unusedVariables false
set_option linter.unusedSimpArgs false
namespace Go.Proofs.YtbjomeonjlialaaGreat.V.S
inductive D (X : Type) where
  | i (n : Int)
  | b (x : Bool)
  | s (l : List UInt8)
  | l (l : List (D X))
  | p (a c : D X)
  | v (V : Value)
  | x (y : X)
def D.int {X : Type} : D X → Int | .i n => n | _ => 0
def D.tr {X : Type} : D X → Bool | .b z => z | _ => false
def D.str {X : Type} : D X → List UInt8 | .s z => z | _ => []
def D.lst {X : Type} : D X → List (D X) | .l z => z | _ => []
def D.fst {X : Type} : D X → D X | .p a _ => a | _ => .i 0
def D.snd {X : Type} : D X → D X | .p _ c => c | _ => .i 0
def D.val {X : Type} : D X → Value | .v V => V | _ => .bool false
theorem D.int_i {X : Type} (n : Int) : (D.i n : D X).int = n := rfl
theorem D.tr_b {X : Type} (x : Bool) : (D.b x : D X).tr = x := rfl
theorem D.str_s {X : Type} (l : List UInt8) : (D.s l : D X).str = l := rfl
theorem D.fst_p {X : Type} (a c : D X) : (D.p a c : D X).fst = a := rfl
theorem D.snd_p {X : Type} (a c : D X) : (D.p a c : D X).snd = c := rfl
class Spec (X : Type) where
  fn : Nat → D X → D X → D X
def arI (o : BinOp) (k : IntKind) (a b : Int) : Int := match o with
  | .add => a + b
  | .sub => a - b
  | .mul => a * b
  | .quo => a.tdiv b
  | .rem => a.tmod b
  | .and => ((a.toNat &&& b.toNat : Nat) : Int)
  | .or => ((a.toNat ||| b.toNat : Nat) : Int)
  | .xor => ((a.toNat ^^^ b.toNat : Nat) : Int)
  | .shl => a * 2 ^ min b.toNat k.bits
  | .shr => a / 2 ^ min b.toNat k.bits
  | _ => 0
def scB (o : BinOp) (a b : List UInt8) : Bool := match o with
  | .eql => decide (a = b)
  | .neq => !decide (a = b)
  | .lss => Op.bytesLess a b
  | .leq => Op.bytesLess a b || decide (a = b)
  | .gtr => !(Op.bytesLess a b || decide (a = b))
  | .geq => !Op.bytesLess a b
  | _ => false
def SOp.run {X : Type} [Spec X] (o : SOp) (a b : (D X)) : (D X) := match o with
  | .ar o k => .i (k.wrap (arI o k a.int b.int))
  | .cm o => .b ((cmpI o a.int b.int).getD false)
  | .cv k => .i (k.wrap a.int)
  | .rg k => .b (inKB k a.int)
  | .nt => .b (!a.tr)
  | .an => .b (a.tr && b.tr)
  | .sc o => .b (scB o a.str b.str)
  | .ca => .s (a.str ++ b.str)
  | .ln => .i a.str.length
  | .by => .i ((a.str[b.int.toNat]?).getD 0).toNat
  | .sb => .s ((a.str.drop b.fst.int.toNat).take (b.snd.int.toNat - b.fst.int.toNat))
  | .bq => .b (a.tr == b.tr)
  | .mn => .i (if b.int < a.int then b.int else a.int)
  | .mx => .i (if b.int > a.int then b.int else a.int)
  | .pr => .p a b
  | .p1 => a.fst
  | .p2 => a.snd
  | .len => .i a.lst.length
  | .nth => (a.lst[b.int.toNat]?).getD (.i 0)
  | .fl i => (a.lst[i]?).getD (.i 0)
  | .it => match a.tr with | true => b.fst | false => b.snd
  | .fn f => Spec.fn f a b
structure Rho (X : Type) where
  blk : Nat → Option (Nat × Nat)
  fz : Nat → Option Obj
  at' : Nat → Option (D X)
instance {X : Type} : CoeFun (Rho X) fun _ => Nat → Option (Nat × Nat) := ⟨Rho.blk⟩
def Rho.none {X : Type} : Rho X := ⟨fun _ => .none, fun _ => .none, fun _ => .none⟩
structure Rho.le {X : Type} (r r' : Rho X) : Prop where
  b : ∀ b x, r b = some x → r' b = some x
  f : ∀ k o, r.fz k = some o → r'.fz k = some o
  a : ∀ i d, r.at' i = some d → r'.at' i = some d
theorem Rho.le.refl {X : Type} (r : Rho X) : Rho.le r r := ⟨fun _ _ h => h, fun _ _ h => h, fun _ _ h => h⟩
theorem Rho.le.trans {X : Type} {a b c : Rho X} (h : Rho.le a b) (k : Rho.le b c) : Rho.le a c := ⟨fun i x hx => k.b i x (h.b i x hx), fun i x hx => k.f i x (h.f i x hx), fun i x hx => k.a i x (h.a i x hx)⟩
def Rho.set {X : Type} (r : Rho X) (b : Nat) (x : Nat × Nat) : Rho X := ⟨fun i => if i = b then some x else r i, r.fz, r.at'⟩
theorem Rho.le.set {X : Type} {r : Rho X} {b : Nat} (h : r b = .none) (x : Nat × Nat) : Rho.le r (r.set b x) := ⟨fun i y hy => by
  show (if i = b then some x else r i) = some y
  split
  · subst_vars; rw [h] at hy; cases hy
  · exact hy, fun _ _ h => h, fun _ _ h => h⟩
theorem Rho.set_same {X : Type} (r : Rho X) (b : Nat) (x : Nat × Nat) : r.set b x b = some x := by simp [Rho.set]
theorem Rho.set_ne {X : Type} {r : Rho X} {b c : Nat} {x : Nat × Nat} (h : ¬ c = b) : r.set b x c = r c := by simp [Rho.set, h]
abbrev Val (X : Type) := Nat → Option (D X)
def den {X : Type} [Spec X] (a : Val X) : SE → Option (D X)
  | .at i => a i
  | .li n => some (.i n)
  | .lb b => some (.b b)
  | .ls l => some (.s (l.map UInt8.ofNat))
  | .op o s t => match den a s, den a t with
    | some x, some y => some (o.run x y)
    | _, _ => .none
  | .nl => some (.p (.v (.slice .none 0 0)) (.l []))
  | .nb => some (.p (.v (.slice .none 0 0)) (.s []))
theorem den_mono {X : Type} [Spec X] {a a' : Val X} (h : ∀ i d, a i = some d → a' i = some d) : ∀ {e : SE} {d : D X}, den a e = some d → den a' e = some d
  | .at i, d, k => h i d k
  | .li _, _, k => k
  | .lb _, _, k => k
  | .ls _, _, k => k
  | .nl, _, k => k
  | .nb, _, k => k
  | .op o s t, d, k => by
    simp only [den] at k ⊢
    cases h1 : den a s with
    | none => rw [h1] at k; cases k
    | some x =>
      cases h2 : den a t with
      | none => rw [h1, h2] at k; cases k
      | some y => rw [h1, h2] at k; rw [den_mono h h1, den_mono h h2]; exact k
theorem den_op {X : Type} [Spec X] {a : Val X} {o : SOp} {s t : SE} {x y : D X} (h : den a s = some x) (k : den a t = some y) : den a (.op o s t) = some (o.run x y) := by simp only [den, h, k]
theorem den_u1 {X : Type} [Spec X] {a : Val X} {o : SOp} {s : SE} {x : D X} (h : den a s = some x) : den a (.u1 o s) = some (o.run x (.i 0)) := den_op h rfl
theorem den_op_inv {X : Type} [Spec X] {a : Val X} {o : SOp} {s t : SE} {d : D X} (h : den a (.op o s t) = some d) : ∃ x y, den a s = some x ∧ den a t = some y ∧ d = o.run x y := by
  simp only [den] at h
  split at h
  · rename_i x y h1 h2; cases h; exact ⟨x, y, h1, h2, rfl⟩
  · cases h
def FzAt {X : Type} (r : Rho X) (a : Option Addr) (cells : List Value) : Prop :=
  cells = [] ∨ ∃ B o cs t fr, a = some ⟨B, o, .none⟩ ∧ r.fz B = some (.cells cs t fr) ∧ ∀ (i : Nat) v, cells[i]? = some v → cs[o + i]? = some v
theorem FzAt.mono {X : Type} {r r' : Rho X} (h : r.le r') {a : Option Addr} {cells : List Value} (k : FzAt r a cells) : FzAt r' a cells := by
  rcases k with k | ⟨B, o, cs, t, fr, h1, h2, h3⟩
  · exact .inl k
  · exact .inr ⟨B, o, cs, t, fr, h1, h.f _ _ h2, h3⟩
def rowD {X : Type} (fs : List SK) (d : D X) : List (D X) := match singleB fs with | true => [d] | false => d.lst
mutual
def RelK {X : Type} (r : Rho X) : SK → (D X) → Value → Prop
  | .i k, d, V => V = .int k d.int
  | .b, d, V => V = .bool d.tr
  | .s, d, V => V = str d.str
  | .w, d, V => V = d.fst.val ∧ ∃ a c, V = .slice a d.snd.str.length c ∧ FzAt r a (bytesV d.snd.str) ∧ d.snd.str.length ≤ maxLen
  | .v fs, d, V => V = d.fst.val ∧ ∃ a c, V = .slice a d.snd.lst.length c ∧ ∃ rows : List (List Value), rows.length = d.snd.lst.length ∧ (∀ (j : Nat) x L, d.snd.lst[j]? = some x → rows[j]? = some L → RelKs r fs (rowD fs x) L) ∧ FzAt r a rows.flatten ∧ d.snd.lst.length ≤ maxLen
def RelKs {X : Type} (r : Rho X) : List SK → List (D X) → List Value → Prop
  | [], _, L => L = []
  | k :: fs, ds, L => ∃ A M, L = A :: M ∧ RelK r k (ds.headD (.i 0)) A ∧ RelKs r fs ds.tail M
end
mutual
theorem RelK.mono {X : Type} {r r' : Rho X} (h : r.le r') : ∀ (k : SK) {d : (D X)} {V : Value}, RelK r k d V → RelK r' k d V
  | .i _, _, _, k | .b, _, _, k | .s, _, _, k => by unfold RelK at k ⊢; exact k
  | .w, d, V, k => by
    unfold RelK at k ⊢
    obtain ⟨h1, a, c, h2, h3⟩ := k
    exact ⟨h1, a, c, h2, h3.1.mono h, h3.2⟩
  | .v fs, d, V, k => by
    unfold RelK at k ⊢
    obtain ⟨h1, a, c, h2, rows, h3, h4, h5⟩ := k
    exact ⟨h1, a, c, h2, rows, h3, fun j x L hx hL => RelKs.mono h fs (h4 j x L hx hL), h5.1.mono h, h5.2⟩
theorem RelKs.mono {X : Type} {r r' : Rho X} (h : r.le r') : ∀ (fs : List SK) {ds : List (D X)} {L : List Value}, RelKs r fs ds L → RelKs r' fs ds L
  | [], _, _, k => by unfold RelKs at k ⊢; exact k
  | f :: fs, ds, L, k => by
    unfold RelKs at k ⊢
    obtain ⟨A, M, h1, h2, h3⟩ := k
    exact ⟨A, M, h1, RelK.mono h f h2, RelKs.mono h fs h3⟩
end
theorem FzAt.fzq {X : Type} {r r' : Rho X} (h : ∀ k o, r.fz k = some o → r'.fz k = some o) {a : Option Addr} {cells : List Value} (k : FzAt r a cells) : FzAt r' a cells := by
  rcases k with k | ⟨B, o, cs, t, fr, h1, h2, h3⟩
  · exact .inl k
  · exact .inr ⟨B, o, cs, t, fr, h1, h _ _ h2, h3⟩
mutual
theorem RelK.fzq {X : Type} {r r' : Rho X} (h : ∀ k o, r.fz k = some o → r'.fz k = some o) : ∀ (k : SK) {d : (D X)} {V : Value}, RelK r k d V → RelK r' k d V
  | .i _, _, _, k | .b, _, _, k | .s, _, _, k => by unfold RelK at k ⊢; exact k
  | .w, d, V, k => by
    unfold RelK at k ⊢
    obtain ⟨h1, a, c, h2, h3⟩ := k
    exact ⟨h1, a, c, h2, h3.1.fzq h, h3.2⟩
  | .v fs, d, V, k => by
    unfold RelK at k ⊢
    obtain ⟨h1, a, c, h2, rows, h3, h4, h5⟩ := k
    exact ⟨h1, a, c, h2, rows, h3, fun j x L hx hL => RelKs.fzq h fs (h4 j x L hx hL), h5.1.fzq h, h5.2⟩
theorem RelKs.fzq {X : Type} {r r' : Rho X} (h : ∀ k o, r.fz k = some o → r'.fz k = some o) : ∀ (fs : List SK) {ds : List (D X)} {L : List Value}, RelKs r fs ds L → RelKs r' fs ds L
  | [], _, _, k => by unfold RelKs at k ⊢; exact k
  | f :: fs, ds, L, k => by
    unfold RelKs at k ⊢
    obtain ⟨A, M, h1, h2, h3⟩ := k
    exact ⟨A, M, h1, RelK.fzq h f h2, RelKs.fzq h fs h3⟩
end
theorem RelK.w_inv {X : Type} {r : Rho X} {d : (D X)} {V : Value} (h : RelK r .w d V) : V = d.fst.val ∧ ∃ a c, V = .slice a d.snd.str.length c ∧ FzAt r a (bytesV d.snd.str) ∧ d.snd.str.length ≤ maxLen := by unfold RelK at h; exact h
theorem RelK.v_inv {X : Type} {r : Rho X} {fs : List SK} {d : (D X)} {V : Value} (h : RelK r (.v fs) d V) : V = d.fst.val ∧ ∃ a c, V = .slice a d.snd.lst.length c ∧ ∃ rows : List (List Value), rows.length = d.snd.lst.length ∧ (∀ (j : Nat) x L, d.snd.lst[j]? = some x → rows[j]? = some L → RelKs r fs (rowD fs x) L) ∧ FzAt r a rows.flatten ∧ d.snd.lst.length ≤ maxLen := by unfold RelK at h; exact h
theorem RelKs.length {X : Type} {r : Rho X} : ∀ {fs : List SK} {ds : List (D X)} {L : List Value}, RelKs r fs ds L → L.length = fs.length
  | [], _, _, h => by unfold RelKs at h; rw [h]; rfl
  | f :: fs, ds, L, h => by
    unfold RelKs at h
    obtain ⟨A, M, rfl, _, h3⟩ := h
    simp [h3.length]
class Sig where
  val : Nat → Value
  one : ∀ i, (val i).oneCell' = true
  /-- What is known of a loop's code. -/
  ok : Nat → Code → Prop
  /-- The world at the run's beginning: below a bound it stays as it is. -/
  base : World
theorem cells_one {V : Value} (h : V.oneCell' = true) : V.cells.toList = [V] := by
  cases V <;> first | rfl | cases h
mutual
def Rel {X : Type} [Spec X] [Sig] (r : Rho X) : AV → Value → Prop
  | .b x, V => V = .bool x
  | .i k n, V => V = .int k n
  | .s l, V => V = str (l.map UInt8.ofNat) ∧ ∀ x ∈ l, x < 256
  | .p0, V => V = .pointer none
  | .p b o, V => ∃ B K, r b = some (B, K) ∧ V = .pointer (some ⟨B, o, none⟩)
  | .sl0, V => V = .slice none 0 0
  | .se, V => ∃ a c, V = .slice (some a) 0 c
  | .ez b o d e c, V => ∃ B K, r b = some (B, K) ∧ V = .slice (some ⟨B, if c.getD (K - e) = 0 then o else o + d, none⟩) 0 (c.getD (K - e))
  | .sl b o e n c, V => ∃ B K, r b = some (B, K) ∧ V = .slice (some ⟨B, o, none⟩) n (c.getD (K - e)) ∧ n ≤ c.getD (K - e)
  | .f f cs, V => ∃ Cs, V = .func (.func f) #[] Cs.toArray ∧ RelL r cs Cs
  | .fb f fs cs, V => ∃ Fs Cs, V = .func (.func f) Fs.toArray Cs.toArray ∧ RelL r fs Fs ∧ RelL r cs Cs
  | .nf, V => V = .nilFunc
  | .g l, V => ∃ L, V = .agg L.toArray ∧ RelL r l L
  | .t l, V => ∃ L, V = .tuple L.toArray ∧ RelL r l L
  | .m0, V => V = .map none
  | .m b, V => ∃ B K, r b = some (B, K) ∧ V = .map (some B)
  | .n0, V => V = .nilIface
  | .y l, V => ∃ B K, r l = some (B, K) ∧ V = .func (.yield B) #[] #[]
  | .o i, V => V = Sig.val i
  | .xi k e, V => ∃ d, den r.at' e = some d ∧ V = .int k d.int
  | .xb e, V => ∃ d, den r.at' e = some d ∧ V = .bool d.tr
  | .xs e, V => ∃ d, den r.at' e = some d ∧ V = str d.str
  | .xv fs e, V => ∃ d, den r.at' e = some d ∧ RelK r (.v fs) d V
  | .xw e, V => ∃ d, den r.at' e = some d ∧ RelK r .w d V
  | .xq fs e j o, V => ∃ d dj B q c, den r.at' e = some d ∧ den r.at' j = some dj ∧ 0 ≤ dj.int ∧ dj.int.toNat < d.snd.lst.length ∧ RelK r (.v fs) d (.slice (some ⟨B, q, none⟩) d.snd.lst.length c) ∧ V = .pointer (some ⟨B, q + dj.int.toNat * fs.length + o, none⟩)
  | .it ty v, V => ∃ U, V = .iface ty U ∧ Rel r v U
def RelL {X : Type} [Spec X] [Sig] (r : Rho X) : List AV → List Value → Prop
  | [], L => L = []
  | a :: l, L => ∃ A M, L = A :: M ∧ Rel r a A ∧ RelL r l M
end
mutual
theorem Rel.mono {X : Type} [Spec X] [Sig] {r r' : Rho X} (h : r.le r') : ∀ (a : AV) {A : Value}, Rel r a A → Rel r' a A
  | .b _, _, k | .i _ _, _, k | .s _, _, k | .p0, _, k | .sl0, _, k | .se, _, k | .nf, _, k | .m0, _, k | .n0, _, k | .o _, _, k => k
  | .xi _ _, A, k => by
    unfold Rel at k ⊢
    obtain ⟨d, h1, h2⟩ := k
    exact ⟨d, den_mono h.a h1, h2⟩
  | .xb _, A, k => by
    unfold Rel at k ⊢
    obtain ⟨d, h1, h2⟩ := k
    exact ⟨d, den_mono h.a h1, h2⟩
  | .xs _, A, k => by
    unfold Rel at k ⊢
    obtain ⟨d, h1, h2⟩ := k
    exact ⟨d, den_mono h.a h1, h2⟩
  | .xv _ _, A, k => by
    unfold Rel at k ⊢
    obtain ⟨d, h1, h2⟩ := k
    exact ⟨d, den_mono h.a h1, h2.mono h⟩
  | .xw _, A, k => by
    unfold Rel at k ⊢
    obtain ⟨d, h1, h2⟩ := k
    exact ⟨d, den_mono h.a h1, h2.mono h⟩
  | .xq _ _ _ _, A, k => by
    unfold Rel at k ⊢
    obtain ⟨d, dj, B, q, c, h1, h2, h3, h4, h5, h6⟩ := k
    exact ⟨d, dj, B, q, c, den_mono h.a h1, den_mono h.a h2, h3, h4, h5.mono h, h6⟩
  | .p b o, A, k => by
    unfold Rel at k ⊢
    obtain ⟨B, K, h1, h2⟩ := k
    exact ⟨B, K, h.b _ _ h1, h2⟩
  | .sl b o e n c, A, k => by
    unfold Rel at k ⊢
    obtain ⟨B, K, h1, h2⟩ := k
    exact ⟨B, K, h.b _ _ h1, h2⟩
  | .ez b o d e c, A, k => by
    unfold Rel at k ⊢
    obtain ⟨B, K, h1, h2⟩ := k
    exact ⟨B, K, h.b _ _ h1, h2⟩
  | .m b, A, k => by
    unfold Rel at k ⊢
    obtain ⟨B, K, h1, h2⟩ := k
    exact ⟨B, K, h.b _ _ h1, h2⟩
  | .y b, A, k => by
    unfold Rel at k ⊢
    obtain ⟨B, K, h1, h2⟩ := k
    exact ⟨B, K, h.b _ _ h1, h2⟩
  | .f f cs, A, k => by
    unfold Rel at k ⊢
    obtain ⟨Cs, h1, h2⟩ := k
    exact ⟨Cs, h1, RelL.mono h cs h2⟩
  | .fb f fs cs, A, k => by
    unfold Rel at k ⊢
    obtain ⟨Fs, Cs, h1, h2, h3⟩ := k
    exact ⟨Fs, Cs, h1, RelL.mono h fs h2, RelL.mono h cs h3⟩
  | .g l, A, k => by
    unfold Rel at k ⊢
    obtain ⟨L, h1, h2⟩ := k
    exact ⟨L, h1, RelL.mono h l h2⟩
  | .t l, A, k => by
    unfold Rel at k ⊢
    obtain ⟨L, h1, h2⟩ := k
    exact ⟨L, h1, RelL.mono h l h2⟩
  | .it ty v, A, k => by
    unfold Rel at k ⊢
    obtain ⟨U, h1, h2⟩ := k
    exact ⟨U, h1, Rel.mono h v h2⟩
theorem RelL.mono {X : Type} [Spec X] [Sig] {r r' : Rho X} (h : r.le r') : ∀ (l : List AV) {L : List Value}, RelL r l L → RelL r' l L
  | [], _, k => k
  | a :: l, L, k => by
    unfold RelL at k ⊢
    obtain ⟨A, M, h1, h2, h3⟩ := k
    exact ⟨A, M, h1, Rel.mono h a h2, RelL.mono h l h3⟩
end
mutual
theorem Rel.det {X : Type} [Spec X] [Sig] {r : Rho X} : ∀ (a : AV) {A B : Value}, a.fix = true → Rel r a A → Rel r a B → A = B
  | .b _, _, _, _, h, k | .i _ _, _, _, _, h, k | .p0, _, _, _, h, k | .sl0, _, _, _, h, k | .nf, _, _, _, h, k | .m0, _, _, _, h, k | .n0, _, _, _, h, k | .o _, _, _, _, h, k => by unfold Rel at h k; rw [h, k]
  | .se, _, _, hf, _, _ => by simp [AV.fix] at hf
  | .fb _ _ _, _, _, hf, _, _ => by simp [AV.fix] at hf
  | .s _, _, _, _, h, k => by unfold Rel at h k; rw [h.1, k.1]
  | .xi _ _, _, _, _, h, k | .xb _, _, _, _, h, k | .xs _, _, _, _, h, k => by
    unfold Rel at h k
    obtain ⟨d, h1, h2⟩ := h
    obtain ⟨d', k1, k2⟩ := k
    rw [h1] at k1
    cases k1
    rw [h2, k2]
  | .xv _ _, _, _, _, h, k => by
    unfold Rel at h k
    obtain ⟨d, h1, h2⟩ := h
    obtain ⟨d', k1, k2⟩ := k
    rw [h1] at k1
    cases k1
    rw [h2.v_inv.1, k2.v_inv.1]
  | .xw _, _, _, _, h, k => by
    unfold Rel at h k
    obtain ⟨d, h1, h2⟩ := h
    obtain ⟨d', k1, k2⟩ := k
    rw [h1] at k1
    cases k1
    rw [h2.w_inv.1, k2.w_inv.1]
  | .xq _ _ _ _, _, _, _, h, k => by
    unfold Rel at h k
    obtain ⟨d, dj, B, q, c, h1, h2, _, _, h5, h6⟩ := h
    obtain ⟨d', dj', B', q', c', k1, k2, _, _, k5, k6⟩ := k
    rw [h1] at k1
    rw [h2] at k2
    cases k1
    cases k2
    have e := h5.v_inv.1.trans k5.v_inv.1.symm
    simp only [Value.slice.injEq, Option.some.injEq, Addr.mk.injEq] at e
    obtain ⟨⟨rfl, rfl, _⟩, _⟩ := e
    rw [h6, k6]
  | .p b o, _, _, _, h, k => by
    unfold Rel at h k
    obtain ⟨B, K, h1, h2⟩ := h
    obtain ⟨B', K', k1, k2⟩ := k
    rw [h1] at k1
    cases k1
    rw [h2, k2]
  | .ez b o d e c, _, _, _, h, k => by
    unfold Rel at h k
    obtain ⟨B, K, h1, h2⟩ := h
    obtain ⟨B', K', k1, k2⟩ := k
    rw [h1] at k1
    cases k1
    rw [h2, k2]
  | .sl b o e n c, _, _, _, h, k => by
    unfold Rel at h k
    obtain ⟨B, K, h1, h2, _⟩ := h
    obtain ⟨B', K', k1, k2, _⟩ := k
    rw [h1] at k1
    cases k1
    rw [h2, k2]
  | .m b, _, _, _, h, k => by
    unfold Rel at h k
    obtain ⟨B, K, h1, h2⟩ := h
    obtain ⟨B', K', k1, k2⟩ := k
    rw [h1] at k1
    cases k1
    rw [h2, k2]
  | .y b, _, _, _, h, k => by
    unfold Rel at h k
    obtain ⟨B, K, h1, h2⟩ := h
    obtain ⟨B', K', k1, k2⟩ := k
    rw [h1] at k1
    cases k1
    rw [h2, k2]
  | .f f cs, _, _, hf, h, k => by
    have hf' : AV.fixs cs = true := by simpa [AV.fix] using hf
    unfold Rel at h k
    obtain ⟨L, h1, h2⟩ := h
    obtain ⟨L', k1, k2⟩ := k
    rw [h1, k1, RelL.det cs hf' h2 k2]
  | .g l, _, _, hf, h, k => by
    have hf' : AV.fixs l = true := by simpa [AV.fix] using hf
    unfold Rel at h k
    obtain ⟨L, h1, h2⟩ := h
    obtain ⟨L', k1, k2⟩ := k
    rw [h1, k1, RelL.det l hf' h2 k2]
  | .t l, _, _, hf, h, k => by
    have hf' : AV.fixs l = true := by simpa [AV.fix] using hf
    unfold Rel at h k
    obtain ⟨L, h1, h2⟩ := h
    obtain ⟨L', k1, k2⟩ := k
    rw [h1, k1, RelL.det l hf' h2 k2]
  | .it ty v, _, _, hf, h, k => by
    have hf' : v.fix = true := by simpa [AV.fix] using hf
    unfold Rel at h k
    obtain ⟨L, h1, h2⟩ := h
    obtain ⟨L', k1, k2⟩ := k
    rw [h1, k1, Rel.det v hf' h2 k2]
theorem RelL.det {X : Type} [Spec X] [Sig] {r : Rho X} : ∀ (l : List AV) {A B : List Value}, AV.fixs l = true → RelL r l A → RelL r l B → A = B
  | [], _, _, _, h, k => by unfold RelL at h k; rw [h, k]
  | a :: l, _, _, hf, h, k => by
    have hf' : a.fix = true ∧ AV.fixs l = true := by simpa [AV.fixs] using hf
    unfold RelL at h k
    obtain ⟨A, M, h1, h2, h3⟩ := h
    obtain ⟨A', M', k1, k2, k3⟩ := k
    rw [h1, k1, Rel.det a hf'.1 h2 k2, RelL.det l hf'.2 h3 k3]
end
theorem RelL.nil {X : Type} [Spec X] [Sig] (r : Rho X) : RelL r [] [] := by unfold RelL; rfl
theorem RelL.cons {X : Type} [Spec X] [Sig] {r : Rho X} {a : AV} {A : Value} {l : List AV} {L : List Value} (h : Rel r a A) (k : RelL r l L) : RelL r (a :: l) (A :: L) := by unfold RelL; exact ⟨A, L, rfl, h, k⟩
theorem RelL.of_nil {X : Type} [Spec X] [Sig] {r : Rho X} {L : List Value} (h : RelL r [] L) : L = [] := by unfold RelL at h; exact h
theorem RelL.of_cons {X : Type} [Spec X] [Sig] {r : Rho X} {a : AV} {l : List AV} {L : List Value} (h : RelL r (a :: l) L) : ∃ A M, L = A :: M ∧ Rel r a A ∧ RelL r l M := by unfold RelL at h; exact h
theorem RelL.length {X : Type} [Spec X] [Sig] {r : Rho X} : ∀ {l : List AV} {L : List Value}, RelL r l L → l.length = L.length
  | [], _, h => by rw [h.of_nil]; rfl
  | a :: l, _, h => by
    obtain ⟨A, M, rfl, _, h3⟩ := h.of_cons
    simp [h3.length]
theorem RelL.app {X : Type} [Spec X] [Sig] {r : Rho X} : ∀ {l : List AV} {L : List Value} {m : List AV} {M : List Value}, RelL r l L → RelL r m M → RelL r (l ++ m) (L ++ M)
  | [], _, _, _, h, k => by rw [h.of_nil]; simpa using k
  | a :: l, _, _, _, h, k => by
    obtain ⟨A, N, rfl, h2, h3⟩ := h.of_cons
    exact RelL.cons h2 (h3.app k)
theorem RelL.take {X : Type} [Spec X] [Sig] {r : Rho X} : ∀ (n : Nat) {l : List AV} {L : List Value}, RelL r l L → RelL r (l.take n) (L.take n)
  | 0, _, _, _ => by simpa using RelL.nil r
  | n + 1, [], _, h => by rw [h.of_nil]; simpa using RelL.nil r
  | n + 1, a :: l, _, h => by
    obtain ⟨A, M, rfl, h2, h3⟩ := h.of_cons
    exact RelL.cons h2 (h3.take n)
theorem RelL.drop {X : Type} [Spec X] [Sig] {r : Rho X} : ∀ (n : Nat) {l : List AV} {L : List Value}, RelL r l L → RelL r (l.drop n) (L.drop n)
  | 0, _, _, h => by simpa using h
  | n + 1, [], _, h => by rw [h.of_nil]; simpa using RelL.nil r
  | n + 1, a :: l, _, h => by
    obtain ⟨A, M, rfl, h2, h3⟩ := h.of_cons
    exact h3.drop n
theorem RelL.get {X : Type} [Spec X] [Sig] {r : Rho X} : ∀ (k : Nat) {l : List AV} {L : List Value} {a : AV}, RelL r l L → l[k]? = some a → ∃ A, L[k]? = some A ∧ Rel r a A
  | _, [], _, _, _, hk => by simp at hk
  | 0, b :: l, _, a, h, hk => by
    obtain ⟨A, M, rfl, h2, h3⟩ := h.of_cons
    simp at hk
    subst hk
    exact ⟨A, rfl, h2⟩
  | k + 1, b :: l, _, a, h, hk => by
    obtain ⟨A, M, rfl, h2, h3⟩ := h.of_cons
    exact h3.get k (by simpa using hk)
theorem RelL.rep {X : Type} [Spec X] [Sig] {r : Rho X} {l : List AV} {L : List Value} (h : RelL r l L) : ∀ n, RelL r (rep l n) (List.replicate n L).flatten
  | 0 => RelL.nil r
  | n + 1 => by rw [List.replicate_succ, List.flatten_cons]; exact h.app (RelL.rep h n)
theorem Rel.cells {X : Type} [Spec X] [Sig] {r : Rho X} {a : AV} {A : Value} (h : Rel r a A) : RelL r a.cells A.cells.toList := by
  cases a
  case g l =>
    unfold Rel at h
    obtain ⟨L, rfl, h2⟩ := h
    simpa [AV.cells, Value.cells] using h2
  case o i =>
    have h' := h
    unfold Rel at h'
    rw [cells_one (by rw [h']; exact Sig.one i)]
    exact RelL.cons h (RelL.nil r)
  all_goals
    have h' := h
    unfold Rel at h'
    first
    | (obtain ⟨d, _, hd⟩ := h'; subst hd; exact RelL.cons h (RelL.nil r))
    | (obtain ⟨d, _, hd⟩ := h'; obtain ⟨a, c, hd, _⟩ := hd.v_inv.2; subst hd; exact RelL.cons h (RelL.nil r))
    | (obtain ⟨d, _, hd⟩ := h'; obtain ⟨a, c, hd, _⟩ := hd.w_inv.2; subst hd; exact RelL.cons h (RelL.nil r))
    | (obtain ⟨_, _, _, _, _, _, _, _, _, _, hd⟩ := h'; subst hd; exact RelL.cons h (RelL.nil r))
    | (subst h'; exact RelL.cons h (RelL.nil r))
    | (obtain ⟨rfl, _⟩ := h'; exact RelL.cons h (RelL.nil r))
    | (obtain ⟨_, rfl, _⟩ := h'; exact RelL.cons h (RelL.nil r))
    | (obtain ⟨_, _, rfl⟩ := h'; exact RelL.cons h (RelL.nil r))
    | (obtain ⟨_, _, rfl, _⟩ := h'; exact RelL.cons h (RelL.nil r))
    | (obtain ⟨_, _, _, rfl⟩ := h'; exact RelL.cons h (RelL.nil r))
    | (obtain ⟨_, _, _, rfl, _⟩ := h'; exact RelL.cons h (RelL.nil r))
theorem Tr.get_set {α : Type} : ∀ (f : Nat) (t : Tr α) (k : Nat) (a : α) (j : Nat), k < f → (Tr.set f t k a).get j = if j = k then some a else t.get j
  | 0, _, _, _, _, h => absurd h (Nat.not_lt_zero _)
  | f + 1, .e, 0, a, j, _ => by
    cases j with
    | zero => simp [Tr.set, Tr.get]
    | succ j => simp only [Tr.set, Tr.get]; cases Nat.beq (j % 2) 0 <;> simp
  | f + 1, .n v l r, 0, a, j, _ => by
    cases j with
    | zero => simp [Tr.set, Tr.get]
    | succ j => simp only [Tr.set, Tr.get]; cases Nat.beq (j % 2) 0 <;> simp
  | f + 1, .e, k + 1, a, j, h => by
    have ih := fun (t : Tr α) (j : Nat) => Tr.get_set f t (k / 2) a j (by omega)
    simp only [Tr.set]
    cases hk : Nat.beq (k % 2) 0 with
    | true =>
      have hk' := Nat.eq_of_beq_eq_true hk
      cases j with
      | zero => simp [Tr.get]
      | succ j =>
        simp only [Tr.get]
        cases hj : Nat.beq (j % 2) 0 with
        | true =>
          have hj' := Nat.eq_of_beq_eq_true hj
          simp only [ih, Tr.get]
          by_cases hjk : j / 2 = k / 2
          · rw [if_pos hjk, if_pos (by omega)]
          · rw [if_neg hjk, if_neg (by omega)]
        | false =>
          have hj' := Nat.ne_of_beq_eq_false hj
          rw [if_neg (by omega)]
    | false =>
      have hk' := Nat.ne_of_beq_eq_false hk
      cases j with
      | zero => simp [Tr.get]
      | succ j =>
        simp only [Tr.get]
        cases hj : Nat.beq (j % 2) 0 with
        | true =>
          have hj' := Nat.eq_of_beq_eq_true hj
          rw [if_neg (by omega)]
        | false =>
          have hj' := Nat.ne_of_beq_eq_false hj
          simp only [ih, Tr.get]
          by_cases hjk : j / 2 = k / 2
          · rw [if_pos hjk, if_pos (by omega)]
          · rw [if_neg hjk, if_neg (by omega)]
  | f + 1, .n v l r, k + 1, a, j, h => by
    have ih := fun (t : Tr α) (j : Nat) => Tr.get_set f t (k / 2) a j (by omega)
    simp only [Tr.set]
    cases hk : Nat.beq (k % 2) 0 with
    | true =>
      have hk' := Nat.eq_of_beq_eq_true hk
      cases j with
      | zero => simp [Tr.get]
      | succ j =>
        simp only [Tr.get]
        cases hj : Nat.beq (j % 2) 0 with
        | true =>
          have hj' := Nat.eq_of_beq_eq_true hj
          simp only [ih]
          by_cases hjk : j / 2 = k / 2
          · rw [if_pos hjk, if_pos (by omega)]
          · rw [if_neg hjk, if_neg (by omega)]
        | false =>
          have hj' := Nat.ne_of_beq_eq_false hj
          rw [if_neg (by omega)]
    | false =>
      have hk' := Nat.ne_of_beq_eq_false hk
      cases j with
      | zero => simp [Tr.get]
      | succ j =>
        simp only [Tr.get]
        cases hj : Nat.beq (j % 2) 0 with
        | true =>
          have hj' := Nat.eq_of_beq_eq_true hj
          rw [if_neg (by omega)]
        | false =>
          have hj' := Nat.ne_of_beq_eq_false hj
          simp only [ih]
          by_cases hjk : j / 2 = k / 2
          · rw [if_pos hjk, if_pos (by omega)]
          · rw [if_neg hjk, if_neg (by omega)]
theorem Tr.get_put {α : Type} (t : Tr α) (k : Nat) (a : α) (j : Nat) : (t.put k a).get j = if j = k then some a else t.get j := Tr.get_set _ _ _ _ _ (Nat.lt_succ_self _)
def EnvR {X : Type} [Spec X] [Sig] (r : Rho X) (e : Env) (T : Tr AV) : Prop := ∀ t a, T.get t = some a → ∃ A, look t e = some A ∧ Rel r a A
theorem EnvR.mono {X : Type} [Spec X] [Sig] {r r' : Rho X} {e : Env} {T : Tr AV} (h : EnvR r e T) (k : r.le r') : EnvR r' e T := fun t a ht => let ⟨A, h1, h2⟩ := h t a ht; ⟨A, h1, h2.mono k⟩
theorem EnvR.put {X : Type} [Spec X] [Sig] {r : Rho X} {e : Env} {T : Tr AV} (h : EnvR r e T) {d : Nat} {a : AV} {A : Value} (ha : Rel r a A) : EnvR r ((d, A) :: e) (T.put d a) := fun t b ht => by
  rw [Tr.get_put] at ht
  simp only [look]
  by_cases htd : t = d
  · subst htd
    rw [if_pos rfl] at ht
    cases ht
    rw [show Nat.beq t t = true from Nat.beq_refl t]
    exact ⟨A, rfl, ha⟩
  · rw [if_neg htd] at ht
    have : Nat.beq d t = false := by
      cases hb : Nat.beq d t with
      | true => exact absurd (Nat.eq_of_beq_eq_true hb).symm htd
      | false => rfl
    rw [this]
    exact h t b ht
def RelE {X : Type} [Spec X] [Sig] (r : Rho X) : List ME → List MapEntry → Prop
  | [], E => E = []
  | e :: l, E => ∃ k v M, E = ⟨k, v, e.born⟩ :: M ∧ Rel r e.k k ∧ Rel r e.v v ∧ RelE r l M
theorem RelE.mono {X : Type} [Spec X] [Sig] {r r' : Rho X} (h : r.le r') : ∀ {l : List ME} {E : List MapEntry}, RelE r l E → RelE r' l E
  | [], _, k => k
  | _ :: _, _, ⟨k, v, M, h1, h2, h3, h4⟩ => ⟨k, v, M, h1, h2.mono h, h3.mono h, h4.mono h⟩
def phaseC : Nat → LoopState | 0 => .ready | 1 => .busy | 2 => .done | _ => .exhausted
def pendC : Option (Option Nat) → Option Code | none => none | some none => some .ret | some (some id) => some (.exit id)
def SlotsR {X : Type} [Spec X] [Sig] (r : Rho X) (n : Nat) (tmps : Array Value) (T : Tr AV) : Prop := tmps.size = n ∧ ∀ t a, T.get t = some a → ∃ A, tmps[t]? = some A ∧ Rel r a A
theorem SlotsR.mono {X : Type} [Spec X] [Sig] {r r' : Rho X} {n : Nat} {tmps : Array Value} {T : Tr AV} (h : SlotsR r n tmps T) (k : r.le r') : SlotsR r' n tmps T := ⟨h.1, fun t a ht => let ⟨A, h1, h2⟩ := h.2 t a ht; ⟨A, h1, h2.mono k⟩⟩
def Holds {X : Type} [Spec X] [Sig] (r : Rho X) (w : World) (B K : Nat) : AB → Prop
  | .row c => ∃ L, RelL r c L ∧ Blk w B L
  | .own el sz c => ∃ L ext, RelL r c L ∧ w.heap[B]? = some (.cells (L ++ ext).toArray el (0, 0)) ∧ (L ++ ext).length = K * sz ∧ K ≤ maxLen
  | .ro c => ∃ L, RelL r c L ∧ At w B 0 L ∧ B < w.heap.size
  | .dead => True
  | .map es clock => ∃ E, RelE r es E ∧ w.heap[B]? = some (.map E.toArray clock)
  | .mit m since seen last => ∃ M, (match m with | none => M = none | some b => ∃ B' K', r b = some (B', K') ∧ M = some B') ∧ w.heap[B]? = some (.mapIter M since seen.toArray last)
  | .lp ph pend f n T ps asg body d => ∃ fn tmps D KD, r d = some (D, KD) ∧ Sig.ok f asg ∧ Sig.ok f body ∧ SlotsR r n tmps T ∧ w.heap[B]? = some (.loop { state := phaseC ph, pending := pendC pend, fn := fn, tmps := tmps, params := ps.toArray, assign := asg, body := body, defers := D })
  | .df => w.heap[B]? = some (.deferred (some []))
def AB.live : AB → Bool | .dead => false | _ => true
def AB.wr : AB → Bool | .dead => false | .ro _ => false | _ => true
theorem Holds.cells {X : Type} [Spec X] [Sig] {r : Rho X} {w : World} {B K : Nat} {ab : AB} {c : List AV} (h : Holds r w B K ab) (hc : ab.cells = some c) : ∃ L, RelL r c L ∧ At w B 0 L ∧ B < w.heap.size := by
  cases ab with
  | row l => cases hc; obtain ⟨L, h1, h2⟩ := h; exact ⟨L, h1, h2.at, h2.lt⟩
  | own el sz l =>
    cases hc
    obtain ⟨L, ext, h1, h2, _⟩ := h
    have hb : Blk w B (L ++ ext) := ⟨_, h2⟩
    exact ⟨L, h1, hb.at.left, hb.lt⟩
  | ro l => cases hc; exact h
  | dead => cases hc
  | map => cases hc
  | mit => cases hc
  | lp => cases hc
  | df => cases hc
theorem Holds.lt {X : Type} [Spec X] [Sig] {r : Rho X} {w : World} {B K : Nat} {ab : AB} (h : Holds r w B K ab) (hl : ab.live = true) : B < w.heap.size := by
  cases ab with
  | row l => obtain ⟨L, h1, h2⟩ := h; exact h2.lt
  | own el sz l => obtain ⟨L, ext, h1, h2, _⟩ := h; exact (Array.getElem?_eq_some_iff.1 h2).1
  | ro l => obtain ⟨_, _, _, h3⟩ := h; exact h3
  | dead => cases hl
  | map => obtain ⟨_, _, h2⟩ := h; exact (Array.getElem?_eq_some_iff.1 h2).1
  | mit => obtain ⟨_, _, h2⟩ := h; exact (Array.getElem?_eq_some_iff.1 h2).1
  | lp => obtain ⟨_, _, _, _, _, _, _, _, h2⟩ := h; exact (Array.getElem?_eq_some_iff.1 h2).1
  | df => exact (Array.getElem?_eq_some_iff.1 h).1
theorem Holds.mod {X : Type} [Spec X] [Sig] {S : Nat → Prop} {r r' : Rho X} {w w' : World} {B K : Nat} {ab : AB} (h : Holds r w B K ab) (hr : r.le r') (hm : Mod S w w') (hn : ab.live = true → ¬ S B) : Holds r' w' B K ab := by
  cases ab with
  | row l => obtain ⟨L, h1, h2⟩ := h; exact ⟨L, h1.mono hr, h2.mod hm (hn rfl)⟩
  | own el sz l => obtain ⟨L, ext, h1, h2, h3⟩ := h; exact ⟨L, ext, h1.mono hr, hm.row h2 (hn rfl), h3⟩
  | ro l => obtain ⟨L, h1, h2, h3⟩ := h; exact ⟨L, h1.mono hr, h2.mod hm (hn rfl), Nat.lt_of_lt_of_le h3 hm.size⟩
  | dead => trivial
  | map => obtain ⟨E, h1, h2⟩ := h; exact ⟨E, h1.mono hr, hm.row h2 (hn rfl)⟩
  | mit m =>
    obtain ⟨M, h1, h2⟩ := h
    refine ⟨M, ?_, hm.row h2 (hn rfl)⟩
    cases m with
    | none => exact h1
    | some b => obtain ⟨B', K', h3, h4⟩ := h1; exact ⟨B', K', hr.b _ _ h3, h4⟩
  | lp => obtain ⟨fn, tmps, D, KD, h1, h2, h3, h4, h5⟩ := h; exact ⟨fn, tmps, D, KD, hr.b _ _ h1, h2, h3, h4.mono hr, hm.row h5 (hn rfl)⟩
  | df => exact hm.row h (hn rfl)
structure Sat {X : Type} [Spec X] [Sig] (lo : Nat) (r : Rho X) (H : Tr AB) (w : World) : Prop where
  row : ∀ b ab, H.get b = some ab → ∃ B K, r b = some (B, K) ∧ (ab.wr = true → lo ≤ B) ∧ Holds r w B K ab
  inj : ∀ b c ab ac B K K', H.get b = some ab → H.get c = some ac → ab.live = true → ac.live = true → r b = some (B, K) → r c = some (B, K') → b = c
  free : ∀ b, H.get b = none → r b = none ∧ r.at' b = none
  size : lo ≤ w.heap.size
  old : Mod (fun k => lo ≤ k) Sig.base w
  fz : ∀ k ob, r.fz k = some ob → w.heap[k]? = some ob ∧ ∀ b ab K, H.get b = some ab → ab.wr = true → r b ≠ some (k, K)
theorem Sat.here {X : Type} [Spec X] [Sig] {lo : Nat} {r : Rho X} {H : Tr AB} {w : World} (h : Sat lo r H w) {b B K : Nat} {ab : AB} (hb : H.get b = some ab) (hr : r b = some (B, K)) : (ab.wr = true → lo ≤ B) ∧ Holds r w B K ab := by
  obtain ⟨B', K', h1, h2, h3⟩ := h.row b ab hb
  rw [hr] at h1
  cases h1
  exact ⟨h2, h3⟩
theorem Sat.upd {X : Type} [Spec X] [Sig] {lo : Nat} {r : Rho X} {H : Tr AB} {w w' : World} (h : Sat lo r H w) {b B K : Nat} {ab ab' : AB} (hb : H.get b = some ab) (hl : ab.live = true) (hr : r b = some (B, K)) (hlo : lo ≤ B) (hm : Mod (· = B) w w') (hh : Holds r w' B K ab') (hwr : ab.wr = true := by rfl) : Sat lo r (H.put b ab') w' := by
  refine ⟨fun c ac hc => ?_, fun c d ac ad C K1 K2 hc hd hlc hld hrc hrd => ?_, fun c hc => ?_, Nat.le_trans h.size hm.size, h.old.trans (hm.weaken fun k _ hk => by subst hk; exact hlo), fun k ob hk => ?_⟩
  · rw [Tr.get_put] at hc
    by_cases hcb : c = b
    · subst hcb
      rw [if_pos rfl] at hc
      cases hc
      exact ⟨B, K, hr, fun _ => hlo, hh⟩
    · rw [if_neg hcb] at hc
      obtain ⟨C, K', h1, h2, h3⟩ := h.row c ac hc
      refine ⟨C, K', h1, h2, h3.mod (Rho.le.refl r) hm fun hlc e => ?_⟩
      subst e
      exact hcb (h.inj c b ac ab _ _ _ hc hb hlc hl h1 hr)
  · have key : ∀ x ax, (H.put b ab').get x = some ax → ax.live = true → ∃ ay, H.get x = some ay ∧ ay.live = true := by
      intro x ax hx hlx
      rw [Tr.get_put] at hx
      by_cases hxb : x = b
      · subst hxb; exact ⟨ab, hb, hl⟩
      · rw [if_neg hxb] at hx; exact ⟨ax, hx, hlx⟩
    obtain ⟨a1, h1, h2⟩ := key c ac hc hlc
    obtain ⟨a2, h3, h4⟩ := key d ad hd hld
    exact h.inj c d a1 a2 C K1 K2 h1 h3 h2 h4 hrc hrd
  · rw [Tr.get_put] at hc
    by_cases hcb : c = b
    · rw [if_pos hcb] at hc; cases hc
    · rw [if_neg hcb] at hc; exact h.free c hc
  · obtain ⟨h1, h2⟩ := h.fz k ob hk
    have hkB : k ≠ B := fun e => h2 b ab K hb hwr (by rw [e]; exact hr)
    refine ⟨(hm.block k (Array.getElem?_eq_some_iff.1 h1).1 hkB).trans h1, fun c ac K' hc hcw hrc => ?_⟩
    rw [Tr.get_put] at hc
    by_cases hcb : c = b
    · subst hcb
      rw [hr] at hrc
      cases hrc
      exact hkB rfl
    · rw [if_neg hcb] at hc
      exact h2 c ac K' hc hcw hrc
theorem Sat.kill {X : Type} [Spec X] [Sig] {lo : Nat} {r : Rho X} {H : Tr AB} {w : World} (h : Sat lo r H w) {b B K : Nat} {ab : AB} (hb : H.get b = some ab) (hr : r b = some (B, K)) : Sat lo r (H.put b .dead) w := by
  refine ⟨fun c ac hc => ?_, fun c d ac ad C K1 K2 hc hd hlc hld hrc hrd => ?_, fun c hc => ?_, h.size, h.old, fun k ob hk => ⟨(h.fz k ob hk).1, fun c ac K' hc hcw hrc => ?_⟩⟩
  · rw [Tr.get_put] at hc
    by_cases hcb : c = b
    · subst hcb
      rw [if_pos rfl] at hc
      cases hc
      exact ⟨B, K, hr, fun hw => (by cases hw), trivial⟩
    · rw [if_neg hcb] at hc
      exact h.row c ac hc
  · have key : ∀ x ax, (H.put b .dead).get x = some ax → ax.live = true → H.get x = some ax := by
      intro x ax hx hlx
      rw [Tr.get_put] at hx
      by_cases hxb : x = b
      · rw [if_pos hxb] at hx; cases hx; cases hlx
      · rw [if_neg hxb] at hx; exact hx
    exact h.inj c d ac ad C K1 K2 (key c ac hc hlc) (key d ad hd hld) hlc hld hrc hrd
  · rw [Tr.get_put] at hc
    by_cases hcb : c = b
    · rw [if_pos hcb] at hc; cases hc
    · rw [if_neg hcb] at hc; exact h.free c hc
  · rw [Tr.get_put] at hc
    by_cases hcb : c = b
    · rw [if_pos hcb] at hc; cases hc; cases hcw
    · rw [if_neg hcb] at hc
      exact (h.fz k ob hk).2 c ac K' hc hcw hrc
theorem Sat.mods {X : Type} [Spec X] [Sig] {S : Nat → Prop} {lo : Nat} {r r' : Rho X} {H : Tr AB} {w w' : World} (h : Sat lo r H w) (hr : r.le r') (hm : Mod S w w') (hn : ∀ b ab B K, H.get b = some ab → ab.live = true → r b = some (B, K) → ¬ S B) :
    ∀ b ab, H.get b = some ab → ∃ B K, r' b = some (B, K) ∧ (ab.wr = true → lo ≤ B) ∧ Holds r' w' B K ab := by
  intro b ab hb
  obtain ⟨B, K, h1, h2, h3⟩ := h.row b ab hb
  exact ⟨B, K, hr.b _ _ h1, h2, h3.mod hr hm fun hl => hn b ab B K hb hl h1⟩
theorem Sat.ext {X : Type} [Spec X] [Sig] {lo : Nat} {r : Rho X} {H : Tr AB} {w w' : World} (h : Sat lo r H w) (hm : Ext w w') : Sat lo r H w' :=
  ⟨h.mods (Rho.le.refl r) hm (fun _ _ _ _ _ _ _ h => h), h.inj, h.free, Nat.le_trans h.size hm.size, h.old.trans (hm.weaken fun _ _ h => h.elim), fun k ob hk => ⟨(hm.block k (Array.getElem?_eq_some_iff.1 (h.fz k ob hk).1).1 id).trans (h.fz k ob hk).1, (h.fz k ob hk).2⟩⟩
theorem Sat.new {X : Type} [Spec X] [Sig] {S : Nat → Prop} {lo : Nat} {r : Rho X} {H : Tr AB} {w w' : World} (h : Sat lo r H w) {b B K : Nat} {ab : AB} (hb : H.get b = none) (hm : Mod S w w') (hn : ∀ b ab B K, H.get b = some ab → ab.live = true → r b = some (B, K) → ¬ S B) (hS : ∀ k, S k → lo ≤ k)
    (hSf : ∀ k ob, r.fz k = some ob → ¬ S k ∧ k ≠ B) (hlo : lo ≤ B) (hB : ∀ c ac K, H.get c = some ac → ac.live = true → r c ≠ some (B, K)) (hh : Holds (r.set b (B, K)) w' B K ab) : r.le (r.set b (B, K)) ∧ Sat lo (r.set b (B, K)) (H.put b ab) w' := by
  have hle := Rho.le.set (h.free b hb).1 (B, K)
  refine ⟨hle, fun c ac hc => ?_, fun c d ac ad C K1 K2 hc hd hlc hld hrc hrd => ?_, fun c hc => ?_, Nat.le_trans h.size hm.size, h.old.trans (hm.weaken fun k _ hk => hS k hk), fun k ob hk => ?_⟩
  · rw [Tr.get_put] at hc
    by_cases hcb : c = b
    · subst hcb
      rw [if_pos rfl] at hc
      cases hc
      exact ⟨B, K, Rho.set_same _ _ _, fun _ => hlo, hh⟩
    · rw [if_neg hcb] at hc
      exact h.mods hle hm hn c ac hc
  · rw [Tr.get_put] at hc hd
    by_cases hcb : c = b
    · subst hcb
      rw [Rho.set_same] at hrc
      cases hrc
      by_cases hdc : d = c
      · exact hdc.symm
      · rw [if_neg hdc] at hd
        have : r d = some (B, K2) := by simpa [Rho.set, hdc] using hrd
        exact absurd this (hB d ad K2 hd hld)
    · rw [if_neg hcb] at hc
      have hrc' : r c = some (C, K1) := by simpa [Rho.set, hcb] using hrc
      by_cases hdb : d = b
      · subst hdb
        rw [Rho.set_same] at hrd
        cases hrd
        exact absurd hrc' (hB c ac K1 hc hlc)
      · rw [if_neg hdb] at hd
        have hrd' : r d = some (C, K2) := by simpa [Rho.set, hdb] using hrd
        exact h.inj c d ac ad C K1 K2 hc hd hlc hld hrc' hrd'
  · rw [Tr.get_put] at hc
    by_cases hcb : c = b
    · rw [if_pos hcb] at hc; cases hc
    · rw [if_neg hcb] at hc
      rw [Rho.set_ne hcb]
      exact h.free c hc
  · obtain ⟨h1, h2⟩ := h.fz k ob hk
    obtain ⟨k1, k2⟩ := hSf k ob hk
    refine ⟨(hm.block k (Array.getElem?_eq_some_iff.1 h1).1 k1).trans h1, fun c ac K' hc hcw hrc => ?_⟩
    rw [Tr.get_put] at hc
    by_cases hcb : c = b
    · subst hcb
      rw [Rho.set_same] at hrc
      cases hrc
      exact k2 rfl
    · rw [if_neg hcb] at hc
      rw [Rho.set_ne hcb] at hrc
      exact h2 c ac K' hc hcw hrc
theorem Sat.newTop {X : Type} [Spec X] [Sig] {lo : Nat} {r : Rho X} {H : Tr AB} {w w' : World} (h : Sat lo r H w) {b K : Nat} {ab : AB} (hb : H.get b = none) (hm : Ext w w') (hh : Holds (r.set b (w.heap.size, K)) w' w.heap.size K ab) : r.le (r.set b (w.heap.size, K)) ∧ Sat lo (r.set b (w.heap.size, K)) (H.put b ab) w' :=
  h.new hb hm (fun _ _ _ _ _ _ _ h => h) (fun _ h => h.elim) (fun k ob hk => ⟨id, fun e => by have := (Array.getElem?_eq_some_iff.1 (h.fz k ob hk).1).1; omega⟩) h.size (fun c ac K hc hl hr => by
    obtain ⟨B, K', h1, _, h3⟩ := h.row c ac hc
    rw [hr] at h1
    cases h1
    exact absurd (h3.lt hl) (Nat.lt_irrefl _)) hh
def InW {X : Type} (r : Rho X) (H : Tr AB) (k : Nat) : Prop := ∃ b ab K, H.get b = some ab ∧ ab.wr = true ∧ r b = some (k, K)
structure FrmC {X : Type} (r : Rho X) (H : Tr AB) (w : World) (r' : Rho X) (H' : Tr AB) (w' : World) : Prop where
  mod : Mod (InW r H) w w'
  grow : ∀ k, k < w.heap.size → InW r' H' k → InW r H k
  fzn : ∀ k ob, r'.fz k = some ob → r.fz k = some ob ∨ w.heap.size ≤ k ∨ InW r H k
structure Frm {X : Type} (r : Rho X) (H : Tr AB) (w : World) (r' : Rho X) (H' : Tr AB) (w' : World) : Prop where
  c : FrmC r H w r' H' w'
  atoms : r'.at' = r.at'
theorem FrmC.refl {X : Type} (r : Rho X) (H : Tr AB) (w : World) : FrmC r H w r H w := ⟨Mod.refl w, fun _ _ h => h, fun _ _ h => .inl h⟩
theorem FrmC.trans {X : Type} {r r1 r2 : Rho X} {H H1 H2 : Tr AB} {w w1 w2 : World} (h : FrmC r H w r1 H1 w1) (k : FrmC r1 H1 w1 r2 H2 w2) : FrmC r H w r2 H2 w2 :=
  ⟨h.mod.then k.mod fun i hi hk => h.grow i hi hk, fun i hi hk => h.grow i hi (k.grow i (Nat.lt_of_lt_of_le hi h.mod.size) hk), fun i ob hi => by
    rcases k.fzn i ob hi with h1 | h1 | h1
    · exact h.fzn i ob h1
    · exact .inr (.inl (Nat.le_trans h.mod.size h1))
    · rcases Nat.lt_or_ge i w.heap.size with h2 | h2
      · exact .inr (.inr (h.grow i h2 h1))
      · exact .inr (.inl h2)⟩
theorem FrmC.ext {X : Type} {r : Rho X} {H : Tr AB} {w w' : World} (h : Ext w w') : FrmC r H w r H w' := ⟨h.mod, fun _ _ h => h, fun _ _ h => .inl h⟩
theorem Frm.refl {X : Type} (r : Rho X) (H : Tr AB) (w : World) : Frm r H w r H w := ⟨FrmC.refl r H w, rfl⟩
theorem Frm.trans {X : Type} {r r1 r2 : Rho X} {H H1 H2 : Tr AB} {w w1 w2 : World} (h : Frm r H w r1 H1 w1) (k : Frm r1 H1 w1 r2 H2 w2) : Frm r H w r2 H2 w2 := ⟨h.c.trans k.c, k.atoms.trans h.atoms⟩
theorem Frm.ext {X : Type} {r : Rho X} {H : Tr AB} {w w' : World} (h : Ext w w') : Frm r H w r H w' := ⟨FrmC.ext h, rfl⟩
theorem Frm.upd {X : Type} {r : Rho X} {H : Tr AB} {w w' : World} {b B K : Nat} {ab ab' : AB} (hb : H.get b = some ab) (hr : r b = some (B, K)) (hm : Mod (· = B) w w') (hwr : ab.wr = true := by rfl) : Frm r H w r (H.put b ab') w' :=
  ⟨⟨hm.weaken fun k _ hk => by subst hk; exact ⟨b, ab, K, hb, hwr, hr⟩, fun k _ ⟨c, ac, K', hc, hcw, hrc⟩ => by
    rw [Tr.get_put] at hc
    by_cases hcb : c = b
    · subst hcb
      exact ⟨c, ab, K', hb, hwr, hrc⟩
    · rw [if_neg hcb] at hc
      exact ⟨c, ac, K', hc, hcw, hrc⟩, fun _ _ h => .inl h⟩, rfl⟩
theorem Frm.kill {X : Type} {r : Rho X} {H : Tr AB} {w : World} (b : Nat) : Frm r H w r (H.put b .dead) w :=
  ⟨⟨Mod.refl w, fun k _ ⟨c, ac, K', hc, hcw, hrc⟩ => by
    rw [Tr.get_put] at hc
    by_cases hcb : c = b
    · rw [if_pos hcb] at hc; cases hc; cases hcw
    · rw [if_neg hcb] at hc
      exact ⟨c, ac, K', hc, hcw, hrc⟩, fun _ _ h => .inl h⟩, rfl⟩
theorem Frm.move {X : Type} {r : Rho X} {H : Tr AB} {w w' : World} {b c B K K' : Nat} {ab ab' : AB} (hb : H.get b = some ab) (hr : r b = some (B, K)) (hm : Mod (· = B) w w') (hwr : ab.wr = true := by rfl) : Frm r H w (r.set c (B, K')) ((H.put b .dead).put c ab') w' :=
  ⟨⟨hm.weaken fun k _ hk => by subst hk; exact ⟨b, ab, K, hb, hwr, hr⟩, fun k _ ⟨d, ad, K2, hd, hdw, hrd⟩ => by
    rw [Tr.get_put] at hd
    by_cases hdc : d = c
    · subst hdc
      rw [Rho.set_same] at hrd
      cases hrd
      exact ⟨b, ab, K, hb, hwr, hr⟩
    · rw [if_neg hdc, Tr.get_put] at hd
      rw [Rho.set_ne hdc] at hrd
      by_cases hdb : d = b
      · rw [if_pos hdb] at hd; cases hd; cases hdw
      · rw [if_neg hdb] at hd
        exact ⟨d, ad, K2, hd, hdw, hrd⟩, fun _ _ h => .inl h⟩, rfl⟩
theorem Frm.top {X : Type} {r : Rho X} {H : Tr AB} {w w' : World} {b K : Nat} {ab : AB} (hm : Ext w w') : Frm r H w (r.set b (w.heap.size, K)) (H.put b ab) w' :=
  ⟨⟨hm.mod, fun k hk ⟨c, ac, K', hc, hcw, hrc⟩ => by
    rw [Tr.get_put] at hc
    by_cases hcb : c = b
    · subst hcb
      rw [Rho.set_same] at hrc
      cases hrc
      exact absurd hk (Nat.lt_irrefl _)
    · rw [if_neg hcb] at hc
      rw [Rho.set_ne hcb] at hrc
      exact ⟨c, ac, K', hc, hcw, hrc⟩, fun _ _ h => .inl h⟩, rfl⟩
theorem FrmC.lo {X : Type} [Spec X] [Sig] {lo : Nat} {r r' : Rho X} {H H' : Tr AB} {w w' : World} (h : FrmC r H w r' H' w') (hs : Sat lo r H w) : Mod (fun k => lo ≤ k) w w' :=
  h.mod.weaken fun k _ ⟨_, _, _, hb, hwr, hr⟩ => (hs.here hb hr).1 hwr
end Go.Proofs.YtbjomeonjlialaaGreat.V.S
