/-
  vary.Key told from outside, by a table of what it answers: the reckoned run's word for it holds. Condition: the table is right (reckoned); and what follows from it.
-/
import Derived.Test.YtfoabgljfikklaaGreatDoorWay
import Derived.Test.YtfoabgljfikklaaGreatDoorWaq
import Derived.Shelf.Strings.Count
set_option linter.unusedVariables false
set_option linter.unusedSimpArgs false
namespace Go.Proofs.YtfoabgljfikklaaGreatDoor.V.Ky
open Go.RowKit
attribute [local irreducible] GX GO
def bl (l : List Nat) : Bs := l.map UInt8.ofNat
structure KE where
  name : List Nat
  ns : List (List Nat)
  l : List (List Nat × List Nat)
  out : List Nat
  no : Int
def atb (p : List Nat × List Nat) : Attr := (bl p.1, bl p.2)
def KE.ok (e : KE) : Bool := decide (keyF (bl e.name) (e.ns.map bl) (e.l.map atb) = (bl e.out, e.no)) && e.out.all (fun x => decide (x < 256)) && decide (e.ns.length < 1000) && e.ns.all (fun x => decide (x.length < 1000)) && decide (e.l.length < 1000) && e.l.all (fun p => decide (p.1.length < 1000) && decide (p.2.length < 1000))
def strsOf : List AV → Option (List (List Nat))
  | [] => some []
  | .s l :: r => match strsOf r with
    | some m => some (l :: m)
    | none => none
  | _ => none
def pairsOf : List AV → Option (List (List Nat × List Nat))
  | [] => some []
  | .s a :: .s b :: r => match pairsOf r with
    | some m => some ((a, b) :: m)
    | none => none
  | _ => none
def readS (H : Tr AB) : AV → Option (List (List Nat))
  | .sl0 => some []
  | .sl b o _ n _ => match atH H b o n with
    | some cs => strsOf cs
    | none => none
  | _ => none
def readP (H : Tr AB) : AV → Option (List (List Nat × List Nat))
  | .sl0 => some []
  | .sl b o _ n _ => match atH H b o (n * 2) with
    | some cs => pairsOf cs
    | none => none
  | _ => none
def findK (name : List Nat) (ns : List (List Nat)) (l : List (List Nat × List Nat)) : List KE → Option KE
  | [] => none
  | e :: r => match e.name == name && e.ns == ns && e.l == l with
    | true => some e
    | false => findK name ns l r
def extKey (tbl : List KE) : CallA := fun g args st => match Nat.beq g 7, args with
  | true, [.s name, nm, at'] => match readS st.H nm, readP st.H at' with
    | some ns, some l => match findK name ns l tbl with
      | some e => some (.t [.s e.out, .i .i64 e.no], st)
      | none => none
    | _, _ => none
  | _, _ => none
theorem findK_spec {name : List Nat} {ns : List (List Nat)} {l : List (List Nat × List Nat)} {e : KE} : ∀ {tbl : List KE}, findK name ns l tbl = some e → e ∈ tbl ∧ e.name = name ∧ e.ns = ns ∧ e.l = l
  | [], h => by cases h
  | x :: r, h => by
    unfold findK at h
    split at h
    · rename_i hb
      cases h
      simp only [Bool.and_eq_true, beq_iff_eq] at hb
      exact ⟨List.mem_cons_self, hb.1.1, hb.1.2, hb.2⟩
    · obtain ⟨h1, h2⟩ := findK_spec h
      exact ⟨List.mem_cons_of_mem _ h1, h2⟩
theorem strsOf_spec [Sig] {r : Rho} : ∀ {cs : List AV} {L : List Value} {ns : List (List Nat)}, RelL r cs L → strsOf cs = some ns → L = strsV (ns.map bl)
  | [], L, ns, hL, h => by
    cases h
    have hL : L = [] := hL
    subst hL
    rfl
  | a :: cs, L, ns, hL, h => by
    obtain ⟨A, M, rfl, hA, hM⟩ := hL.of_cons
    unfold strsOf at h
    split at h
    · contradiction
    · rename_i heq
      cases heq
      split at h
      · rename_i m hm
        cases h
        unfold Rel at hA
        rw [hA.1, strsOf_spec hM hm]
        rfl
      · cases h
    · cases h
theorem pairsOf_spec [Sig] {r : Rho} : ∀ {cs : List AV} {L : List Value} {l : List (List Nat × List Nat)}, RelL r cs L → pairsOf cs = some l → L = attrsV (l.map atb)
  | [], L, l, hL, h => by
    cases h
    have hL : L = [] := hL
    subst hL
    rfl
  | [a], L, l, hL, h => by
    unfold pairsOf at h
    split at h
    · contradiction
    · rename_i heq; cases heq
    · cases h
  | a :: b :: cs, L, l, hL, h => by
    obtain ⟨A, M1, rfl, hA, hM1⟩ := hL.of_cons
    obtain ⟨B, M2, rfl, hB, hM2⟩ := hM1.of_cons
    unfold pairsOf at h
    split at h
    · contradiction
    · rename_i heq
      cases heq
      split at h
      · rename_i m hm
        cases h
        unfold Rel at hA hB
        rw [hA.1, hB.1, pairsOf_spec hM2 hm]
        rfl
      · cases h
    · cases h
theorem readS_spec [Sig] {r : Rho} {lo : Nat} {H : Tr AB} {w : World} (hs : Sat lo r H w) {v : AV} {V : Value} (hv : Rel r v V) {ns : List (List Nat)} (h : readS H v = some ns) : ∃ a c, V = .slice a (ns.map bl).length c ∧ StrsAt w a c (ns.map bl) := by
  unfold readS at h
  split at h
  · cases h
    unfold Rel at hv
    exact ⟨none, 0, hv, ⟨rfl, Nat.le_refl _, fun _ => rfl, fun _ h => by cases h⟩⟩
  · split at h
    · rename_i b o e n c _ cs hcs
      unfold Rel at hv
      obtain ⟨B, K, hr, rfl, hle⟩ := hv
      obtain ⟨hlen, L, hL, hAt, hLl⟩ := atH_sound hs hcs hr
      have := strsOf_spec hL h
      subst this
      have hn : (ns.map bl).length = n := by simpa [strsV] using hLl
      refine ⟨some ⟨B, o, none⟩, c.getD (K - e), by rw [hn], ⟨hAt, by rw [hn]; exact hle, fun h => (by cases h), fun x hx hne => ?_⟩⟩
      cases hx
      obtain ⟨y, m, hy⟩ : ∃ y m, ns.map bl = y :: m := by
        cases hq : ns.map bl with
        | nil => exact absurd hq hne
        | cons y m => exact ⟨y, m, rfl⟩
      exact block_lt_of_cell (hAt 0 (str y) (by rw [hy]; rfl))
    · cases h
  · cases h
theorem attrsV_length (l : List Attr) : (attrsV l).length = l.length * 2 := by
  induction l with
  | nil => rfl
  | cons x l ih => simp only [attrsV, List.flatMap_cons, List.length_append, List.length_cons] at ih ⊢; rw [ih]; simp [attrV]; omega
theorem readP_spec [Sig] {r : Rho} {lo : Nat} {H : Tr AB} {w : World} (hs : Sat lo r H w) {v : AV} {V : Value} (hv : Rel r v V) {l : List (List Nat × List Nat)} (h : readP H v = some l) : ∃ a c, V = .slice a (l.map atb).length c ∧ AttrsAt w a c (l.map atb) := by
  unfold readP at h
  split at h
  · cases h
    unfold Rel at hv
    exact ⟨none, 0, hv, ⟨rfl, Nat.le_refl _, fun _ => rfl, fun _ h => by cases h⟩⟩
  · split at h
    · rename_i b o e n c _ cs hcs
      unfold Rel at hv
      obtain ⟨B, K, hr, rfl, hle⟩ := hv
      obtain ⟨hlen, L, hL, hAt, hLl⟩ := atH_sound hs hcs hr
      have := pairsOf_spec hL h
      subst this
      have hn : (l.map atb).length = n := by rw [attrsV_length] at hLl; omega
      refine ⟨some ⟨B, o, none⟩, c.getD (K - e), by rw [hn], ⟨hAt, by rw [hn]; exact hle, fun h => (by cases h), fun x hx hne => ?_⟩⟩
      cases hx
      obtain ⟨y, m, hy⟩ : ∃ y m, l.map atb = y :: m := by
        cases hq : l.map atb with
        | nil => exact absurd hq hne
        | cons y m => exact ⟨y, m, rfl⟩
      exact block_lt_of_cell (hAt 0 (str y.1) (by rw [hy]; rfl))
    · cases h
  · cases h
theorem extKey_ok [Sig] (tbl : List KE) (ht : tbl.all KE.ok = true) (lo : Nat) : CallOK Tryz.prog lo (extKey tbl) := by
  intro g args st v st' h r w Args hArgs hs
  unfold extKey at h
  split at h
  · rename_i name nm at' hg
    have hg := Nat.eq_of_beq_eq_true hg
    subst hg
    obtain ⟨A, M, rfl, hA, hM⟩ := hArgs.of_cons
    obtain ⟨B, M, rfl, hB, hM⟩ := hM.of_cons
    obtain ⟨C, M, rfl, hC, hM⟩ := hM.of_cons
    have := hM.of_nil
    subst this
    split at h
    · rename_i ns l hns hl
      split at h
      · rename_i e he
        cases h
        obtain ⟨he1, rfl, rfl, rfl⟩ := findK_spec he
        have hok := List.all_eq_true.1 ht e he1
        simp only [KE.ok, Bool.and_eq_true, decide_eq_true_eq, List.all_eq_true] at hok
        obtain ⟨⟨⟨⟨⟨hk, ho⟩, h1⟩, h2⟩, h3⟩, h4⟩ := hok
        unfold Rel at hA
        obtain ⟨a, c, rfl, hN⟩ := readS_spec hs hB hns
        obtain ⟨a2, c2, rfl, hA2⟩ := readP_spec hs hC hl
        rw [hA.1]
        refine (key_ret (bl e.name) (e.ns.map bl) (e.l.map atb) a a2 c c2 w hN hA2 (by simp; omega) (fun s hs => ?_) (by simp; omega) (fun x hx => ?_)).mono ?_
        · obtain ⟨y, hy, rfl⟩ := List.mem_map.1 hs
          have := h2 y hy
          simp only [bl, List.length_map]
          omega
        · obtain ⟨y, hy, rfl⟩ := List.mem_map.1 hx
          have := h4 y hy
          simp only [atb, bl, List.length_map]
          omega
        · rintro V w' ⟨rfl, hx⟩
          rw [hk]
          refine ⟨r, Rho.le.refl r, ?_, hs.ext hx, modLo hx⟩
          unfold Rel
          refine ⟨_, rfl, RelL.cons ?_ (RelL.cons ?_ (RelL.nil r))⟩
          · unfold Rel
            exact ⟨rfl, fun x hx => ho x hx⟩
          · unfold Rel
            rfl
      · cases h
    · cases h
  · cases h
end Go.Proofs.YtfoabgljfikklaaGreatDoor.V.Ky
namespace Go.Proofs.YtfoabgljfikklaaGreatDoor.V.Ky
open Go.RowKit
attribute [local irreducible] GX GO
def ixA (c : Nat) : List Nat → Nat → Int
  | [], _ => -1
  | b :: l, k => match Nat.beq b c with
    | true => Int.ofNat k
    | false => ixA c l (k + 1)
def cntA (c : Nat) : List Nat → Nat → Nat
  | [], k => k
  | b :: l, k => match Nat.beq b c with
    | true => cntA c l (k + 1)
    | false => cntA c l k
def extIC : CallA := fun g args st => match args with
  | [.s l, .s [c]] => match Nat.beq g 88 with
    | true => some (.i .i64 (ixA c l 0), st)
    | false => match Nat.beq g 95 with
      | true => some (.i .i64 (Int.ofNat (cntA c l 0)), st)
      | false => none
  | _ => none
theorem ofNat_eq {a b : Nat} (ha : a < 256) (hb : b < 256) : UInt8.ofNat a = UInt8.ofNat b ↔ a = b := by
  constructor
  · intro h
    have := congrArg UInt8.toNat h
    rw [UInt8.toNat_ofNat', UInt8.toNat_ofNat', Nat.mod_eq_of_lt ha, Nat.mod_eq_of_lt hb] at this
    exact this
  · rintro rfl; rfl
theorem ixA_spec {c : Nat} (hc : c < 256) : ∀ {l : List Nat} (k : Nat), (∀ x ∈ l, x < 256) → ixA c l k = if Lib.indexByte (bl l) (UInt8.ofNat c) = -1 then -1 else Lib.indexByte (bl l) (UInt8.ofNat c) + k
  | [], k, _ => by simp [ixA, bl, Lib.indexByte]
  | b :: l, k, h => by
    have hb := h b (by simp)
    have hge := Lib.indexByte_ge (bl l) (UInt8.ofNat c)
    have e : Lib.indexByte (bl (b :: l)) (UInt8.ofNat c) = if UInt8.ofNat b == UInt8.ofNat c then 0 else if Lib.indexByte (bl l) (UInt8.ofNat c) == -1 then -1 else Lib.indexByte (bl l) (UInt8.ofNat c) + 1 := rfl
    rw [e]
    unfold ixA
    split
    · rename_i h1
      have h1 := Nat.eq_of_beq_eq_true h1
      subst h1
      simp
    · rename_i h1
      have h1 := Nat.ne_of_beq_eq_false h1
      have h2 : (UInt8.ofNat b == UInt8.ofNat c) = false := by
        rw [beq_eq_false_iff_ne]
        exact fun hh => h1 ((ofNat_eq hb hc).1 hh)
      rw [h2, ixA_spec hc (k + 1) fun x hx => h x (by simp [hx])]
      simp only [Bool.false_eq_true, if_false]
      by_cases h3 : Lib.indexByte (bl l) (UInt8.ofNat c) = -1
      · simp [h3]
      · have h4 : (Lib.indexByte (bl l) (UInt8.ofNat c) == -1) = false := by simpa using h3
        rw [if_neg h3, h4]
        simp only [Bool.false_eq_true, if_false]
        rw [if_neg (by omega)]
        omega
theorem cntA_spec {c : Nat} (hc : c < 256) : ∀ {l : List Nat} (k : Nat), (∀ x ∈ l, x < 256) → cntA c l k = k + Lib.countByte (bl l) (UInt8.ofNat c)
  | [], k, _ => by simp [cntA, bl, Lib.countByte]
  | b :: l, k, h => by
    have hb := h b (by simp)
    have ih := fun k => cntA_spec hc (l := l) k fun x hx => h x (by simp [hx])
    have e : Lib.countByte (bl (b :: l)) (UInt8.ofNat c) = Lib.countByte (bl l) (UInt8.ofNat c) + if UInt8.ofNat b == UInt8.ofNat c then 1 else 0 := by
      simp [Lib.countByte, bl, List.count_cons]
    rw [e]
    unfold cntA
    split
    · rename_i h1
      have h1 := Nat.eq_of_beq_eq_true h1
      subst h1
      rw [ih]
      simp
      omega
    · rename_i h1
      have h1 := Nat.ne_of_beq_eq_false h1
      have h2 : (UInt8.ofNat b == UInt8.ofNat c) = false := by
        rw [beq_eq_false_iff_ne]
        exact fun hh => h1 ((ofNat_eq hb hc).1 hh)
      rw [h2, ih]
      simp
theorem extIC_ok [Sig] (lo : Nat) : CallOK Tryz.prog lo extIC := by
  intro g args st v st' h r w Args hArgs hs
  unfold extIC at h
  split at h
  · rename_i l c
    obtain ⟨A, M, rfl, hA, hM⟩ := hArgs.of_cons
    obtain ⟨B, M, rfl, hB, hM⟩ := hM.of_cons
    have := hM.of_nil
    subst this
    unfold Rel at hA hB
    obtain ⟨rfl, hl⟩ := hA
    obtain ⟨rfl, hc⟩ := hB
    have hc := hc c (by simp)
    split at h
    · rename_i hg
      have hg := Nat.eq_of_beq_eq_true hg
      subst hg
      cases h
      refine Ret.of_calls ((Any.strings_Index_one { lay_n144 with } ⟨(bl l).toArray⟩ (UInt8.ofNat c) w).mono ?_)
      rintro e w' ⟨rfl, rfl⟩
      refine ⟨_, rfl, r, Rho.le.refl r, ?_, hs, Mod.refl _⟩
      unfold Rel
      rw [ixA_spec hc 0 hl]
      have hge := Lib.indexByte_ge (bl l) (UInt8.ofNat c)
      show Value.int .i64 (Lib.indexByte (bl l) (UInt8.ofNat c)) = _
      congr 1
      split <;> omega
    · split at h
      · rename_i hg
        have hg := Nat.eq_of_beq_eq_true hg
        subst hg
        cases h
        refine Ret.of_calls ((Any.strings_Count_one lay_n138 ⟨(bl l).toArray⟩ (UInt8.ofNat c) w).mono ?_)
        rintro e w' ⟨rfl, rfl⟩
        refine ⟨_, rfl, r, Rho.le.refl r, ?_, hs, Mod.refl _⟩
        unfold Rel
        rw [cntA_spec hc 0 hl]
        show Value.int .i64 (Lib.countByte (bl l) (UInt8.ofNat c) : Nat) = _
        simp
      · cases h
  · cases h
end Go.Proofs.YtfoabgljfikklaaGreatDoor.V.Ky
namespace Go.Proofs.YtfoabgljfikklaaGreatDoor.V.Ky
def keTbl : List KE := [⟨[107], [[108, 97, 110, 103], [101, 110, 99]], [([101, 110, 99], [103, 122]), ([108, 97, 110, 103], [100, 101, 45, 49]), ([120], [121])], [107, 63, 101, 110, 99, 61, 103, 122, 38, 108, 97, 110, 103, 61, 100, 101, 45, 49], 0⟩,
  ⟨[107], [[108, 97, 110, 103]], [], [107, 63, 108, 97, 110, 103], 0⟩,
  ⟨[107], [], [], [107, 63], 0⟩,
  ⟨[107], [[97]], [([97], [195, 169, 32, 37])], [107, 63, 97, 61, 37, 67, 51, 37, 65, 57, 37, 50, 48, 37, 50, 53], 0⟩,
  ⟨[97, 63, 98], [], [], [], 2⟩,
  ⟨[107], [[65]], [], [], 2⟩,
  ⟨[107], [[97], [97]], [], [], 2⟩,
  ⟨[0, 0, 0, 0, 0, 0, 0, 0, 0, 0, 0, 0, 0, 0, 0, 0, 0, 0, 0, 0, 0, 0, 0, 0, 0, 0, 0, 0, 0, 0, 0, 0, 0, 0, 0, 0, 0, 0, 0, 0, 0, 0, 0, 0, 0, 0, 0, 0, 0, 0, 0, 0, 0, 0, 0, 0, 0, 0, 0, 0, 0, 0, 0, 0, 0, 0, 0, 0, 0, 0, 0, 0, 0, 0, 0, 0, 0, 0, 0, 0, 0, 0, 0, 0, 0, 0, 0, 0, 0, 0, 0, 0, 0, 0, 0, 0, 0, 0, 0, 0, 0, 0, 0, 0, 0, 0, 0, 0, 0, 0, 0, 0, 0, 0, 0, 0, 0, 0, 0, 0, 0, 0, 0, 0, 0, 0, 0, 0, 0, 0, 0, 0, 0, 0, 0, 0, 0, 0, 0, 0, 0, 0, 0, 0, 0, 0, 0, 0, 0, 0, 0, 0, 0, 0, 0, 0, 0, 0, 0, 0, 0, 0, 0, 0, 0, 0, 0, 0, 0, 0, 0, 0, 0, 0, 0, 0, 0, 0, 0, 0, 0, 0, 0, 0, 0, 0, 0, 0, 0, 0, 0, 0, 0, 0, 0, 0, 0, 0, 0, 0, 0, 0, 0, 0, 0, 0, 0, 0, 0, 0, 0, 0, 0, 0, 0, 0, 0, 0, 0, 0, 0, 0, 0, 0, 0, 0, 0, 0, 0, 0, 0, 0, 0, 0, 0, 0, 0, 0, 0, 0, 0, 0, 0, 0, 0, 0, 0, 0, 0], [[97]], [], [], 5⟩,
  ⟨[107], [[108, 97, 110, 103]], [([108, 97, 110, 103], [100, 101])], [107, 63, 108, 97, 110, 103, 61, 100, 101], 0⟩,
  ⟨[107], [[108, 97, 110, 103]], [([108, 97, 110, 103], [101, 110])], [107, 63, 108, 97, 110, 103, 61, 101, 110], 0⟩,
  ⟨[107], [[108, 97, 110, 103]], [([108, 97, 110, 103], [100, 101]), ([120], [49])], [107, 63, 108, 97, 110, 103, 61, 100, 101], 0⟩,
  ⟨[107], [[108, 97, 110, 103]], [([108, 97, 110, 103], [102, 114])], [107, 63, 108, 97, 110, 103, 61, 102, 114], 0⟩,
  ⟨[107], [[101, 110, 99]], [], [107, 63, 101, 110, 99], 0⟩,
  ⟨[107], [[101, 110, 99]], [([108, 97, 110, 103], [101, 110])], [107, 63, 101, 110, 99], 0⟩]
set_option maxRecDepth 100000 in
theorem keTbl_ok : keTbl.all KE.ok = true := by decide +kernel
end Go.Proofs.YtfoabgljfikklaaGreatDoor.V.Ky
namespace Go.Proofs.YtfoabgljfikklaaGreatDoor.V
def extAll : CallA := orExt (Ky.extKey Ky.keTbl) Ky.extIC
theorem extAll_ok [Sig] (lo : Nat) : CallOK Tryz.prog lo extAll := orExt_ok (Ky.extKey_ok Ky.keTbl Ky.keTbl_ok lo) (Ky.extIC_ok lo)
end Go.Proofs.YtfoabgljfikklaaGreatDoor.V
namespace Go.Proofs.YtfoabgljfikklaaGreatDoor.V
section
variable {P : Program} {plans : Nat → Nat → Option Plan} {ext : CallA}
def putsT (H : Tr AB) : List (Nat × AB) → Tr AB
  | [] => H
  | (k, a) :: r => putsT (H.put k a) r
def AB.forg (a b : AB) : Bool := match b with | .dead => true | _ => AB.same a b
theorem Tr.same_get {α : Type} {eq : α → α → Bool} : ∀ {s t : Tr α}, Tr.same eq s t = true → ∀ k, (t.get k = none → s.get k = none) ∧ ∀ b, t.get k = some b → ∃ a, s.get k = some a ∧ eq a b = true
  | .e, .e, _, k => ⟨fun _ => by simp [Tr.get], fun b h => by simp [Tr.get] at h⟩
  | .e, .n .., hs, _ => by simp [Tr.same] at hs
  | .n (some _) _ _, .e, hs, _ => by simp [Tr.same] at hs
  | .n none _ _, .e, hs, _ => by simp [Tr.same] at hs
  | .n (some _) _ _, .n none _ _, hs, _ => by simp [Tr.same] at hs
  | .n none _ _, .n (some _) _ _, hs, _ => by simp [Tr.same] at hs
  | .n (some a) l r, .n (some b) l2 r2, hs, k => by
    simp only [Tr.same] at hs
    split at hs
    · rename_i h1 h2
      cases k with
      | zero => exact ⟨fun h => by simp [Tr.get] at h, fun c h => by simp only [Tr.get, Option.some.injEq] at h; subst h; exact ⟨a, rfl, h1⟩⟩
      | succ k =>
        simp only [Tr.get]
        cases Nat.beq (k % 2) 0 with
        | true => exact Tr.same_get h2 _
        | false => exact Tr.same_get hs _
    · cases hs
  | .n none l r, .n none l2 r2, hs, k => by
    simp only [Tr.same] at hs
    split at hs
    · rename_i h2
      cases k with
      | zero => exact ⟨fun _ => rfl, fun c h => by simp [Tr.get] at h⟩
      | succ k =>
        simp only [Tr.get]
        cases Nat.beq (k % 2) 0 with
        | true => exact Tr.same_get h2 _
        | false => exact Tr.same_get hs _
    · cases hs
theorem sat_forg [Sig] {lo : Nat} {r : Rho} {H H' : Tr AB} {w : World} (h : Tr.same AB.forg H H' = true) (hs : Sat lo r H w) : Sat lo r H' w := by
  have key : ∀ b c, H'.get b = some c → ∃ a, H.get b = some a ∧ (c = .dead ∨ a = c) := by
    intro b c hc
    obtain ⟨a, h1, h2⟩ := (Tr.same_get h b).2 c hc
    refine ⟨a, h1, ?_⟩
    unfold AB.forg at h2
    split at h2
    · exact .inl rfl
    · exact .inr (AB.same_eq h2)
  refine ⟨fun b c hc => ?_, fun b c ab ac B K K' hb hc hlb hlc hrb hrc => ?_, fun b hb => hs.free b ((Tr.same_get h b).1 hb), hs.size, hs.old⟩
  · obtain ⟨a, h1, h2⟩ := key b c hc
    obtain ⟨B, K, h3, h4, h5⟩ := hs.row b a h1
    rcases h2 with rfl | rfl
    · exact ⟨B, K, h3, ⟨fun h => Bool.noConfusion h, trivial⟩⟩
    · exact ⟨B, K, h3, h4, h5⟩
  · obtain ⟨a1, q1, q2⟩ := key b ab hb
    obtain ⟨a2, q3, q4⟩ := key c ac hc
    rcases q2 with rfl | rfl
    · cases hlb
    rcases q4 with rfl | rfl
    · cases hlc
    exact hs.inj b c _ _ B K K' q1 q3 hlb hlc hrb hrc
def deadT : Nat → Nat → Tr AB
  | 0, _ => .e
  | _, 0 => .e
  | f + 1, m + 1 => .n (some .dead) (deadT f ((m + 1) / 2)) (deadT f (m / 2))
def chunkOk (P : Program) (plans : Nat → Nat → Option Plan) (ext : CallA) (k g : Nat) (args : List AV) (H : Tr AB) (next : Nat) (v : AV) (H' : Tr AB) (next' : Nat) : Bool :=
  match evText P plans ext k g args ⟨.e, H, next, []⟩ with
  | some (u, s) => match sameV u v, Tr.same AB.forg s.H H', Nat.beq s.next next' with
    | true, true, true => true
    | _, _, _ => false
  | none => false
def extChunk (g : Nat) (args : List AV) (H : Tr AB) (next : Nat) (v : AV) (H' : Tr AB) (next' : Nat) : CallA := fun f ys st =>
  match Nat.beq f g, Nat.beq st.next next with
  | true, true => match sameVs ys args, Tr.same AB.forg st.H H with
    | true, true => some (v, ⟨.e, H', next', []⟩)
    | _, _ => none
  | _, _ => none
theorem extChunk_ok [Sig] {lo k g next next' : Nat} {args : List AV} {H H' : Tr AB} {v : AV} (hb : RunBase P plans) (hext : CallOK P lo ext) (h : chunkOk P plans ext k g args H next v H' next' = true) :
    CallOK P lo (extChunk g args H next v H' next') := by
  intro f ys st u st' he r w Args hA hs
  unfold extChunk at he
  split at he
  · rename_i h1 h2
    split at he
    · rename_i h3 h4
      cases he
      have h1 := Nat.eq_of_beq_eq_true h1
      have h3 := sameVs_eq h3
      subst h1 h3
      unfold chunkOk at h
      split at h
      · rename_i u s hev
        split at h
        · rename_i k1 k2 k3
          have k1 := sameV_eq k1
          subst k1
          have hs' : Sat lo r H w := sat_forg h4 hs
          exact (hb.call hext k f ys ⟨.e, H, next, []⟩ _ s hev r w Args hA hs').mono fun V w' ⟨r', q1, q2, q3, q4⟩ => ⟨r', q1, q2, sat_forg k2 q3, q4⟩
        · cases h
      · cases h
    · cases he
  · cases he
end
end Go.Proofs.YtfoabgljfikklaaGreatDoor.V
namespace Go.Proofs.YtfoabgljfikklaaGreatDoor.V
def boolSame : Bool → Bool → Bool | true, true => true | false, false => true | _, _ => false
theorem boolSame_eq {a b : Bool} (h : boolSame a b = true) : a = b := by cases a <;> cases b <;> simp_all [boolSame]
def boolsSame : List Bool → List Bool → Bool
  | [], [] => true
  | a :: l, b :: m => match boolSame a b with | true => boolsSame l m | false => false
  | _, _ => false
theorem boolsSame_eq : ∀ {l m : List Bool}, boolsSame l m = true → l = m
  | [], [], _ => rfl
  | [], _ :: _, h => by cases h
  | _ :: _, [], h => by cases h
  | a :: l, b :: m, h => by
    unfold boolsSame at h
    split at h
    · rename_i h1; rw [boolSame_eq h1, boolsSame_eq h]
    · cases h
def planSame : Plan → Plan → Bool
  | .done, .done => true
  | .pure i p, .pure j q => match Nat.beq i j with | true => planSame p q | false => false
  | .read i p, .read j q => match Nat.beq i j with | true => planSame p q | false => false
  | .eff i p, .eff j q => match Nat.beq i j with | true => planSame p q | false => false
  | .alt p p2, .alt q q2 => match planSame p q with | true => planSame p2 q2 | false => false
  | _, _ => false
theorem planSame_eq : ∀ {p q : Plan}, planSame p q = true → p = q := by
  intro p
  induction p with
  | done => intro q h; cases q <;> simp_all [planSame]
  | pure i p ih =>
    intro q h
    cases q <;> simp only [planSame, Bool.false_eq_true] at h
    split at h
    · rename_i h1; rw [Nat.eq_of_beq_eq_true h1, ih h]
    · cases h
  | read i p ih =>
    intro q h
    cases q <;> simp only [planSame, Bool.false_eq_true] at h
    split at h
    · rename_i h1; rw [Nat.eq_of_beq_eq_true h1, ih h]
    · cases h
  | eff i p ih =>
    intro q h
    cases q <;> simp only [planSame, Bool.false_eq_true] at h
    split at h
    · rename_i h1; rw [Nat.eq_of_beq_eq_true h1, ih h]
    · cases h
  | alt p p2 ih ih2 =>
    intro q h
    cases q <;> simp only [planSame, Bool.false_eq_true] at h
    split at h
    · rename_i h1; rw [ih h1, ih2 h]
    · cases h
abbrev PF := List (Nat × List Bool × Plan)
def knownP (fuel : Nat) (listed : List Bool) (p : Plan) : PF → Bool
  | [] => false
  | x :: r => match Nat.beq x.1 fuel, boolsSame x.2.1 listed with
    | true, true => match planSame x.2.2 p with
      | true => true
      | false => knownP fuel listed p r
    | _, _ => knownP fuel listed p r
theorem knownP_spec {fuel : Nat} {listed : List Bool} {p : Plan} : ∀ {F : PF}, knownP fuel listed p F = true → (fuel, listed, p) ∈ F
  | [], h => by cases h
  | x :: r, h => by
    unfold knownP at h
    split at h
    · rename_i h1 h2
      split at h
      · rename_i h3
        have h1 := Nat.eq_of_beq_eq_true h1
        have h2 := boolsSame_eq h2
        have h3 := planSame_eq h3
        obtain ⟨a, b, c⟩ := x
        dsimp only at h1 h2 h3
        subst h1 h2 h3
        exact List.mem_cons_self
      · exact List.mem_cons_of_mem _ (knownP_spec h)
    · exact List.mem_cons_of_mem _ (knownP_spec h)
def coversO (F : PF) (ops : Array Oper) : Nat → Array Bool → Plan → Bool
  | 0, listed, p => covers .any ops 0 listed p
  | fuel + 1, listed, p => match knownP (fuel + 1) listed.toList p F with
    | true => true
    | false => match p with
      | .done => (Region.ready .any ops listed).isEmpty
      | .pure i p => (Region.ready .any ops listed).contains i && freeL .any ops false listed i && coversO F ops fuel (listed.setIfInBounds i true) p
      | .read i p => (Region.ready .any ops listed).contains i && freeL .any ops true listed i && coversO F ops fuel (listed.setIfInBounds i true) p
      | .eff i p => (Region.ready .any ops listed).all (· == i) && (Region.ready .any ops listed).contains i && coversO F ops fuel (listed.setIfInBounds i true) p
      | .alt p q => !(Region.ready .any ops listed).isEmpty && (Region.ready .any ops listed).all fun i => ((Plan.alt p q).heads.find? (fun h => h.1 == i)).any fun h => coversO F ops fuel (listed.setIfInBounds i true) h.2
theorem coversO_spec {F : PF} {ops : Array Oper} (hF : ∀ x ∈ F, covers .any ops x.1 x.2.1.toArray x.2.2 = true) : ∀ (fuel : Nat) (listed : Array Bool) (p : Plan), coversO F ops fuel listed p = true → covers .any ops fuel listed p = true
  | 0, listed, p, h => h
  | fuel + 1, listed, p, h => by
    unfold coversO at h
    split at h
    · rename_i hk
      have := hF _ (knownP_spec hk)
      simpa using this
    · cases p with
      | done => exact h
      | pure i p =>
        simp only [Bool.and_eq_true] at h
        simp only [covers, Bool.and_eq_true]
        exact ⟨h.1, coversO_spec hF _ _ _ h.2⟩
      | read i p =>
        simp only [Bool.and_eq_true] at h
        simp only [covers, Bool.and_eq_true]
        exact ⟨h.1, coversO_spec hF _ _ _ h.2⟩
      | eff i p =>
        simp only [Bool.and_eq_true] at h
        simp only [covers, Bool.and_eq_true]
        exact ⟨h.1, coversO_spec hF _ _ _ h.2⟩
      | alt p q =>
        simp only [Bool.and_eq_true, List.all_eq_true, Option.any_eq_true] at h
        simp only [covers, Bool.and_eq_true, List.all_eq_true, Option.any_eq_true]
        refine ⟨h.1, fun i hi => ?_⟩
        obtain ⟨x, hx, hc⟩ := h.2 i hi
        exact ⟨x, hx, coversO_spec hF _ _ _ hc⟩
def regsOf (id : Nat) : Code → List (Array Oper)
  | .region j ops true => match Nat.beq j id with | true => [ops] | false => []
  | .seq a b => regsOf id a ++ regsOf id b
  | .cond _ a b => regsOf id a ++ regsOf id b
  | .block _ a => regsOf id a
  | .loop a => regsOf id a
  | .scope a => regsOf id a
  | .rangeFunc _ _ a b => regsOf id a ++ regsOf id b
  | _ => []
def okC2 (skip : List Nat) (plans : Nat → Nat → Option Plan) (f : Nat) : Code → Bool
  | .region id ops true => match memN id skip with
    | true => true
    | false => match plans f id with
      | some pl => okR ops pl
      | none => true
  | .seq a b => match okC2 skip plans f a with | true => okC2 skip plans f b | false => false
  | .cond _ a b => match okC2 skip plans f a with | true => okC2 skip plans f b | false => false
  | .block _ a => okC2 skip plans f a
  | .loop a => okC2 skip plans f a
  | .scope a => okC2 skip plans f a
  | .rangeFunc _ _ a b => match okC2 skip plans f a with | true => okC2 skip plans f b | false => false
  | _ => true
theorem memN_mem {n : Nat} : ∀ {l : List Nat}, memN n l = true → n ∈ l
  | [], h => by cases h
  | x :: l, h => by
    unfold memN at h
    split at h
    · rename_i h1; rw [Nat.eq_of_beq_eq_true h1]; exact List.mem_cons_self
    · exact List.mem_cons_of_mem _ (memN_mem h)
theorem okC_of {skip : List Nat} {plans : Nat → Nat → Option Plan} {f : Nat} : ∀ (c : Code), okC2 skip plans f c = true → (∀ id ∈ skip, ∀ ops ∈ regsOf id c, ∃ pl, plans f id = some pl ∧ okR ops pl = true) → okC plans f c = true
  | .region id ops true, h, hs => by
    unfold okC2 at h
    unfold okC
    split at h
    · rename_i hm
      obtain ⟨pl, h1, h2⟩ := hs id (memN_mem hm) ops (by simp [regsOf])
      rw [h1]
      exact h2
    · exact h
  | .region id ops false, h, hs => by unfold okC; rfl
  | .seq a b, h, hs => by
    unfold okC2 at h
    unfold okC
    split at h
    · rename_i ha
      rw [okC_of a ha fun id hi ops ho => hs id hi ops (List.mem_append.2 (.inl ho))]
      exact okC_of b h fun id hi ops ho => hs id hi ops (List.mem_append.2 (.inr ho))
    · cases h
  | .cond _ a b, h, hs => by
    unfold okC2 at h
    unfold okC
    split at h
    · rename_i ha
      rw [okC_of a ha fun id hi ops ho => hs id hi ops (List.mem_append.2 (.inl ho))]
      exact okC_of b h fun id hi ops ho => hs id hi ops (List.mem_append.2 (.inr ho))
    · cases h
  | .rangeFunc _ _ a b, h, hs => by
    unfold okC2 at h
    unfold okC
    split at h
    · rename_i ha
      rw [okC_of a ha fun id hi ops ho => hs id hi ops (List.mem_append.2 (.inl ho))]
      exact okC_of b h fun id hi ops ho => hs id hi ops (List.mem_append.2 (.inr ho))
    · cases h
  | .block _ a, h, hs => by unfold okC2 at h; unfold okC; exact okC_of a h hs
  | .loop a, h, hs => by unfold okC2 at h; unfold okC; exact okC_of a h hs
  | .scope a, h, hs => by unfold okC2 at h; unfold okC; exact okC_of a h hs
  | .skip, _, _ | .label _, _, _ | .exit _, _, _ | .ret, _, _ | .goto _, _, _ | .refuse _, _, _ => by unfold okC; rfl
section
variable {P : Program} {plans : Nat → Nat → Option Plan}
def bodyOf (P : Program) (f : Nat) : Code := match P.funcs[f]? with
  | some fn => match fn.body with
    | some c => c
    | none => .skip
  | none => .skip
def partOk (P : Program) (f id : Nat) (F : PF) (fuel : Nat) (listed : List Bool) (p : Plan) : Bool := (regsOf id (bodyOf P f)).all fun ops => coversO F ops fuel listed.toArray p
def wholeOk (P : Program) (f id : Nat) (F : PF) (p : Plan) : Bool := (regsOf id (bodyOf P f)).all fun ops => Region.noSelect ops && coversO F ops ops.size (Array.replicate ops.size false) p
def AllOk (P : Program) (f id : Nat) (F : PF) : Prop := ∀ x ∈ F, ∀ ops ∈ regsOf id (bodyOf P f), covers .any ops x.1 x.2.1.toArray x.2.2 = true
theorem allOk_nil {f id : Nat} : AllOk P f id [] := fun x hx => by cases hx
theorem allOk_cons {f id fuel : Nat} {F : PF} {listed : List Bool} {p : Plan} (hF : AllOk P f id F) (h : partOk P f id F fuel listed p = true) : AllOk P f id ((fuel, listed, p) :: F) := by
  intro x hx ops ho
  rcases List.mem_cons.1 hx with rfl | hx
  · unfold partOk at h
    rw [List.all_eq_true] at h
    exact coversO_spec (fun y hy => hF y hy ops ho) _ _ _ (h ops ho)
  · exact hF x hx ops ho
theorem whole_ok {f id : Nat} {F : PF} {p : Plan} (hF : AllOk P f id F) (h : wholeOk P f id F p = true) : ∀ ops ∈ regsOf id (bodyOf P f), okR ops p = true := by
  intro ops ho
  unfold wholeOk at h
  rw [List.all_eq_true] at h
  have := h ops ho
  rw [Bool.and_eq_true] at this
  unfold okR
  rw [this.1]
  exact coversO_spec (fun y hy => hF y hy ops ho) _ _ _ this.2
theorem okB_of {f : Nat} {skip : List Nat} (h : okC2 skip plans f (bodyOf P f) = true) (hs : ∀ id ∈ skip, ∀ ops ∈ regsOf id (bodyOf P f), ∃ pl, plans f id = some pl ∧ okR ops pl = true) : okB P plans f = true := by
  have := okC_of (bodyOf P f) h hs
  unfold okB
  unfold bodyOf at this
  split
  · rename_i fn hf
    simp only [hf] at this
    split
    · rename_i c hc
      simp only [hc] at this
      exact this
    · rfl
  · rfl
end
end Go.Proofs.YtfoabgljfikklaaGreatDoor.V
