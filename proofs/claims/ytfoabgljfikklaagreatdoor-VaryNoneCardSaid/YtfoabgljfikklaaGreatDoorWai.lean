/-
  The run of an operation that only computes is right: what it reckons is what the operation yields in every world that it stands for. No condition: these are rules over any program.
-/
import Derived.Test.YtfoabgljfikklaaGreatDoorWah
import Derived.Laws.StructEq
import Derived.Test.YtfoabgljfikklaaGreatDoorWaf
set_option linter.unusedVariables false
set_option linter.unusedSimpArgs false
namespace Go.Proofs.YtfoabgljfikklaaGreatDoor.V
section
variable {r : Rho} {e : Env} {T : Tr AV}
theorem rel_b [Sig] {x : Bool} {A : Value} (h : Rel r (.b x) A) : A = .bool x := by unfold Rel at h; exact h
theorem rel_i [Sig] {k : IntKind} {x : Int} {A : Value} (h : Rel r (.i k x) A) : A = .int k x := by unfold Rel at h; exact h
theorem rel_s [Sig] {l : List Nat} {A : Value} (h : Rel r (.s l) A) : A = str (l.map UInt8.ofNat) ∧ ∀ x ∈ l, x < 256 := by unfold Rel at h; exact h
theorem rel_p0 [Sig] {A : Value} (h : Rel r .p0 A) : A = .pointer none := by unfold Rel at h; exact h
theorem rel_sl0 [Sig] {A : Value} (h : Rel r .sl0 A) : A = .slice none 0 0 := by unfold Rel at h; exact h
theorem rel_se [Sig] {A : Value} (h : Rel r .se A) : ∃ a c, A = .slice (some a) 0 c := by unfold Rel at h; exact h
theorem rel_ez [Sig] {b o d x : Nat} {c : Option Nat} {A : Value} (h : Rel r (.ez b o d x c) A) : ∃ B K, r b = some (B, K) ∧ A = .slice (some ⟨B, if c.getD (K - x) = 0 then o else o + d, none⟩) 0 (c.getD (K - x)) := by unfold Rel at h; exact h
theorem rel_p [Sig] {b o : Nat} {A : Value} (h : Rel r (.p b o) A) : ∃ B K, r b = some (B, K) ∧ A = .pointer (some ⟨B, o, none⟩) := by unfold Rel at h; exact h
theorem rel_sl [Sig] {b o x n : Nat} {c : Option Nat} {A : Value} (h : Rel r (.sl b o x n c) A) : ∃ B K, r b = some (B, K) ∧ A = .slice (some ⟨B, o, none⟩) n (c.getD (K - x)) ∧ n ≤ c.getD (K - x) := by unfold Rel at h; exact h
theorem rel_f [Sig] {f : Nat} {cs : List AV} {A : Value} (h : Rel r (.f f cs) A) : ∃ Cs, A = .func (.func f) #[] Cs.toArray ∧ RelL r cs Cs := by unfold Rel at h; exact h
theorem rel_fb [Sig] {f : Nat} {fs cs : List AV} {A : Value} (h : Rel r (.fb f fs cs) A) : ∃ Fs Cs, A = .func (.func f) Fs.toArray Cs.toArray ∧ RelL r fs Fs ∧ RelL r cs Cs := by unfold Rel at h; exact h
theorem mk_fb [Sig] {f : Nat} {fs cs : List AV} {Fs Cs : List Value} (h : RelL r fs Fs) (k : RelL r cs Cs) : Rel r (.fb f fs cs) (.func (.func f) Fs.toArray Cs.toArray) := by unfold Rel; exact ⟨Fs, Cs, rfl, h, k⟩
theorem rel_g [Sig] {l : List AV} {A : Value} (h : Rel r (.g l) A) : ∃ L, A = .agg L.toArray ∧ RelL r l L := by unfold Rel at h; exact h
theorem rel_t [Sig] {l : List AV} {A : Value} (h : Rel r (.t l) A) : ∃ L, A = .tuple L.toArray ∧ RelL r l L := by unfold Rel at h; exact h
theorem mk_b [Sig] (x : Bool) : Rel r (.b x) (.bool x) := by unfold Rel; rfl
theorem mk_i [Sig] (k : IntKind) (x : Int) : Rel r (.i k x) (.int k x) := by unfold Rel; rfl
theorem mk_s [Sig] {l : List Nat} (h : ∀ x ∈ l, x < 256) : Rel r (.s l) (str (l.map UInt8.ofNat)) := by unfold Rel; exact ⟨rfl, h⟩
theorem mk_g [Sig] {l : List AV} {L : List Value} (h : RelL r l L) : Rel r (.g l) (.agg L.toArray) := by unfold Rel; exact ⟨L, rfl, h⟩
theorem mk_t [Sig] {l : List AV} {L : List Value} (h : RelL r l L) : Rel r (.t l) (.tuple L.toArray) := by unfold Rel; exact ⟨L, rfl, h⟩
theorem mk_p [Sig] {b o B K : Nat} (h : r b = some (B, K)) : Rel r (.p b o) (.pointer (some ⟨B, o, none⟩)) := by unfold Rel; exact ⟨B, K, h, rfl⟩
theorem mk_sl [Sig] {b o x n B K : Nat} {c : Option Nat} (h : r b = some (B, K)) (hn : n ≤ c.getD (K - x)) : Rel r (.sl b o x n c) (.slice (some ⟨B, o, none⟩) n (c.getD (K - x))) := by unfold Rel; exact ⟨B, K, h, rfl, hn⟩
theorem mk_sl0 [Sig] : Rel r .sl0 (.slice none 0 0) := by unfold Rel; rfl
theorem mk_f [Sig] {f : Nat} {cs : List AV} {Cs : List Value} (h : RelL r cs Cs) : Rel r (.f f cs) (.func (.func f) #[] Cs.toArray) := by unfold Rel; exact ⟨Cs, rfl, h⟩
theorem avC_rel [Sig] : ∀ {v : Value} {a : AV}, avC v = some a → Rel r a v := by
  intro v a h
  unfold avC at h
  split at h
  all_goals try (cases h; first | exact mk_b _ | exact mk_i _ _ | (unfold Rel; rfl) | done)
  · cases h
    rename_i s
    have e1 : List.map UInt8.ofNat (s.data.toList.map (fun (x : UInt8) => x.toNat)) = s.data.toList := by simp [List.map_map, Function.comp_def]
    unfold Rel
    refine ⟨?_, fun x hx => ?_⟩
    · rw [e1]; cases s; rfl
    · obtain ⟨y, _, rfl⟩ := List.mem_map.1 hx; exact UInt8.toNat_lt y
  · split at h
    · cases h
      rename_i f fs cs h1 h2
      unfold Rel
      refine ⟨[], ?_, RelL.nil r⟩
      congr 1
      · exact Array.toList_inj.1 (by simpa using h1)
      · exact Array.toList_inj.1 (by simpa using h2)
    · cases h
theorem avCs_rel [Sig] : ∀ {l : List Value} {m : List AV}, avCs l = some m → RelL r m l
  | [], m, h => by simp [avCs] at h; subst h; exact RelL.nil r
  | v :: l, m, h => by
    simp only [avCs] at h
    split at h
    · rename_i a n h1 h2
      cases h
      exact RelL.cons (avC_rel h1) (avCs_rel h2)
    · cases h
theorem av_rel [Sig] (hE : EnvR r e T) {x : Operand} {a : AV} (h : av T x = some a) : ∃ A, ev e x = some A ∧ Rel r a A := by
  cases x with
  | tmp t => exact hE t a h
  | const v => exact ⟨v, rfl, avC_rel h⟩
  | func f => simp [av] at h; subst h; exact ⟨_, rfl, mk_f (RelL.nil r)⟩
  | global g => cases h
theorem avs_rel [Sig] (hE : EnvR r e T) : ∀ {xs : List Operand} {l : List AV}, avs T xs = some l → ∃ L, evs e xs = some L ∧ RelL r l L
  | [], l, h => by simp [avs] at h; subst h; exact ⟨[], rfl, RelL.nil r⟩
  | x :: xs, l, h => by
    simp only [avs] at h
    split at h
    · rename_i a m h1 h2
      cases h
      obtain ⟨A, k1, k2⟩ := av_rel hE h1
      obtain ⟨M, k3, k4⟩ := avs_rel hE h2
      exact ⟨A :: M, by simp [evs, k1, k3], RelL.cons k2 k4⟩
    · cases h
theorem wanted_rel [Sig] (hE : EnvR r e T) {ops : Array Oper} {o : Oper} {b : Bool} (h : wantedA ops T o = some b) : wantedE ops e o = some b := by
  unfold wantedA at h
  unfold wantedE
  cases hg : o.guard with
  | none => simpa [hg] using h
  | some gw =>
    obtain ⟨j, want⟩ := gw
    simp only [hg] at h ⊢
    cases hj : ops[j]? with
    | none => simp [hj] at h
    | some oj =>
      simp only [hj] at h ⊢
      cases ht : oj.dst with
      | none => simp [ht] at h
      | some t =>
        simp only [ht] at h ⊢
        cases hl : T.get t with
        | none => simp [hl] at h
        | some v =>
          obtain ⟨A, k1, k2⟩ := hE t v hl
          simp only [hl] at h
          rw [k1]
          cases v with
          | b x => rw [rel_b k2]; exact h
          | t l => obtain ⟨L, rfl, _⟩ := rel_t k2; exact h
          | _ => cases h
theorem cellsAt_rel [Sig] {l m : List AV} {L : List Value} {o n : Nat} (hL : RelL r l L) (h : cellsAt l o n = some m) : RelL r m ((L.drop o).take n) ∧ m.length = n ∧ o + n ≤ l.length := by
  unfold cellsAt at h
  split at h
  · rename_i hb
    cases h
    have := Nat.le_of_ble_eq_true hb
    exact ⟨(hL.drop o).take n, by simp; omega, this⟩
  · cases h
theorem cellsAt_len {l m : List AV} {o n : Nat} (h : cellsAt l o n = some m) : m.length = n := by
  unfold cellsAt at h
  split at h
  · rename_i hb
    have := Nat.le_of_ble_eq_true hb
    cases h
    simp
    omega
  · cases h
theorem putAt_rel [Sig] {l vs m : List AV} {L Vs : List Value} {o : Nat} (hL : RelL r l L) (hV : RelL r vs Vs) (h : putAt l o vs = some m) : RelL r m (L.take o ++ Vs ++ L.drop (o + Vs.length)) ∧ o + vs.length ≤ l.length := by
  unfold putAt at h
  split at h
  · rename_i hb
    cases h
    rw [← hV.length]
    exact ⟨((hL.take o).app hV).app (hL.drop _), Nat.le_of_ble_eq_true hb⟩
  · cases h
theorem intEq_eq (a b : Int) : intEq a b = decide (a = b) := by
  cases a with
  | ofNat a =>
    cases b with
    | ofNat b =>
      show Nat.beq a b = _
      cases h : Nat.beq a b with
      | true => rw [Nat.eq_of_beq_eq_true h]; simp
      | false => exact (decide_eq_false (fun h' => Nat.ne_of_beq_eq_false h (Int.ofNat.inj h'))).symm
    | negSucc b => rfl
  | negSucc a =>
    cases b with
    | ofNat b => rfl
    | negSucc b =>
      show Nat.beq a b = _
      cases h : Nat.beq a b with
      | true => rw [Nat.eq_of_beq_eq_true h]; simp
      | false => exact (decide_eq_false (fun h' => Nat.ne_of_beq_eq_false h (Int.negSucc.inj h'))).symm
theorem natsEq_eq : ∀ (a b : List Nat), natsEq a b = decide (a = b)
  | [], [] => by simp [natsEq]
  | [], b :: s => by simp [natsEq]
  | a :: l, [] => by simp [natsEq]
  | a :: l, b :: s => by
    unfold natsEq
    cases h : Nat.beq a b with
    | true =>
      have := Nat.eq_of_beq_eq_true h
      subst this
      simp [natsEq_eq l s]
    | false =>
      have := Nat.ne_of_beq_eq_false h
      simp [this]
theorem strN_inj {a b : List Nat} (ha : ∀ x ∈ a, x < 256) (hb : ∀ x ∈ b, x < 256) : (⟨(a.map UInt8.ofNat).toArray⟩ : ByteArray) = ⟨(b.map UInt8.ofNat).toArray⟩ ↔ a = b := by
  constructor
  · intro h
    have h1 := congrArg (fun s => s.data.toList) h
    simp only [List.toList_toArray] at h1
    have h2 := congrArg (List.map UInt8.toNat) h1
    simp only [List.map_map] at h2
    have key : ∀ l : List Nat, (∀ x ∈ l, x < 256) → l.map (UInt8.toNat ∘ UInt8.ofNat) = l := by
      intro l hl
      conv => rhs; rw [← List.map_id l]
      refine List.map_congr_left fun x hx => ?_
      simp [Function.comp, UInt8.toNat_ofNat', Nat.mod_eq_of_lt (hl x hx)]
    rwa [key a ha, key b hb] at h2
  · rintro rfl; rfl
theorem strLess_eq : ∀ {a b : List Nat}, (∀ x ∈ a, x < 256) → (∀ x ∈ b, x < 256) → Op.bytesLess (a.map UInt8.ofNat) (b.map UInt8.ofNat) = strLess a b
  | [], [], _, _ => by simp [strLess, Op.bytesLess]
  | _ :: _, [], _, _ => by simp [strLess, Op.bytesLess]
  | [], _ :: _, _, _ => by simp [strLess, Op.bytesLess]
  | x :: a, y :: b, ha, hb => by
    have h1 : x < 256 := ha x List.mem_cons_self
    have h2 : y < 256 := hb y List.mem_cons_self
    have ih := strLess_eq (fun z hz => ha z (List.mem_cons_of_mem _ hz)) (fun z hz => hb z (List.mem_cons_of_mem _ hz))
    have e1 : (UInt8.ofNat x < UInt8.ofNat y) ↔ x < y := by
      rw [UInt8.lt_iff_toNat_lt]; simp [UInt8.toNat_ofNat', Nat.mod_eq_of_lt h1, Nat.mod_eq_of_lt h2]
    have e2 : (UInt8.ofNat x = UInt8.ofNat y) ↔ x = y := by
      rw [← UInt8.toNat_inj]; simp [UInt8.toNat_ofNat', Nat.mod_eq_of_lt h1, Nat.mod_eq_of_lt h2]
    simp only [List.map_cons, Op.bytesLess, strLess, ih]
    cases hlt : Nat.blt x y with
    | true =>
      have : x < y := Nat.le_of_ble_eq_true hlt
      simp [e1, this]
    | false =>
      have hn : ¬ x < y := fun h => by
        have : Nat.blt x y = true := Nat.ble_eq_true_of_le h
        rw [this] at hlt; cases hlt
      cases heq : Nat.beq x y with
      | true =>
        have := Nat.eq_of_beq_eq_true heq
        subst this
        simp [e1, hn]
      | false =>
        have := Nat.ne_of_beq_eq_false heq
        simp [e1, e2, hn, this]
theorem kindEq_eq {a b : IntKind} (h : kindEq a b = true) : a = b := by cases a <;> cases b <;> first | rfl | cases h
end
section
variable {P : Program} {ops : Array Oper} {Q : Exit → Act → World → Prop} {S : World → Prop} {n : Nat}
variable {i : Nat} {p : Plan} {e : Env} {w : World} {k : Kd} {dst : Option Tmp} {ty : TypeId} {pos : String} {aft : Array Edge} {g : Option (Nat × Bool)} {r : Rho} {T : Tr AV}
theorem wrap_small {k : IntKind} {m : Nat} (h : m < 2 ^ (k.bits - 1)) : k.wrap (m : Int) = (m : Int) := by
  have hb : 2 ^ (k.bits - 1) ≤ 2 ^ k.bits := Nat.pow_le_pow_right (by omega) (by omega)
  have h1 : (m : Int) % (2 ^ k.bits : Int) = (m : Int) := Int.emod_eq_of_lt (by omega) (by exact_mod_cast Nat.lt_of_lt_of_le h hb)
  have h2 : ¬ ((m : Int) ≥ (2 ^ (k.bits - 1) : Int)) := by
    have : (m : Int) < (2 ^ (k.bits - 1) : Int) := by exact_mod_cast h
    omega
  simp only [IntKind.wrap, h1, h2, decide_false, Bool.and_false]
  rfl
theorem run_bitsS {P : Program} {w : World} (k : IntKind) (t : TypeId) (a b : Nat) (ha : a < 2 ^ (k.bits - 1)) (hb : b < 2 ^ (k.bits - 1)) :
    (binOp .and t (.int k a) (.int k b)).run P w = .ok (.int k (a &&& b : Nat)) w ∧ (binOp .or t (.int k a) (.int k b)).run P w = .ok (.int k (a ||| b : Nat)) w ∧ (binOp .xor t (.int k a) (.int k b)).run P w = .ok (.int k (a ^^^ b : Nat)) w := by
  have hp : 2 ^ (k.bits - 1) ≤ 2 ^ k.bits := Nat.pow_le_pow_right (by omega) (by omega)
  have ha' : a < 2 ^ k.bits := Nat.lt_of_lt_of_le ha hp
  have hb' : b < 2 ^ k.bits := Nat.lt_of_lt_of_le hb hp
  have x1 : (BitVec.ofInt k.bits (a : Int) &&& BitVec.ofInt k.bits (b : Int)).toNat = a &&& b := by
    simp [Nat.mod_eq_of_lt ha', Nat.mod_eq_of_lt hb']
  have x2 : (BitVec.ofInt k.bits (a : Int) ||| BitVec.ofInt k.bits (b : Int)).toNat = a ||| b := by
    simp [Nat.mod_eq_of_lt ha', Nat.mod_eq_of_lt hb']
  have x3 : (BitVec.ofInt k.bits (a : Int) ^^^ BitVec.ofInt k.bits (b : Int)).toNat = a ^^^ b := by
    simp [Nat.mod_eq_of_lt ha', Nat.mod_eq_of_lt hb']
  refine ⟨?_, ?_, ?_⟩
  · simp only [binOp, Op.intBits, ne_eq, not_true_eq_false, if_false, x1, wrap_small (Nat.and_lt_two_pow a hb)]; rfl
  · simp only [binOp, Op.intBits, ne_eq, not_true_eq_false, if_false, x2, wrap_small (Nat.or_lt_two_pow ha hb)]; rfl
  · simp only [binOp, Op.intBits, ne_eq, not_true_eq_false, if_false, x3, wrap_small (Nat.xor_lt_two_pow ha hb)]; rfl
theorem beq_bytes (a b : ByteArray) : (a == b) = decide (a = b) := by
  rw [beq_toListBytes, Bool.beq_eq_decide_eq]
  simp only [toList_iff]
theorem part_rel [Sig] {agg : Bool} {part : List AV} {v : AV} {L : List Value} (h : partA agg part = some v) (hL : RelL r part L) :
    ∃ V, Rel r v V ∧ V = (match agg with | true => Value.agg L.toArray | false => L.headD undef) ∧ (agg = false → L = [V]) := by
  cases agg with
  | true => simp only [partA, Option.some.injEq] at h; subst h; exact ⟨_, mk_g hL, rfl, fun h => by cases h⟩
  | false =>
    match part, h, hL with
    | [u], h, hL =>
      simp only [partA, Option.some.injEq] at h
      subst h
      obtain ⟨A, M, rfl, h2, h3⟩ := hL.of_cons
      have := h3.of_nil
      subst this
      exact ⟨A, h2, rfl, fun _ => rfl⟩
theorem part_run [Sig] {t : TypeId} {agg : Bool} {size off : Nat} {xs px : List AV} {a : AV} {L : List Value} (ht : tyB P t = some (agg, size)) (hL : RelL r xs L) (hp : cellsAt xs off size = some px) (ha : partA agg px = some a) :
    ∃ A, Rel r a A ∧ ∀ w, (part t L.toArray off).run P w = .ok A w := by
  obtain ⟨h1, h2, h3⟩ := cellsAt_rel hL hp
  obtain ⟨A, h4, h5, h6⟩ := part_rel ha h1
  have hf : TyF P t agg size := ⟨ht⟩
  refine ⟨A, h4, fun w => ?_⟩
  cases agg with
  | true =>
    subst h5
    simp only [part, Sem.run_bind, hf.isAgg, Result.andThen_ok, if_true, hf.sizeOf, Sem.run_pure]
    congr 2
    apply Array.toList_inj.1
    simp [List.take_drop]
  | false =>
    have h7 := h6 rfl
    have h8 : L[off]? = some A := by
      have : ((L.drop off).take size)[0]? = some A := by rw [h7]; rfl
      rw [List.getElem?_take] at this
      split at this
      · simpa using this
      · cases this
    simp only [part, Sem.run_bind, hf.isAgg, Result.andThen_ok, Bool.false_eq_true, if_false]
    simp [h8]
theorem opSame_eq {a b : BinOp} (h : opSame a b = true) : a = b := by cases a <;> cases b <;> first | rfl | cases h
theorem cmpFind_spec {op : BinOp} {c : Int} {b : Bool} : ∀ {fs : List (BinOp × Int × Bool)}, cmpFind op c fs = some b → (op, c, b) ∈ fs
  | [], h => by simp [cmpFind] at h
  | (o, d, z) :: r, h => by
    simp only [cmpFind] at h
    split at h
    · rename_i h1 h2
      have h1 := opSame_eq h1
      rw [intEq_eq] at h2
      have h2 := of_decide_eq_true h2
      cases h
      subst h1 h2
      exact List.mem_cons_self
    · exact List.mem_cons_of_mem _ (cmpFind_spec h)
theorem rel_oi' [Sig] {i : Nat} {k : IntKind} {fs : List (BinOp × Int × Bool)} {A : Value} (h : Rel r (.oi i k fs) A) : A = Sig.val i := by unfold Rel at h; exact h.1
theorem rel_oi [Sig] {i : Nat} {k : IntKind} {fs : List (BinOp × Int × Bool)} {A : Value} (h : Rel r (.oi i k fs) A) : ∃ n, A = .int k n ∧ A = Sig.val i ∧ ∀ x ∈ fs, cmpI x.1 n x.2.1 = some x.2.2 := by
  unfold Rel at h; obtain ⟨h1, n, h2, h3⟩ := h; exact ⟨n, h2, h1, h3⟩
theorem rel_os' [Sig] {i : Nat} {fs : List (BinOp × Int × Bool)} {A : Value} (h : Rel r (.os i fs) A) : A = Sig.val i := by unfold Rel at h; exact h.1
theorem rel_os [Sig] {i : Nat} {fs : List (BinOp × Int × Bool)} {A : Value} (h : Rel r (.os i fs) A) : ∃ l : List UInt8, A = str l ∧ A = Sig.val i ∧ ∀ x ∈ fs, cmpI x.1 l.length x.2.1 = some x.2.2 := by
  unfold Rel at h; obtain ⟨h1, l, h2, h3⟩ := h; exact ⟨l, h2, h1, h3⟩
theorem emptyB (l : List UInt8) : ((⟨l.toArray⟩ : ByteArray) = ⟨(([] : List Nat).map UInt8.ofNat).toArray⟩) ↔ (l.length : Int) = 0 := by
  constructor
  · intro h
    have := congrArg (fun s : ByteArray => s.data.toList.length) h
    simpa using this
  · intro h
    have : l = [] := List.eq_nil_of_length_eq_zero (by omega)
    subst this
    rfl
theorem rel_nf [Sig] {A : Value} (h : Rel r .nf A) : A = .nilFunc := by unfold Rel at h; exact h
theorem rel_m0 [Sig] {A : Value} (h : Rel r .m0 A) : A = .map none := by unfold Rel at h; exact h
theorem evEq_sound [Sig] : ∀ (m : Nat) {t : Nat} {x y : AV} {z : Bool} {X Y : Value}, evEq P m t x y = some z → Rel r x X → Rel r y Y → ∀ d, m ≤ d → ∀ w, (Op.equalIn d t X Y).run P w = .ok z w
  | 0, _, _, _, _, _, _, h, _, _, _, _, _ => by simp [evEq] at h
  | m + 1, t, x, y, z, X, Y, h, hX, hY, d, hd, w => by
    obtain ⟨d, rfl⟩ : ∃ d', d = d' + 1 := ⟨d - 1, by omega⟩
    have hd' : m ≤ d := by omega
    simp only [evEq] at h
    split at h
    · rename_i a b hu
      rw [rel_b hX, rel_b hY]
      cases h
      rw [run_equalIn_bool' w d t a b hu]
      cases a <;> cases b <;> rfl
    · rename_i q k a k2 b hu
      rw [rel_i hX, rel_i hY]
      split at h
      · rename_i hk
        have hk := kindEq_eq hk
        subst hk
        cases h
        rw [run_equalIn_int w d t k q a b hu, intEq_eq, Bool.beq_eq_decide_eq]
      · cases h
    · rename_i a b hu
      obtain ⟨rfl, h1⟩ := rel_s hX
      obtain ⟨rfl, h2⟩ := rel_s hY
      cases h
      have := run_equalIn_string (P := P) w d t ⟨(a.map UInt8.ofNat).toArray⟩ ⟨(b.map UInt8.ofNat).toArray⟩ hu
      rw [← beq_toListBytes, beq_bytes, decide_eq_decide.2 (strN_inj h1 h2), ← natsEq_eq] at this
      exact this
    · rename_i q hu
      rw [rel_p0 hX, rel_p0 hY]
      cases h
      simp [Op.equalIn, run_underlying hu]
    · rename_i q b o hu
      obtain ⟨B, K, _, rfl⟩ := rel_p hY
      rw [rel_p0 hX]
      cases h
      simp [Op.equalIn, run_underlying hu]
    · rename_i q b o hu
      obtain ⟨B, K, _, rfl⟩ := rel_p hX
      rw [rel_p0 hY]
      cases h
      simp [Op.equalIn, run_underlying hu]
    · rename_i fs xs ys hu
      obtain ⟨Lx, rfl, hLx⟩ := rel_g hX
      obtain ⟨Ly, rfl, hLy⟩ := rel_g hY
      split at h
      · rename_i hst hbl
        have hfo : P.fieldsOf t = fs := by simp [Program.fieldsOf, hu]
        rw [run_equalIn_struct w d t _ _ (by rw [hfo]; exact hu) hst, hfo]
        have key : ∀ (l : List Field) (z : Bool), noBlank l = true → evEqF P (evEq P m) xs ys l = some z → ∀ w, (Op.eqFields d Lx.toArray Ly.toArray l).run P w = .ok z w := by
          intro l
          induction l with
          | nil => intro z _ h w; simp only [evEqF, Option.some.injEq] at h; subst h; simp [Op.eqFields]
          | cons f l ih =>
            intro z hb h w
            simp only [noBlank] at hb
            split at hb
            · cases hb
            · rename_i hne
              have hne' : f.name ≠ "_" := by simpa using hne
              simp only [evEqF] at h
              split at h
              · rename_i agg size ht
                split at h
                · rename_i px py hpx hpy
                  split at h
                  · rename_i a b ha hb'
                    obtain ⟨A, hA1, hA2⟩ := part_run ht hLx hpx ha
                    obtain ⟨B, hB1, hB2⟩ := part_run ht hLy hpy hb'
                    have hrun : ∀ q, evEq P m f.type a b = some q → (Op.eqFields d Lx.toArray Ly.toArray (f :: l)).run P w = (if (!q) = true then pure false else Op.eqFields d Lx.toArray Ly.toArray l : Sem Bool).run P w := by
                      intro q hq
                      have := evEq_sound m hq hA1 hB1 d hd' w
                      simp only [Op.eqFields, if_pos hne', Sem.run_bind, hA2, hB2, Result.andThen_ok, this]
                    split at h
                    · rename_i hq
                      rw [hrun true hq]
                      simpa using ih z hb h w
                    · rename_i hq
                      cases h
                      rw [hrun false hq]
                      simp
                    · cases h
                  · cases h
                · cases h
              · cases h
        exact key _ _ hbl h w
      · cases h
    · rename_i q1 q2 q3 hu
      rw [rel_nf hX, rel_nf hY]
      cases h
      simp [Op.equalIn, run_underlying hu]
    · rename_i q1 q2 q3 f cs hu
      obtain ⟨Cs, rfl, _⟩ := rel_f hX
      rw [rel_nf hY]
      cases h
      simp [Op.equalIn, run_underlying hu]
    · rename_i q1 q2 q3 f fs cs hu
      obtain ⟨Fs, Cs, rfl, _⟩ := rel_fb hX
      rw [rel_nf hY]
      cases h
      simp [Op.equalIn, run_underlying hu]
    · rename_i q1 q2 hu
      rw [rel_m0 hX, rel_m0 hY]
      cases h
      simp [Op.equalIn, run_underlying hu]
    · rename_i q1 q2 b hu
      unfold Rel at hX
      obtain ⟨B, K, _, rfl⟩ := hX
      rw [rel_m0 hY]
      cases h
      simp [Op.equalIn, run_underlying hu]
    · rename_i q1 hu
      obtain ⟨a, c, rfl⟩ := rel_se hX
      rw [rel_sl0 hY]
      cases h
      simp [Op.equalIn, run_underlying hu]
    · rename_i hu
      obtain ⟨B, K, _, rfl⟩ := rel_ez hX
      rw [rel_sl0 hY]
      cases h
      simp [Op.equalIn, run_underlying hu]
    · rename_i q i k1 f1 j k2 f2 hu
      split at h
      · rename_i hij
        have hij := Nat.eq_of_beq_eq_true hij
        subst hij
        cases h
        obtain ⟨n, rfl, hv, _⟩ := rel_oi hX
        have hXY := (rel_oi' hY).trans hv.symm
        rw [hXY, run_equalIn_int w d t _ q n n hu]
        simp
      · cases h
    · rename_i i f1 j f2 hu
      split at h
      · rename_i hij
        have hij := Nat.eq_of_beq_eq_true hij
        subst hij
        cases h
        obtain ⟨l, rfl, hv, _⟩ := rel_os hX
        have hXY := (rel_os' hY).trans hv.symm
        rw [hXY]
        have := run_equalIn_string (P := P) w d t ⟨l.toArray⟩ ⟨l.toArray⟩ hu
        simpa [str] using this
      · cases h
    · rename_i q i k1 f1 k2 c hu
      split at h
      · rename_i b hk hf
        have hk := kindEq_eq hk
        subst hk
        cases h
        obtain ⟨n, rfl, _, hfs⟩ := rel_oi hX
        have h1 := hfs _ (cmpFind_spec hf)
        simp only [cmpI, Option.some.injEq] at h1
        rw [rel_i hY, run_equalIn_int w d t _ q n c hu, ← h1, Bool.beq_eq_decide_eq]
      · cases h
    · rename_i i f1 hu
      obtain ⟨l, rfl, _, hfs⟩ := rel_os hX
      obtain ⟨rfl, _⟩ := rel_s hY
      have h1 := hfs _ (cmpFind_spec h)
      simp only [cmpI, Option.some.injEq] at h1
      have := run_equalIn_string (P := P) w d t ⟨l.toArray⟩ ⟨(([] : List Nat).map UInt8.ofNat).toArray⟩ hu
      rw [← beq_toListBytes, beq_bytes, decide_eq_decide.2 (emptyB l), h1] at this
      exact this
    · cases h
theorem plainEq_cases [Sig] {t : TypeId} {x : AV} {X : Value} (h : plainEq P t x = true) (hX : Rel r x X) :
    (∃ L, X = .agg L ∧ P.eqGuardType P.depth t = false) ∨ (∃ f a c, X = .func f a c) ∨ X = .nilFunc ∨ (∃ b, X = .map b) ∨ (∃ a n c, X = .slice a n c) := by
  unfold plainEq at h
  split at h
  · split at h
    · rename_i hg
      obtain ⟨L, rfl, _⟩ := rel_g hX
      exact .inl ⟨_, rfl, hg⟩
    · cases h
  · obtain ⟨Cs, rfl, _⟩ := rel_f hX
    exact .inr (.inl ⟨_, _, _, rfl⟩)
  · obtain ⟨Fs, Cs, rfl, _⟩ := rel_fb hX
    exact .inr (.inl ⟨_, _, _, rfl⟩)
  · exact .inr (.inr (.inl (rel_nf hX)))
  · unfold Rel at hX
    obtain ⟨B, K, _, rfl⟩ := hX
    exact .inr (.inr (.inr (.inl ⟨_, rfl⟩)))
  · exact .inr (.inr (.inr (.inl ⟨_, rel_m0 hX⟩)))
  · obtain ⟨a, c, rfl⟩ := rel_se hX
    exact .inr (.inr (.inr (.inr ⟨_, _, _, rfl⟩)))
  · obtain ⟨B, K, _, rfl⟩ := rel_ez hX
    exact .inr (.inr (.inr (.inr ⟨_, _, _, rfl⟩)))
  · exact .inr (.inr (.inr (.inr ⟨_, _, _, rel_sl0 hX⟩)))
  · cases h
theorem plainEq_guard [Sig] {t : TypeId} {x : AV} {X Y : Value} (h : plainEq P t x = true) (hX : Rel r x X) (op : BinOp) (u v : Operand) (w : World) : (eqGuard op t u v X Y).run P w = .ok () w := by
  rcases plainEq_cases h hX with ⟨L, rfl, hg⟩ | ⟨f, a, c, rfl⟩ | rfl | ⟨b, rfl⟩ | ⟨a, n, c, rfl⟩
  · by_cases hY : ∃ M, Y = .agg M
    · obtain ⟨M, rfl⟩ := hY
      exact run_eqGuard_agg w op t u v L M hg
    · have : eqGuard op t u v (.agg L) Y = pure () := by
        cases Y <;> first | (cases op <;> rfl) | exact absurd ⟨_, rfl⟩ hY
      rw [this]; rfl
  · rw [eqGuard_at_func]; rfl
  · rw [eqGuard_at_nilFunc]; rfl
  · rw [eqGuard_at_map]; rfl
  · rw [eqGuard_at_slice]; rfl
theorem binOp_plain [Sig] {t : TypeId} {x : AV} {X Y : Value} {z : Bool} {w : World} (h : plainEq P t x = true) (hX : Rel r x X) (he : (Op.equalIn 10000 t X Y).run P w = .ok z w) :
    (binOp .eql t X Y).run P w = .ok (.bool z) w ∧ (binOp .neq t X Y).run P w = .ok (.bool (!z)) w := by
  rcases plainEq_cases h hX with ⟨L, rfl, hg⟩ | ⟨f, a, c, rfl⟩ | rfl | ⟨b, rfl⟩ | ⟨a, n, c, rfl⟩ <;>
    (constructor <;> simp only [binOp] <;> simp [Op.equal, Op.maxDepth, he])
def ordS (op : BinOp) (a b : List UInt8) : Option Bool := match op with
  | .lss => some (Op.bytesLess a b)
  | .leq => some (Op.bytesLess a b || a == b)
  | .gtr => some (!(Op.bytesLess a b || a == b))
  | .geq => some (!Op.bytesLess a b)
  | _ => none
theorem GO.strOrd [Fr] (hk : kOk k = true) {op : BinOp} {z : Bool} {t t2 : TypeId} {x y : Operand} {a b : ByteArray} (hw : wantedE ops e ⟨dst, .binOp op t x y t2, ty, pos, aft, g⟩ = some true) (hx : ev e x = some (.string a)) (hy : ev e y = some (.string b)) (hd : fits n dst = true)
    (hz : ordS op a.toList b.toList = some z) (h : GX P ops Q S n p (e.put dst (.bool z)) w) : GO P ops Q S n k i ⟨dst, .binOp op t x y t2, ty, pos, aft, g⟩ p e w := by
  cases op <;> simp only [ordS, Option.some.injEq] at hz <;> first | cases hz | skip
  all_goals
    exact GO.bin hk hw hx hy hd (fun w => rfl) (fun w => by simp [binOp, Op.stringOp, *]) h
theorem evBin_sound [Fr] [Sig] (hk : kOk k = true) (hE : EnvR r e T) {op : BinOp} {t t2 : TypeId} {x y : Operand} {a b v : AV} (hx : av T x = some a) (hy : av T y = some b) (h : evBin P op t a b = some v)
    (hw : wantedE ops e ⟨dst, .binOp op t x y t2, ty, pos, aft, g⟩ = some true) (hd : fits n dst = true)
    (hq : ∀ A, Rel r v A → GX P ops Q S n p (e.put dst A) w) : GO P ops Q S n k i ⟨dst, .binOp op t x y t2, ty, pos, aft, g⟩ p e w := by
  obtain ⟨A, hx1, hx2⟩ := av_rel hE hx
  obtain ⟨B, hy1, hy2⟩ := av_rel hE hy
  unfold evBin at h
  split at h
  · -- numbers
    rename_i ki a ki2 b
    rw [rel_i hx2] at hx1
    rw [rel_i hy2] at hy1
    split at h
    · split at h
      · rename_i b
        unfold evShift at h
        split at h
        · cases h
          exact GO.shl hk hw hx1 hy1 hd (Int.natCast_nonneg b) rfl (hq _ (mk_i _ _))
        · cases h
          exact GO.shr hk hw hx1 hy1 hd (Int.natCast_nonneg b) rfl (hq _ (mk_i _ _))
        · cases h
      · cases h
    · split at h
      · rename_i hke
        have := kindEq_eq hke
        subst this
        split at h
        · split at h
          · rename_i a b hsg
            split at h
            · rename_i ha hb
              have ha' : a < 2 ^ ki.bits := by have := ha; simp [Nat.blt] at this; omega
              have hb' : b < 2 ^ ki.bits := by have := hb; simp [Nat.blt] at this; omega
              have hsn : ki.signed = false := by revert hsg; cases ki <;> simp [signedB, IntKind.signed]
              unfold evBits at h
              split at h
              · cases h; exact GO.bits hk hw hx1 hy1 hd (fun w => run_and ki hsn t a b ha' hb') (hq _ (mk_i _ _))
              · cases h; exact GO.bits hk hw hx1 hy1 hd (fun w => run_or ki hsn t a b ha' hb') (hq _ (mk_i _ _))
              · cases h; exact GO.bits hk hw hx1 hy1 hd (fun w => run_xor ki hsn t a b ha' hb') (hq _ (mk_i _ _))
              · cases h
            · cases h
          · rename_i a b hsg
            split at h
            · rename_i ha hb
              have ha' : a < 2 ^ (ki.bits - 1) := Nat.le_of_ble_eq_true ha
              have hb' : b < 2 ^ (ki.bits - 1) := Nat.le_of_ble_eq_true hb
              unfold evBits at h
              split at h
              · cases h; exact GO.bits hk hw hx1 hy1 hd (fun w => (run_bitsS ki t a b ha' hb').1) (hq _ (mk_i _ _))
              · cases h; exact GO.bits hk hw hx1 hy1 hd (fun w => (run_bitsS ki t a b ha' hb').2.1) (hq _ (mk_i _ _))
              · cases h; exact GO.bits hk hw hx1 hy1 hd (fun w => (run_bitsS ki t a b ha' hb').2.2) (hq _ (mk_i _ _))
              · cases h
            · cases h
          · cases h
        · unfold evInt at h
          split at h
          · cases h; exact GO.add hk hw hx1 hy1 hd rfl (hq _ (mk_i _ _))
          · cases h; exact GO.sub hk hw hx1 hy1 hd rfl (hq _ (mk_i _ _))
          · cases h; exact GO.mul hk hw hx1 hy1 hd rfl (hq _ (mk_i _ _))
          · rw [intEq_eq] at h
            split at h
            · cases h
            · rename_i h0
              cases h; exact GO.quo hk hw hx1 hy1 hd (of_decide_eq_false h0) rfl (hq _ (mk_i _ _))
          · rw [intEq_eq] at h
            split at h
            · cases h
            · rename_i h0
              cases h; exact GO.rem hk hw hx1 hy1 hd (of_decide_eq_false h0) rfl (hq _ (mk_i _ _))
          · cases h; exact GO.lss hk hw hx1 hy1 hd (hq _ (mk_b _))
          · cases h; exact GO.leq hk hw hx1 hy1 hd (hq _ (mk_b _))
          · cases h; exact GO.gtr hk hw hx1 hy1 hd (hq _ (mk_b _))
          · cases h; exact GO.geq hk hw hx1 hy1 hd (hq _ (mk_b _))
          · cases h; rw [intEq_eq] at hq; exact GO.eql hk hw hx1 hy1 hd (hq _ (mk_b _))
          · cases h; rw [intEq_eq, ← decide_not] at hq; exact GO.neq hk hw hx1 hy1 hd (hq _ (mk_b _))
          · cases h
      · cases h
  · -- strings
    rename_i a b
    obtain ⟨e1, ha⟩ := rel_s hx2
    obtain ⟨e2, hb⟩ := rel_s hy2
    rw [e1] at hx1
    rw [e2] at hy1
    have hord : ∀ z, (match op with | .lss => some (strLess a b) | .leq => some (match strLess a b with | true => true | false => natsEq a b) | .gtr => some (match strLess a b with | true => false | false => !natsEq a b) | .geq => some (!strLess a b) | _ => none) = some z →
        ordS op (ByteArray.toList ⟨(a.map UInt8.ofNat).toArray⟩) (ByteArray.toList ⟨(b.map UInt8.ofNat).toArray⟩) = some z := by
      intro z hz
      have e3 := strLess_eq ha hb
      have e4 : (a.map UInt8.ofNat == b.map UInt8.ofNat) = natsEq a b := by
        rw [natsEq_eq, Bool.beq_eq_decide_eq, decide_eq_decide]
        rw [← strN_inj ha hb]
        constructor
        · intro h; rw [h]
        · intro h; simpa using congrArg (fun x => x.data.toList) h
      rw [← hz]
      cases op <;> simp only [ordS, ByteArray.toList_eq, e3, e4] <;> cases strLess a b <;> simp
    unfold evStr at h
    split at h
    · cases h; exact GO.strOrd hk hw hx1 hy1 hd (hord _ rfl) (hq _ (mk_b _))
    · cases h; exact GO.strOrd hk hw hx1 hy1 hd (hord _ rfl) (hq _ (mk_b _))
    · cases h; exact GO.strOrd hk hw hx1 hy1 hd (hord _ rfl) (hq _ (mk_b _))
    · cases h; exact GO.strOrd hk hw hx1 hy1 hd (hord _ rfl) (hq _ (mk_b _))
    · cases h
      refine GO.strEql hk hw hx1 hy1 hd (hq _ ?_)
      rw [natsEq_eq, decide_eq_decide.2 (strN_inj ha hb)]
      exact mk_b _
    · cases h
      refine GO.strNeq hk hw hx1 hy1 hd (hq _ ?_)
      rw [natsEq_eq, ← decide_not, decide_eq_decide.2 (not_congr (strN_inj ha hb))]
      exact mk_b _
    · split at h
      · rename_i hle
        have hle' := Nat.le_of_ble_eq_true hle
        cases h
        refine GO.strAdd hk hw hx1 hy1 hd (by simp [ByteArray.size]; omega) (hq _ ?_)
        have e3 : (⟨(a.map UInt8.ofNat).toArray⟩ : ByteArray) ++ ⟨(b.map UInt8.ofNat).toArray⟩ = ⟨((a ++ b).map UInt8.ofNat).toArray⟩ := by
          apply ByteArray.ext
          simp
        rw [e3]
        refine mk_s fun x hx => ?_
        rcases List.mem_append.1 hx with hx | hx
        · exact ha x hx
        · exact hb x hx
      · cases h
    · cases h
  · -- bools
    rw [rel_b hx2] at hx1
    rw [rel_b hy2] at hy1
    split at h
    · rename_i hu
      haveI : UnF P t .bool := ⟨hu⟩
      split at h
      · cases h; exact GO.boolEql hk hw hx1 hy1 hd (hq _ (mk_b _))
      · cases h; exact GO.boolNeq hk hw hx1 hy1 hd (hq _ (mk_b _))
      · cases h
    · cases h
  · rw [rel_p0 hx2] at hx1
    rw [rel_p0 hy2] at hy1
    split at h
    · rename_i el hu
      haveI : UnF P t (.pointer el) := ⟨hu⟩
      unfold evNil at h
      split at h
      · cases h; exact GO.ptrEqlNil hk hw hx1 hy1 hd (hq _ (mk_b _))
      · cases h; exact GO.ptrNeqNil hk hw hx1 hy1 hd (hq _ (mk_b _))
      · cases h
    · cases h
  · obtain ⟨B', K', _, e1⟩ := rel_p hx2
    rw [e1] at hx1
    rw [rel_p0 hy2] at hy1
    split at h
    · rename_i el hu
      haveI : UnF P t (.pointer el) := ⟨hu⟩
      unfold evNil at h
      split at h
      · cases h; exact GO.ptrEqlNil hk hw hx1 hy1 hd (hq _ (mk_b _))
      · cases h; exact GO.ptrNeqNil hk hw hx1 hy1 hd (hq _ (mk_b _))
      · cases h
    · cases h
  · rw [rel_sl0 hx2] at hx1
    rw [rel_sl0 hy2] at hy1
    split at h
    · rename_i el hu
      haveI : UnF P t (.slice el) := ⟨hu⟩
      unfold evNil at h
      split at h
      · cases h; exact GO.slcEqlNil hk hw hx1 hy1 hd (hq _ (mk_b _))
      · cases h; exact GO.slcNeqNil hk hw hx1 hy1 hd (hq _ (mk_b _))
      · cases h
    · cases h
  · obtain ⟨B', K', _, e1, _⟩ := rel_sl hx2
    rw [e1] at hx1
    rw [rel_sl0 hy2] at hy1
    split at h
    · rename_i el hu
      haveI : UnF P t (.slice el) := ⟨hu⟩
      unfold evNil at h
      split at h
      · cases h; exact GO.slcEqlNil hk hw hx1 hy1 hd (hq _ (mk_b _))
      · cases h; exact GO.slcNeqNil hk hw hx1 hy1 hd (hq _ (mk_b _))
      · cases h
    · cases h
  · split at h
    · rename_i hp1 hp2
      split at h
      · rename_i z hz
        cases h
        exact GO.bin hk hw hx1 hy1 hd (fun w => plainEq_guard hp1 hx2 _ _ _ w) (fun w => (binOp_plain hp1 hx2 (evEq_sound 8 hz hx2 hy2 10000 (by omega) w)).1) (hq _ (mk_b _))
      · cases h
    · rename_i hp1 hp2
      split at h
      · rename_i z hz
        cases h
        refine GO.bin hk hw hx1 hy1 hd (fun w => plainEq_guard hp1 hx2 _ _ _ w) (fun w => (binOp_plain hp1 hx2 (evEq_sound 8 hz hx2 hy2 10000 (by omega) w)).2) (hq _ ?_)
        cases z <;> exact mk_b _
      · cases h
    · cases h
end
end Go.Proofs.YtfoabgljfikklaaGreatDoor.V
