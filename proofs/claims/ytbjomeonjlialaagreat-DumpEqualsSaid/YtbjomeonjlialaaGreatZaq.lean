/-
  The run of an operation that only computes, on values that are known by terms, is right. No condition: these are rules over any program.
-/
import Derived.Test.YtbjomeonjlialaaGreatZak
set_option linter.unusedVariables false
set_option linter.unusedSimpArgs false
namespace Go.Proofs.YtbjomeonjlialaaGreat.V.S
theorem inKB_spec {k : IntKind} {m : Int} (h : inKB k m = true) : InK k m := by
  cases k <;> simpa [inKB, InK] using h
theorem InK_wrap (k : IntKind) (m : Int) : InK k (k.wrap m) := by
  cases k <;> simp [IntKind.wrap, IntKind.bits, IntKind.signed, InK] <;> first | (split <;> omega) | omega
theorem InK_tmod {k : IntKind} {a : Int} (h : InK k a) (b : Int) : InK k (a.tmod b) := by
  have key : (0 ≤ a → 0 ≤ a.tmod b ∧ a.tmod b ≤ a) ∧ (a ≤ 0 → a ≤ a.tmod b ∧ a.tmod b ≤ 0) := by
    have h1 : (a.tmod b).natAbs = a.natAbs % b.natAbs := Int.natAbs_tmod a b
    have h2 : a.natAbs % b.natAbs ≤ a.natAbs := Nat.mod_le _ _
    constructor
    · intro h0
      have := Int.tmod_nonneg b h0
      omega
    · intro h0
      have h3 : 0 ≤ (-a).tmod b := Int.tmod_nonneg b (by omega)
      rw [Int.neg_tmod] at h3
      omega
  cases k <;> simp only [InK] at h ⊢ <;> omega
theorem InK_shr {k : IntKind} {a : Int} (h : InK k a) (m : Nat) : InK k (a / 2 ^ m) := by
  have hp : (0 : Int) < 2 ^ m := Int.pow_pos (by omega)
  have key : (0 ≤ a → 0 ≤ a / 2 ^ m ∧ a / 2 ^ m ≤ a) ∧ (a < 0 → a ≤ a / 2 ^ m ∧ a / 2 ^ m < 0) := by
    constructor
    · intro h0
      exact ⟨Int.ediv_nonneg h0 (by omega), Int.ediv_le_self _ h0⟩
    · intro h0
      refine ⟨(Int.le_ediv_iff_mul_le hp).2 ?_, Int.ediv_neg_of_neg_of_pos h0 hp⟩
      have : a * 2 ^ m ≤ a * 1 := Int.mul_le_mul_of_nonpos_left (by omega) (by omega)
      omega
  cases k <;> simp only [InK] at h ⊢ <;> omega
theorem wrapU' {k : IntKind} (hs : k.signed = false) {m : Nat} (h : m < 2 ^ k.bits) : k.wrap (m : Int) = (m : Int) := by
  refine wrapIn ?_
  cases k <;> simp [IntKind.signed, IntKind.bits] at hs h <;> simp only [InK] <;> omega
theorem InK_nat {k : IntKind} (hs : k.signed = false) {a : Int} (h : InK k a) : ∃ m : Nat, a = m ∧ m < 2 ^ k.bits := by
  refine ⟨a.toNat, ?_, ?_⟩
  all_goals (cases k <;> simp [IntKind.signed, IntKind.bits] at hs ⊢ <;> simp only [InK] at h <;> omega)
section
variable {X : Type} [Spec X] {r : Rho X}
def Tru (a : Val X) (c : SE) : Prop := ∃ d, den a c = some d ∧ d.tr = true
def Fls (a : Val X) (c : SE) : Prop := ∃ d, den a c = some d ∧ d.tr = false
theorem Tru.mono {r' : Rho X} (h : r.le r') {c : SE} (k : Tru r.at' c) : Tru r'.at' c := let ⟨d, h1, h2⟩ := k; ⟨d, den_mono h.a h1, h2⟩
theorem Tru.cm {o : BinOp} {a b : SE} {x y : D X} (h : Tru r.at' (.op (.cm o) a b)) (ha : den r.at' a = some x) (hb : den r.at' b = some y) : (cmpI o x.int y.int).getD false = true := by
  obtain ⟨d, h1, h2⟩ := h
  rw [den_op ha hb] at h1
  cases h1
  exact h2
theorem Tru.rg {k : IntKind} {a : SE} {x : D X} (h : Tru r.at' (.u1 (.rg k) a)) (ha : den r.at' a = some x) : InK k x.int := by
  obtain ⟨d, h1, h2⟩ := h
  rw [den_u1 ha] at h1
  cases h1
  exact inKB_spec h2
theorem needRg_spec {k : IntKind} {e : SE} {x : D X} (h : ∀ c ∈ needRg k e, Tru r.at' c) (he : den r.at' e = some x) : InK k x.int := by
  unfold needRg at h
  split at h
  · split at h
    · rename_i hk
      have hk := kindEq_eq hk
      subst hk
      obtain ⟨u, v, _, _, rfl⟩ := den_op_inv he
      exact InK_wrap _ _
    · exact (h _ (List.mem_singleton.2 rfl)).rg he
  · split at h
    · rename_i hk
      have hk := kindEq_eq hk
      subst hk
      obtain ⟨u, v, _, _, rfl⟩ := den_op_inv he
      exact InK_wrap _ _
    · exact (h _ (List.mem_singleton.2 rfl)).rg he
  · split at h
    · rename_i hk
      cases he
      exact inKB_spec hk
    · exact (h _ (List.mem_singleton.2 rfl)).rg he
  · exact (h _ (List.mem_singleton.2 rfl)).rg he
theorem needNz_spec {e : SE} {x : D X} (h : ∀ c ∈ needNz e, Tru r.at' c) (he : den r.at' e = some x) : x.int ≠ 0 := by
  unfold needNz at h
  split at h
  · rename_i m
    cases he
    split at h
    · obtain ⟨d, h1, h2⟩ := h _ (List.mem_singleton.2 rfl)
      cases h1
      cases h2
    · rename_i h0
      rw [intEq_eq] at h0
      exact of_decide_eq_false h0
  · have := (h _ (List.mem_singleton.2 rfl)).cm he rfl
    exact of_decide_eq_true this
theorem needNn_spec {e : SE} {x : D X} (h : ∀ c ∈ needNn e, Tru r.at' c) (he : den r.at' e = some x) : 0 ≤ x.int := by
  unfold needNn at h
  split at h
  · cases he
    exact Int.natCast_nonneg _
  · have := (h _ (List.mem_singleton.2 rfl)).cm rfl he
    exact of_decide_eq_true this
theorem needIx_spec {i m : SE} {x y : D X} (h : ∀ c ∈ needIx i m, Tru r.at' c) (hi : den r.at' i = some x) (hm : den r.at' m = some y) : 0 ≤ x.int ∧ x.int < y.int := by
  refine ⟨needNn_spec (fun c hc => h c (List.mem_append.2 (.inl hc))) hi, ?_⟩
  have := (h _ (List.mem_append.2 (.inr (List.mem_singleton.2 rfl)))).cm hi hm
  simpa [cmpI] using this
theorem rel_xi [Sig] {k : IntKind} {e : SE} {A : Value} (h : Rel r (.xi k e) A) : ∃ d, den r.at' e = some d ∧ A = .int k d.int := by unfold Rel at h; exact h
theorem rel_xb [Sig] {e : SE} {A : Value} (h : Rel r (.xb e) A) : ∃ d, den r.at' e = some d ∧ A = .bool d.tr := by unfold Rel at h; exact h
theorem rel_xs [Sig] {e : SE} {A : Value} (h : Rel r (.xs e) A) : ∃ d, den r.at' e = some d ∧ A = str d.str := by unfold Rel at h; exact h
theorem rel_xv [Sig] {fs : List SK} {e : SE} {A : Value} (h : Rel r (.xv fs e) A) : ∃ d, den r.at' e = some d ∧ RelK r (.v fs) d A := by unfold Rel at h; exact h
theorem rel_xw [Sig] {e : SE} {A : Value} (h : Rel r (.xw e) A) : ∃ d, den r.at' e = some d ∧ RelK r .w d A := by unfold Rel at h; exact h
theorem rel_xq [Sig] {fs : List SK} {e j : SE} {o : Nat} {A : Value} (h : Rel r (.xq fs e j o) A) : ∃ d dj B q c, den r.at' e = some d ∧ den r.at' j = some dj ∧ 0 ≤ dj.int ∧ dj.int.toNat < d.snd.lst.length ∧ RelK r (.v fs) d (.slice (some ⟨B, q, none⟩) d.snd.lst.length c) ∧ A = .pointer (some ⟨B, q + dj.int.toNat * fs.length + o, none⟩) := by unfold Rel at h; exact h
theorem mk_xi [Sig] {k : IntKind} {e : SE} {d : D X} {m : Int} (h : den r.at' e = some d) (hm : d.int = m) : Rel r (.xi k e) (.int k m) := by unfold Rel; exact ⟨d, h, by rw [hm]⟩
theorem mk_xb [Sig] {e : SE} {d : D X} {b : Bool} (h : den r.at' e = some d) (hb : d.tr = b) : Rel r (.xb e) (.bool b) := by unfold Rel; exact ⟨d, h, by rw [hb]⟩
theorem mk_xs [Sig] {e : SE} {d : D X} {l : List UInt8} (h : den r.at' e = some d) (hl : d.str = l) : Rel r (.xs e) (str l) := by unfold Rel; exact ⟨d, h, by rw [hl]⟩
theorem int?_rel [Sig] {v : AV} {V : Value} {k : IntKind} {e : SE} (h : v.int? = some (k, e)) (hv : Rel r v V) : ∃ d, den r.at' e = some d ∧ V = .int k d.int := by
  unfold AV.int? at h
  split at h
  · cases h
    exact ⟨_, rfl, rel_i hv⟩
  · cases h
    exact rel_xi hv
  · cases h
theorem str?_rel [Sig] {v : AV} {V : Value} {e : SE} (h : v.str? = some e) (hv : Rel r v V) : ∃ d, den r.at' e = some d ∧ V = str d.str := by
  unfold AV.str? at h
  split at h
  · cases h
    exact ⟨_, rfl, (rel_s hv).1⟩
  · cases h
    exact rel_xs hv
  · cases h
theorem bool?_rel [Sig] {v : AV} {V : Value} {e : SE} (h : v.bool? = some e) (hv : Rel r v V) : ∃ d, den r.at' e = some d ∧ V = .bool d.tr := by
  unfold AV.bool? at h
  split at h
  · cases h
    exact ⟨_, rfl, rel_b hv⟩
  · cases h
    exact rel_xb hv
  · cases h
theorem isCmp_spec {o : BinOp} (h : isCmp o = true) (a b : Int) : ∃ z, cmpI o a b = some z := by
  cases o <;> first | exact ⟨_, rfl⟩ | simp [isCmp] at h
theorem strB_inj (a b : List UInt8) : ((⟨a.toArray⟩ : ByteArray) = ⟨b.toArray⟩) ↔ a = b := by
  constructor
  · intro h
    simpa using congrArg (fun s : ByteArray => s.data.toList) h
  · rintro rfl; rfl
end
section
variable {X : Type} [Spec X] {P : Program} {ops : Array Oper} {Q : Exit → Act → World → Prop} {S : World → Prop} {n : Nat}
variable {i : Nat} {p : Plan} {e : Env} {w : World} {k : Kd} {dst : Option Tmp} {ty : TypeId} {pos : String} {aft : Array Edge} {g : Option (Nat × Bool)} {r : Rho X} {T : Tr AV}
theorem evEqX_sound [Sig] : ∀ (m : Nat) {t : Nat} {x y : AV} {c : SE} {X Y : Value}, evEqX P m t x y = some c → Rel r x X → Rel r y Y → ∃ z, den r.at' c = some z ∧ ∀ d, m ≤ d → ∀ w, (Op.equalIn d t X Y).run P w = .ok z.tr w
  | 0, _, _, _, _, _, _, h, _, _ => by simp [evEqX] at h
  | m + 1, t, x, y, c, X, Y, h, hX, hY => by
    simp only [evEqX] at h
    split at h
    · rename_i q hu
      split at h
      · rename_i k a k2 b ha hb
        split at h
        · rename_i hk
          have hk := kindEq_eq hk
          subst hk
          cases h
          obtain ⟨da, ha1, rfl⟩ := int?_rel ha hX
          obtain ⟨db, hb1, rfl⟩ := int?_rel hb hY
          refine ⟨_, den_op ha1 hb1, fun d hd w => ?_⟩
          obtain ⟨d, rfl⟩ : ∃ d', d = d' + 1 := ⟨d - 1, by omega⟩
          rw [run_equalIn_int w d t _ q _ _ hu, Bool.beq_eq_decide_eq]
          rfl
        · cases h
      · cases h
    · rename_i hu
      split at h
      · rename_i a b ha hb
        cases h
        obtain ⟨da, ha1, rfl⟩ := str?_rel ha hX
        obtain ⟨db, hb1, rfl⟩ := str?_rel hb hY
        refine ⟨_, den_op ha1 hb1, fun d hd w => ?_⟩
        obtain ⟨d, rfl⟩ : ∃ d', d = d' + 1 := ⟨d - 1, by omega⟩
        have := run_equalIn_string (P := P) w d t ⟨da.str.toArray⟩ ⟨db.str.toArray⟩ hu
        rw [← beq_toListBytes, beq_bytes] at this
        refine this.trans ?_
        simp only [SOp.run, D.tr_b, scB]
        rw [decide_eq_decide.2 (strB_inj _ _)]
      · cases h
    · rename_i hu
      split at h
      · rename_i a b ha hb
        cases h
        obtain ⟨da, ha1, rfl⟩ := bool?_rel ha hX
        obtain ⟨db, hb1, rfl⟩ := bool?_rel hb hY
        refine ⟨_, den_op ha1 hb1, fun d hd w => ?_⟩
        obtain ⟨d, rfl⟩ : ∃ d', d = d' + 1 := ⟨d - 1, by omega⟩
        rw [run_equalIn_bool' w d t _ _ hu]
        rfl
      · cases h
    · rename_i fs hu
      split at h
      · rename_i xs ys hst hbl
        obtain ⟨Lx, rfl, hLx⟩ := rel_g hX
        obtain ⟨Ly, rfl, hLy⟩ := rel_g hY
        have hfo : P.fieldsOf t = fs := by simp [Program.fieldsOf, hu]
        have key : ∀ (l : List Field) (c : SE), noBlank l = true → evEqXF P (evEqX P m) xs ys l = some c → ∃ z, den r.at' c = some z ∧ ∀ d, m ≤ d → ∀ w, (Op.eqFields d Lx.toArray Ly.toArray l).run P w = .ok z.tr w := by
          intro l
          induction l with
          | nil =>
            intro c _ h
            simp only [evEqXF, Option.some.injEq] at h
            subst h
            exact ⟨_, rfl, fun d _ w => by simp [Op.eqFields, D.tr_b]⟩
          | cons f l ih =>
            intro c hb h
            simp only [noBlank] at hb
            split at hb
            · cases hb
            · rename_i hne
              have hne' : f.name ≠ "_" := by simpa using hne
              simp only [evEqXF] at h
              split at h
              · rename_i agg size ht
                split at h
                · rename_i px py hpx hpy
                  split at h
                  · rename_i a b ha hb'
                    obtain ⟨A, hA1, hA2⟩ := part_run ht hLx hpx ha
                    obtain ⟨B, hB1, hB2⟩ := part_run ht hLy hpy hb'
                    split at h
                    · rename_i c1 c2 hc1 hc2
                      cases h
                      obtain ⟨z1, k1, k2⟩ := evEqX_sound m hc1 hA1 hB1
                      obtain ⟨z2, k3, k4⟩ := ih c2 hb hc2
                      refine ⟨_, den_op k1 k3, fun d hd w => ?_⟩
                      simp only [Op.eqFields, if_pos hne', Sem.run_bind, hA2, hB2, Result.andThen_ok, k2 d hd]
                      cases hz : z1.tr with
                      | true => simpa [SOp.run, D.tr_b, hz] using k4 d hd w
                      | false => simp [SOp.run, D.tr_b, hz]
                    · cases h
                  · cases h
                · cases h
              · cases h
        obtain ⟨z, k1, k2⟩ := key _ _ hbl h
        refine ⟨z, k1, fun d hd w => ?_⟩
        obtain ⟨d, rfl⟩ : ∃ d', d = d' + 1 := ⟨d - 1, by omega⟩
        rw [run_equalIn_struct w d t _ _ (by rw [hfo]; exact hu) hst, hfo]
        exact k2 d (by omega) w
      · cases h
    · cases h
theorem evXBin_sound [Fr] [Sig] (hk : kOk k = true) (hE : EnvR r e T) {op : BinOp} {t t2 : TypeId} {x y : Operand} {a b v : AV} {ns : List SE} (hx : av T x = some a) (hy : av T y = some b) (h : evXBin P op t a b = some (v, ns)) (hns : ∀ c ∈ ns, Tru r.at' c)
    (hw : wantedE ops e ⟨dst, .binOp op t x y t2, ty, pos, aft, g⟩ = some true) (hd : fits n dst = true)
    (hq : ∀ A, Rel r v A → GX P ops Q S n p (e.put dst A) w) : GO P ops Q S n k i ⟨dst, .binOp op t x y t2, ty, pos, aft, g⟩ p e w := by
  obtain ⟨A, hx1, hx2⟩ := av_rel hE hx
  obtain ⟨B, hy1, hy2⟩ := av_rel hE hy
  unfold evXBin at h
  split at h
  · rename_i k1 ea k2 eb ha hb
    obtain ⟨da, ha1, rfl⟩ := int?_rel ha hx2
    obtain ⟨db, hb1, rfl⟩ := int?_rel hb hy2
    split at h
    · split at h
      · cases h
        have h0 := needNn_spec hns hb1
        exact GO.shl hk hw hx1 hy1 hd h0 rfl (hq _ (mk_xi (den_op ha1 hb1) rfl))
      · cases h
        have h0 := needNn_spec (fun c hc => hns c (List.mem_append.2 (.inl hc))) hb1
        have h1 := needRg_spec (fun c hc => hns c (List.mem_append.2 (.inr hc))) ha1
        exact GO.shr hk hw hx1 hy1 hd h0 rfl (hq _ (mk_xi (den_op ha1 hb1) (wrapIn (InK_shr h1 _))))
      · cases h
    · split at h
      · rename_i hke hc
        have hke := kindEq_eq hke
        subst hke
        cases h
        obtain ⟨z, hz⟩ := isCmp_spec hc da.int db.int
        exact GO.cmp hk hz hw hx1 hy1 hd (hq _ (mk_xb (den_op ha1 hb1) (by simp [SOp.run, D.tr_b, hz])))
      · rename_i hke hc
        have hke := kindEq_eq hke
        subst hke
        split at h
        · cases h; exact GO.add hk hw hx1 hy1 hd rfl (hq _ (mk_xi (den_op ha1 hb1) rfl))
        · cases h; exact GO.sub hk hw hx1 hy1 hd rfl (hq _ (mk_xi (den_op ha1 hb1) rfl))
        · cases h; exact GO.mul hk hw hx1 hy1 hd rfl (hq _ (mk_xi (den_op ha1 hb1) rfl))
        · cases h; exact GO.quo hk hw hx1 hy1 hd (needNz_spec hns hb1) rfl (hq _ (mk_xi (den_op ha1 hb1) rfl))
        · cases h
          have h0 := needNz_spec (fun c hc => hns c (List.mem_append.2 (.inl hc))) hb1
          have h1 := needRg_spec (fun c hc => hns c (List.mem_append.2 (.inr hc))) ha1
          exact GO.rem hk hw hx1 hy1 hd h0 rfl (hq _ (mk_xi (den_op ha1 hb1) (wrapIn (InK_tmod h1 _))))
        · split at h
          · rename_i hsg
            cases h
            have hsn : k1.signed = false := by revert hsg; cases k1 <;> simp [signedB, IntKind.signed]
            obtain ⟨m1, e1, l1⟩ := InK_nat hsn (needRg_spec (fun c hc => hns c (List.mem_append.2 (.inl hc))) ha1)
            obtain ⟨m2, e2, l2⟩ := InK_nat hsn (needRg_spec (fun c hc => hns c (List.mem_append.2 (.inr hc))) hb1)
            rw [e1] at hx1
            rw [e2] at hy1
            refine GO.bits hk hw hx1 hy1 hd (fun w => run_and k1 hsn t m1 m2 l1 l2) (hq _ (mk_xi (den_op ha1 hb1) ?_))
            simp only [SOp.run, D.int_i, arI, e1, e2, Int.toNat_natCast]
            exact wrapU' hsn (Nat.and_lt_two_pow _ l2)
          · cases h
        · split at h
          · rename_i hsg
            cases h
            have hsn : k1.signed = false := by revert hsg; cases k1 <;> simp [signedB, IntKind.signed]
            obtain ⟨m1, e1, l1⟩ := InK_nat hsn (needRg_spec (fun c hc => hns c (List.mem_append.2 (.inl hc))) ha1)
            obtain ⟨m2, e2, l2⟩ := InK_nat hsn (needRg_spec (fun c hc => hns c (List.mem_append.2 (.inr hc))) hb1)
            rw [e1] at hx1
            rw [e2] at hy1
            refine GO.bits hk hw hx1 hy1 hd (fun w => run_or k1 hsn t m1 m2 l1 l2) (hq _ (mk_xi (den_op ha1 hb1) ?_))
            simp only [SOp.run, D.int_i, arI, e1, e2, Int.toNat_natCast]
            exact wrapU' hsn (Nat.or_lt_two_pow l1 l2)
          · cases h
        · split at h
          · rename_i hsg
            cases h
            have hsn : k1.signed = false := by revert hsg; cases k1 <;> simp [signedB, IntKind.signed]
            obtain ⟨m1, e1, l1⟩ := InK_nat hsn (needRg_spec (fun c hc => hns c (List.mem_append.2 (.inl hc))) ha1)
            obtain ⟨m2, e2, l2⟩ := InK_nat hsn (needRg_spec (fun c hc => hns c (List.mem_append.2 (.inr hc))) hb1)
            rw [e1] at hx1
            rw [e2] at hy1
            refine GO.bits hk hw hx1 hy1 hd (fun w => run_xor k1 hsn t m1 m2 l1 l2) (hq _ (mk_xi (den_op ha1 hb1) ?_))
            simp only [SOp.run, D.int_i, arI, e1, e2, Int.toNat_natCast]
            exact wrapU' hsn (Nat.xor_lt_two_pow l1 l2)
          · cases h
        · cases h
      · cases h
  · split at h
    · rename_i ea eb ha hb
      obtain ⟨da, ha1, rfl⟩ := str?_rel ha hx2
      obtain ⟨db, hb1, rfl⟩ := str?_rel hb hy2
      split at h
      · rename_i hc
        cases h
        have hrun := den_op (o := .sc op) ha1 hb1
        cases op <;> first | cases hc | skip
        · exact GO.strEql hk hw hx1 hy1 hd (hq _ (mk_xb hrun (by simp only [SOp.run, D.tr_b, scB]; exact (decide_eq_decide.2 (strB_inj _ _)).symm)))
        · exact GO.strNeq hk hw hx1 hy1 hd (hq _ (mk_xb hrun (by simp only [SOp.run, D.tr_b, scB]; rw [← decide_not]; exact (decide_eq_decide.2 (not_congr (strB_inj _ _))).symm)))
        all_goals
          refine GO.strOrd hk hw hx1 hy1 hd rfl (hq _ (mk_xb hrun ?_))
          simp only [SOp.run, D.tr_b, scB, ByteArray.toList_eq]
          try rw [Bool.beq_eq_decide_eq]
      · split at h
        · cases h
          have h1 := (hns _ (List.mem_singleton.2 rfl)).cm (den_u1 (den_op (o := .ca) ha1 hb1)) rfl
          simp only [SOp.run, D.int_i, D.str_s, cmpI, Option.getD_some, decide_eq_true_eq, List.length_append] at h1
          refine GO.strAdd hk hw hx1 hy1 hd (by simp [ByteArray.size]; omega) (hq _ ?_)
          have e3 : (⟨da.str.toArray⟩ : ByteArray) ++ ⟨db.str.toArray⟩ = ⟨(da.str ++ db.str).toArray⟩ := by
            apply ByteArray.ext
            simp
          rw [e3]
          exact mk_xs (den_op (o := .ca) ha1 hb1) rfl
        · cases h
    · split at h
      · rename_i ea eb ha hb hu
        obtain ⟨da, ha1, rfl⟩ := bool?_rel ha hx2
        obtain ⟨db, hb1, rfl⟩ := bool?_rel hb hy2
        haveI : UnF P t .bool := ⟨hu⟩
        split at h
        · cases h; exact GO.boolEql hk hw hx1 hy1 hd (hq _ (mk_xb (den_op ha1 hb1) rfl))
        · cases h; exact GO.boolNeq hk hw hx1 hy1 hd (hq _ (mk_xb (den_u1 (den_op ha1 hb1)) rfl))
        · cases h
      · split at h
        · rename_i c hp1 hp2 hz
          cases h
          obtain ⟨z, hz1, hz2⟩ := evEqX_sound 8 hz hx2 hy2
          exact GO.bin hk hw hx1 hy1 hd (fun w => plainEq_guard hp1 hx2 _ _ _ w) (fun w => (binOp_plain hp1 hx2 (hz2 10000 (by omega) w)).1) (hq _ (mk_xb hz1 rfl))
        · rename_i c hp1 hp2 hz
          cases h
          obtain ⟨z, hz1, hz2⟩ := evEqX_sound 8 hz hx2 hy2
          exact GO.bin hk hw hx1 hy1 hd (fun w => plainEq_guard hp1 hx2 _ _ _ w) (fun w => (binOp_plain hp1 hx2 (hz2 10000 (by omega) w)).2) (hq _ (mk_xb (den_u1 hz1) rfl))
        · cases h
theorem optE_rel [Sig] (hE : EnvR r e T) {d : SE} {dd : D X} {x : Option Operand} {s : SE} (h : optE T d x = some s) (hd : den r.at' d = some dd) : ∃ ds, den r.at' s = some ds ∧ ((x = none ∧ ds = dd) ∨ ∃ y k, x = some y ∧ ev e y = some (.int k ds.int)) := by
  unfold optE at h
  split at h
  · cases h; exact ⟨dd, hd, .inl ⟨rfl, rfl⟩⟩
  · rename_i y
    split at h
    · rename_i v hv
      split at h
      · rename_i k0 s' hi
        cases h
        obtain ⟨A, h1, h2⟩ := av_rel hE hv
        obtain ⟨ds, h3, rfl⟩ := int?_rel hi h2
        exact ⟨ds, h3, .inr ⟨y, k0, rfl, h1⟩⟩
      · cases h
    · cases h
theorem blt_lt' {a b : Nat} (h : Nat.blt a b = true) : a < b := Nat.le_of_ble_eq_true h
theorem bndT {lo hi : Option Operand} {l hh m : Nat} (hlo : (lo = none ∧ l = 0) ∨ ∃ y k, lo = some y ∧ ev e y = some (.int k l)) (hhi : (hi = none ∧ hh = m) ∨ ∃ y k, hi = some y ∧ ev e y = some (.int k hh)) (h1 : l ≤ hh) (h2 : hh ≤ m) (w : World) :
    (Instr.sliceBounds false m m (lo.map fun y => (ev e y).getD undef) (hi.map fun y => (ev e y).getD undef) none).run P w = .ok (l, hh, m) w := by
  rcases hlo with ⟨rfl, rfl⟩ | ⟨y, kl, rfl, hy⟩
  · rcases hhi with ⟨rfl, rfl⟩ | ⟨z, kh, rfl, hz⟩
    · simp [Instr.sliceBounds]
    · simp [Instr.sliceBounds, run_sliceBound, hz, h2]
  · rcases hhi with ⟨rfl, rfl⟩ | ⟨z, kh, rfl, hz⟩
    · simp [Instr.sliceBounds, run_sliceBound, hy, h1]
    · simp [Instr.sliceBounds, run_sliceBound, hy, hz, h1, h2]
theorem evX_sound [Fr] [Sig] (hk : kOk k = true) (hE : EnvR r e T) {op : Op} {v : AV} {ns : List SE} (h : evX P T op = some (v, ns)) (hns : ∀ c ∈ ns, Tru r.at' c)
    (hw : wantedE ops e ⟨dst, op, ty, pos, aft, g⟩ = some true) (hd : fits n dst = true)
    (hq : ∀ A, Rel r v A → GX P ops Q S n p (e.put dst A) w) : GO P ops Q S n k i ⟨dst, op, ty, pos, aft, g⟩ p e w := by
  have done : ∀ A, Rel r v A → (∀ a, Knows a e n → ∀ w, (execOp a.eval ⟨dst, op, ty, pos, aft, g⟩).run P w = .ok (.value A) w) → GO P ops Q S n k i ⟨dst, op, ty, pos, aft, g⟩ p e w :=
    fun A hA hv => GO.val (kOk_or hk) hw hd hv (hq A hA)
  unfold evX at h
  split at h
  · split at h
    · rename_i a b hx hy
      exact evXBin_sound hk hE hx hy h hns hw hd hq
    · cases h
  · split at h
    · rename_i c hx
      cases h
      obtain ⟨A, h1, h2⟩ := av_rel hE hx
      obtain ⟨d, h3, rfl⟩ := rel_xb h2
      exact GO.not hk hw h1 hd (hq _ (mk_xb (den_u1 h3) rfl))
    · cases h
  · split at h
    · rename_i kk c hx
      cases h
      obtain ⟨A, h1, h2⟩ := av_rel hE hx
      obtain ⟨d, h3, rfl⟩ := rel_xi h2
      exact GO.neg hk hw h1 hd rfl (hq _ (mk_xi (den_op (o := .ar .sub kk) (s := .li 0) rfl h3) rfl))
    · cases h
  · split at h
    · rename_i k1 c sd kd hx hs hu
      cases h
      obtain ⟨A, h1, h2⟩ := av_rel hE hx
      obtain ⟨d, h3, rfl⟩ := rel_xi h2
      haveI : UnF P _ sd := ⟨hs⟩
      haveI : UnF P _ (.int kd) := ⟨hu⟩
      exact GO.conv hk hw h1 hd rfl (hq _ (mk_xi (den_u1 h3) rfl))
    · rename_i c hx hs hu
      cases h
      obtain ⟨A, h1, h2⟩ := av_rel hE hx
      obtain ⟨d, h3, rfl⟩ := rel_xs h2
      haveI : UnF P _ .string := ⟨hs⟩
      haveI : UnF P _ .string := ⟨hu⟩
      exact GO.convStr hk hw h1 hd (hq _ h2)
    · cases h
  · rename_i c
    obtain ⟨callee, args, ts⟩ := c
    dsimp only at h
    split at h
    · rename_i x hargs
      have harg : args = #[x] := Array.toList_inj.1 (by simpa using hargs)
      subst harg
      split at h
      · rename_i t hts
        have hts' : ts = #[t] := Array.toList_inj.1 (by simpa using hts)
        subst hts'
        split at h
        · rename_i c hu hx
          cases h
          obtain ⟨A, h1, h2⟩ := av_rel hE hx
          obtain ⟨d, h3, rfl⟩ := rel_xs h2
          haveI : UnF P t .string := ⟨hu⟩
          exact GO.lenStr hk hw h1 hd (hq _ (mk_xi (den_u1 h3) (by simp [SOp.run, D.int_i, ByteArray.size])))
        · rename_i el fs c hu hx
          cases h
          obtain ⟨A, h1, h2⟩ := av_rel hE hx
          obtain ⟨d, h3, h4⟩ := rel_xv h2
          obtain ⟨a, cc, rfl, _⟩ := h4.v_inv.2
          haveI : UnF P t (.slice el) := ⟨hu⟩
          exact GO.lenSlice hk hw h1 hd (hq _ (mk_xi (den_u1 (den_u1 h3)) rfl))
        · rename_i el c hu hx
          cases h
          obtain ⟨A, h1, h2⟩ := av_rel hE hx
          obtain ⟨d, h3, h4⟩ := rel_xw h2
          obtain ⟨a, cc, rfl, _⟩ := h4.w_inv.2
          haveI : UnF P t (.slice el) := ⟨hu⟩
          exact GO.lenSlice hk hw h1 hd (hq _ (mk_xi (den_u1 (den_u1 h3)) rfl))
        · cases h
      · cases h
    · rename_i x y hargs
      have harg : args = #[x, y] := Array.toList_inj.1 (by simpa using hargs)
      subst harg
      split at h
      · rename_i a b hx hy
        split at h
        · rename_i k1 ea k2 eb ha hb
          split at h
          · rename_i hke
            have hke := kindEq_eq hke
            subst hke
            cases h
            obtain ⟨A, hx1, hx2⟩ := av_rel hE hx
            obtain ⟨B, hy1, hy2⟩ := av_rel hE hy
            obtain ⟨da, ha1, rfl⟩ := int?_rel ha hx2
            obtain ⟨db, hb1, rfl⟩ := int?_rel hb hy2
            exact GO.min2 hk hw hx1 hy1 hd rfl (hq _ (mk_xi (den_op ha1 hb1) rfl))
          · cases h
        · cases h
      · cases h
    · rename_i x y hargs
      have harg : args = #[x, y] := Array.toList_inj.1 (by simpa using hargs)
      subst harg
      split at h
      · rename_i a b hx hy
        split at h
        · rename_i k1 ea k2 eb ha hb
          split at h
          · rename_i hke
            have hke := kindEq_eq hke
            subst hke
            cases h
            obtain ⟨A, hx1, hx2⟩ := av_rel hE hx
            obtain ⟨B, hy1, hy2⟩ := av_rel hE hy
            obtain ⟨da, ha1, rfl⟩ := int?_rel ha hx2
            obtain ⟨db, hb1, rfl⟩ := int?_rel hb hy2
            exact GO.max2 hk hw hx1 hy1 hd rfl (hq _ (mk_xi (den_op ha1 hb1) rfl))
          · cases h
        · cases h
      · cases h
    · cases h
  · split at h
    · rename_i a b hu hx hi
      split at h
      · rename_i s k1 j hs hj
        cases h
        obtain ⟨A, hx1, hx2⟩ := av_rel hE hx
        obtain ⟨B, hy1, hy2⟩ := av_rel hE hi
        obtain ⟨ds, hs1, rfl⟩ := str?_rel hs hx2
        obtain ⟨dj, hj1, rfl⟩ := int?_rel hj hy2
        obtain ⟨h0, h1⟩ := needIx_spec hns hj1 (den_u1 hs1)
        simp only [SOp.run, D.int_i] at h1
        haveI : UnF P _ .string := ⟨hu⟩
        have hlt : dj.int.toNat < ds.str.length := by
          have : dj.int < (ds.str.length : Int) := h1
          omega
        refine GO.indexStr hk hw hx1 hy1 h0 (u := ds.str[dj.int.toNat]) (by simp [hlt]) hd (hq _ (mk_xi (den_op hs1 hj1) ?_))
        simp [SOp.run, D.int_i, List.getElem?_eq_getElem hlt]
      · cases h
    · cases h
  · split at h
    · rename_i a hu hx
      split at h
      · rename_i s hs
        split at h
        · rename_i l hh hl hhh
          cases h
          obtain ⟨A, hx1, hx2⟩ := av_rel hE hx
          obtain ⟨ds, hs1, rfl⟩ := str?_rel hs hx2
          obtain ⟨dl, hl1, hl2⟩ := optE_rel hE hl (dd := .i 0) rfl
          obtain ⟨dh, hh1, hh2⟩ := optE_rel hE hhh (den_u1 hs1)
          have n1 := needNn_spec (fun c hc => hns c (List.mem_append.2 (.inl hc))) hl1
          have n2 := (hns _ (List.mem_append.2 (.inr (List.mem_cons_self)))).cm hl1 hh1
          have n3 := (hns _ (List.mem_append.2 (.inr (List.mem_cons_of_mem _ (List.mem_singleton.2 rfl))))).cm hh1 (den_u1 hs1)
          have n2 : dl.int ≤ dh.int := of_decide_eq_true n2
          have n3 : dh.int ≤ (ds.str.length : Int) := of_decide_eq_true n3
          haveI : UnF P _ .string := ⟨hu⟩
          have hsz : (⟨ds.str.toArray⟩ : ByteArray).size = ds.str.length := by simp [ByteArray.size]
          obtain ⟨l0, hl0⟩ : ∃ m : Nat, dl.int = m := ⟨dl.int.toNat, by omega⟩
          obtain ⟨h0, hh0⟩ : ∃ m : Nat, dh.int = m := ⟨dh.int.toNat, by omega⟩
          rw [hl0] at n2 hl2
          rw [hh0] at n2 n3 hh2
          refine GO.sliceStr hk (s := ⟨ds.str.toArray⟩) (l := l0) (h := h0) hw hx1 hd (fun w => ?_) ⟨?_, ?_⟩ ?_
          · rw [hsz]
            refine bndT (e := e) ?_ ?_ (by omega) (by omega) w
            · rcases hl2 with ⟨h1, h2⟩ | h1
              · exact .inl ⟨h1, by rw [h2] at hl0; simp [D.int_i] at hl0; omega⟩
              · exact .inr h1
            · rcases hh2 with ⟨h1, h2⟩ | h1
              · exact .inl ⟨h1, by rw [h2] at hh0; simp [SOp.run, D.int_i] at hh0; omega⟩
              · exact .inr h1
          · intro y hy
            rcases hl2 with ⟨h1, _⟩ | ⟨z, k0, h1, hz⟩
            · rw [hy] at h1; cases h1
            · rw [hy] at h1; cases h1; simp [hz]
          · intro y hy
            rcases hh2 with ⟨h1, _⟩ | ⟨z, k0, h1, hz⟩
            · rw [hy] at h1; cases h1
            · rw [hy] at h1; cases h1; simp [hz]
          · have e3 : (⟨ds.str.toArray⟩ : ByteArray).extract l0 h0 = ⟨((ds.str.drop l0).take (h0 - l0)).toArray⟩ := by
              apply ByteArray.ext
              simp [List.extract_eq_take_drop]
            rw [e3]
            refine hq _ (mk_xs (den_op hs1 (den_op (o := .pr) hl1 hh1)) ?_)
            simp [SOp.run, D.str_s, D.fst_p, D.snd_p, hl0, hh0]
        · cases h
      · cases h
    · cases h
  · split at h
    · rename_i fs c b el size by_ hx hi hsl
      split at h
      · rename_i k1 j hj hsz hpos
        cases h
        obtain ⟨A, hx1, hx2⟩ := av_rel hE hx
        obtain ⟨B, hy1, hy2⟩ := av_rel hE hi
        obtain ⟨d, hd1, hd2⟩ := rel_xv hx2
        obtain ⟨dj, hj1, rfl⟩ := int?_rel hj hy2
        obtain ⟨h0, h1⟩ := needIx_spec hns hj1 (den_u1 (den_u1 hd1))
        simp only [SOp.run] at h1
        have h1 : dj.int < (d.snd.lst.length : Int) := h1
        have hsz := Nat.eq_of_beq_eq_true hsz
        subst hsz
        have hd2' := hd2
        obtain ⟨_, a, cc, rfl, rows, hr1, hr2, hr3, _⟩ := hd2.v_inv
        have hlt : dj.int.toNat < d.snd.lst.length := by omega
        have hf0 := blt_lt' hpos
        have hne : rows.flatten ≠ [] := by
          obtain ⟨x0, hx0⟩ : ∃ x0, d.snd.lst[dj.int.toNat]? = some x0 := ⟨_, List.getElem?_eq_getElem hlt⟩
          obtain ⟨L0, hL0⟩ : ∃ L0, rows[dj.int.toNat]? = some L0 := ⟨_, List.getElem?_eq_getElem (by omega)⟩
          have hlen := (hr2 _ _ _ hx0 hL0).length
          intro hnil
          have : L0 = [] := List.flatten_eq_nil_iff.1 hnil L0 (List.mem_of_getElem? hL0)
          rw [this] at hlen
          simp at hlen
          omega
        rcases hr3 with hr3 | ⟨Bk, q, cs, t0, fr, rfl, hr4, hr5⟩
        · exact absurd hr3 hne
        · haveI : SlF P _ el fs.length by_ := ⟨hsl⟩
          refine GO.indexAddr hk hw hx1 hy1 h0 h1 hd (hq _ ?_)
          unfold Rel
          exact ⟨d, dj, Bk, q, cc, hd1, hj1, h0, hlt, hd2', by simp⟩
      · cases h
    · cases h
  · split at h
    · rename_i fs c j o off size agg hx hf
      split at h
      · rename_i hz
        cases h
        obtain ⟨A, hx1, hx2⟩ := av_rel hE hx
        obtain ⟨d, dj, B, q, cc, h1, h2, h3, h4, h5, rfl⟩ := rel_xq hx2
        haveI : FdF P _ _ off size agg := ⟨hf⟩
        refine GO.fieldAddr hk hw hx1 hz hd (hq _ ?_)
        unfold Rel
        exact ⟨d, dj, B, q, cc, h1, h2, h3, h4, h5, by rw [Nat.add_assoc]⟩
      · cases h
    · cases h
  · split at h
    · rename_i fs c j o hx
      cases h
      obtain ⟨A, hx1, hx2⟩ := av_rel hE hx
      have hx2' := hx2
      obtain ⟨d, dj, B, q, cc, h1, h2, h3, h4, h5, rfl⟩ := rel_xq hx2
      exact GO.nilCheck hk hw hx1 hd (hq _ hx2')
    · cases h
  · cases h
end
end Go.Proofs.YtbjomeonjlialaaGreat.V.S
