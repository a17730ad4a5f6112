/-
  What a run on terms stands on, from the world in which it begins. No condition: these are rules over any program; That a plan with very many alternatives goes with every order, in parts. No condition: these are rules over any program; The plans of the regions that draw their order, printed by a program; they go with every order. No condition.
-/
import Derived.Test.YtbjomeonjlialaaGreatZbc
import Derived.Test.YtbjomeonjlialaaGreatZai
set_option linter.unusedVariables false
set_option linter.unusedSimpArgs false
namespace Go.Proofs.YtbjomeonjlialaaGreat.V.S
section
variable {P : Program}
def orExt (a b : CallX) : CallX := fun g args st => match a g args st with
  | some z => some z
  | none => b g args st
theorem orExt_ok {X : Type} [Spec X] [Sig] {lo : Nat} {a b : CallX} (ha : CallOK X P lo a) (hb : CallOK X P lo b) : CallOK X P lo (orExt a b) := by
  intro g args st t h
  unfold orExt at h
  split at h
  · rename_i z hz
    cases h
    exact ha g args st t hz
  · exact hb g args st t h
def noExt : CallX := fun _ _ _ => none
theorem noExt_ok {X : Type} [Spec X] [Sig] {lo : Nat} : CallOK X P lo noExt := fun _ _ _ _ h => by cases h
abbrev sigOf (P : Program) (plans : Nat → Nat → Option Plan) (l : List Value) (h : ∀ v ∈ l, v.oneCell' = true) (w : World) : Sig where
  val i := l.getD i (.bool false)
  one i := by
    cases hi : l[i]? with
    | none => simp [List.getD, hi, Value.oneCell']
    | some v => simpa [List.getD, hi] using h v (List.mem_of_getElem? hi)
  ok f c := okC plans f c = true ∧ InF P f c
  base := w
structure RunBase [Sig] (P : Program) (plans : Nat → Nat → Option Plan) : Prop where
  mix : P.follows .mixedOrders = true
  sz : Nat.ble P.funcs.size YB = true
  ok : ∀ f c, Sig.ok f c ↔ (okC plans f c = true ∧ InF P f c)
  fs : OkAll P plans
theorem RunBase.of {plans : Nat → Nat → Option Plan} (h1 : P.follows .mixedOrders = true) (h2 : Nat.ble P.funcs.size YB = true) (h3 : OkAll P plans) (l : List Value) (h : ∀ v ∈ l, v.oneCell' = true) (w : World) : @RunBase (sigOf P plans l h w) P plans :=
  @RunBase.mk (sigOf P plans l h w) P plans h1 h2 (fun _ _ => Iff.rfl) h3
def denT {X : Type} [Spec X] (g : Nat → D X) : SE → D X
  | .at i => g i
  | .li n => .i n
  | .lb b => .b b
  | .ls l => .s (l.map UInt8.ofNat)
  | .op o s t => o.run (denT g s) (denT g t)
  | .nl => .p (.v (.slice none 0 0)) (.l [])
  | .nb => .p (.v (.slice none 0 0)) (.s [])
def setG {X : Type} (g : Nat → D X) (i : Nat) (d : D X) : Nat → D X := fun j => if j = i then d else g j
def eqT {X : Type} [Spec X] (g : Nat → D X) : List Eqn → Prop
  | [] => True
  | q :: l => Eqn.proj q.k (denT g q.a) (denT g q.b) ∧ eqT g l
def vcT {X : Type} [Spec X] (g : Nat → D X) : Out (List Eqn) → Prop
  | .bad => False
  | .done => True
  | .leaf l => eqT g l
  | .fork e t f => ((denT g e).tr = true → vcT g t) ∧ ((denT g e).tr = false → vcT g f)
  | .need e t => (denT g e).tr = true ∧ vcT g t
  | .both t f => vcT g t ∧ vcT g f
  | .any i t => ∀ d, vcT (setG g i d) t
theorem vcT_fork {X : Type} [Spec X] {g : Nat → D X} {e : SE} {t f : Out (List Eqn)} (h : (denT g e).tr = true → vcT g t) (k : (denT g e).tr = false → vcT g f) : vcT g (.fork e t f) := ⟨h, k⟩
theorem vcT_need {X : Type} [Spec X] {g : Nat → D X} {e : SE} {t : Out (List Eqn)} (h : (denT g e).tr = true) (k : vcT g t) : vcT g (.need e t) := ⟨h, k⟩
theorem vcT_any {X : Type} [Spec X] {g : Nat → D X} {i : Nat} {t : Out (List Eqn)} (h : ∀ d, vcT (setG g i d) t) : vcT g (.any i t) := h
def Out.okA (l : List Nat) : Out (List Eqn) → Bool
  | .bad => true
  | .done => true
  | .leaf qs => qs.all fun q => q.a.okN (fun i => memN i l) && q.b.okN (fun i => memN i l)
  | .fork e t f => e.okN (fun i => memN i l) && t.okA l && f.okA l
  | .need e t => e.okN (fun i => memN i l) && t.okA l
  | .both t f => t.okA l && f.okA l
  | .any i t => t.okA (i :: l)
theorem denT_eq {X : Type} [Spec X] {s : Val X} {g : Nat → D X} {f : Nat → Bool} (h : ∀ i, f i = true → s i = some (g i)) : ∀ {e : SE}, e.okN f = true → den s e = some (denT g e)
  | .at i, k => h i k
  | .li _, _ => rfl
  | .lb _, _ => rfl
  | .ls _, _ => rfl
  | .nl, _ => rfl
  | .nb, _ => rfl
  | .op o a b, k => by
    simp only [SE.okN] at k
    split at k
    · rename_i ha
      exact den_op (denT_eq h ha) (denT_eq h k)
    · cases k
theorem vcT_vc {X : Type} [Spec X] : ∀ {t : Out (List Eqn)} {l : List Nat} {s : Val X} {g : Nat → D X}, (∀ i ∈ l, s i = some (g i)) → t.okA l = true → vcT g t → t.vc EqsOK s
  | .bad, _, _, _, _, _, h => h
  | .done, _, _, _, _, _, _ => trivial
  | .leaf qs, l, s, g, hs, ho, h => by
    simp only [Out.okA, List.all_eq_true, Bool.and_eq_true] at ho
    have key : ∀ qs : List Eqn, eqT g qs → (∀ q ∈ qs, q.a.okN (fun i => memN i l) = true ∧ q.b.okN (fun i => memN i l) = true) → EqsOK s qs := by
      intro qs
      induction qs with
      | nil => intro _ _ q hq; simp at hq
      | cons q qs ih =>
        intro ⟨h1, h2⟩ ho x hx
        rcases List.mem_cons.1 hx with rfl | hx
        · have hq := ho _ List.mem_cons_self
          exact ⟨_, _, denT_eq (fun i hi => hs i (memN_iff.1 hi)) hq.1, denT_eq (fun i hi => hs i (memN_iff.1 hi)) hq.2, h1⟩
        · exact ih h2 (fun y hy => ho y (List.mem_cons_of_mem _ hy)) x hx
    exact key qs h ho
  | .fork e t f, l, s, g, hs, ho, ⟨h1, h2⟩ => by
    simp only [Out.okA, Bool.and_eq_true] at ho
    exact ⟨_, denT_eq (fun i hi => hs i (memN_iff.1 hi)) ho.1.1, fun hd => vcT_vc hs ho.1.2 (h1 hd), fun hd => vcT_vc hs ho.2 (h2 hd)⟩
  | .need e t, l, s, g, hs, ho, ⟨h1, h2⟩ => by
    simp only [Out.okA, Bool.and_eq_true] at ho
    exact ⟨⟨_, denT_eq (fun i hi => hs i (memN_iff.1 hi)) ho.1, h1⟩, vcT_vc hs ho.2 h2⟩
  | .both t f, l, s, g, hs, ho, ⟨h1, h2⟩ => by
    simp only [Out.okA, Bool.and_eq_true] at ho
    exact ⟨vcT_vc hs ho.1 h1, vcT_vc hs ho.2 h2⟩
  | .any i t, l, s, g, hs, ho, h => fun d => vcT_vc (t := t) (l := i :: l) (g := setG g i d) (fun j hj => by
      unfold Val.set setG
      by_cases hji : j = i
      · rw [if_pos hji, if_pos hji]
      · rw [if_neg hji, if_neg hji]
        rcases List.mem_cons.1 hj with e | hj
        · exact absurd e hji
        · exact hs j hj) ho (h d)
theorem dec_true {p : Prop} {h : Decidable p} : (@decide p h = true) ↔ p := by
  cases h with
  | isTrue k => simp [k]
  | isFalse k => simp [k]
theorem dec_false {p : Prop} {h : Decidable p} : (@decide p h = false) ↔ ¬ p := by
  cases h with
  | isTrue k => simp [k]
  | isFalse k => simp [k]
section
variable {X : Type} [Spec X] {a b : D X} {k : IntKind}
theorem t_lss : ((SOp.cm .lss).run a b).tr = true ↔ a.int < b.int := dec_true
theorem f_lss : ((SOp.cm .lss).run a b).tr = false ↔ b.int ≤ a.int := dec_false.trans (by omega)
theorem t_leq : ((SOp.cm .leq).run a b).tr = true ↔ a.int ≤ b.int := dec_true
theorem f_leq : ((SOp.cm .leq).run a b).tr = false ↔ b.int < a.int := dec_false.trans (by omega)
theorem t_gtr : ((SOp.cm .gtr).run a b).tr = true ↔ b.int < a.int := dec_true
theorem f_gtr : ((SOp.cm .gtr).run a b).tr = false ↔ a.int ≤ b.int := dec_false.trans (by omega)
theorem t_eql : ((SOp.cm .eql).run a b).tr = true ↔ a.int = b.int := dec_true
theorem f_eql : ((SOp.cm .eql).run a b).tr = false ↔ a.int ≠ b.int := dec_false.trans (by omega)
theorem t_neq : ((SOp.cm .neq).run a b).tr = true ↔ a.int ≠ b.int := dec_true
theorem f_neq : ((SOp.cm .neq).run a b).tr = false ↔ a.int = b.int := dec_false.trans (by omega)
theorem t_seql : ((SOp.sc .eql).run a b).tr = true ↔ a.str = b.str := dec_true
theorem f_seql : ((SOp.sc .eql).run a b).tr = false ↔ a.str ≠ b.str := dec_false
theorem t_sneq : ((SOp.sc .neq).run a b).tr = true ↔ a.str ≠ b.str := by
  show (!decide (a.str = b.str)) = true ↔ _
  rw [Bool.not_eq_true']
  exact dec_false
theorem f_sneq : ((SOp.sc .neq).run a b).tr = false ↔ a.str = b.str := by
  show (!decide (a.str = b.str)) = false ↔ _
  rw [Bool.not_eq_false']
  exact dec_true
theorem t_nt : (SOp.nt.run a b).tr = true ↔ a.tr = false := by
  show (!a.tr) = true ↔ _
  cases a.tr <;> simp
theorem f_nt : (SOp.nt.run a b).tr = false ↔ a.tr = true := by
  show (!a.tr) = false ↔ _
  cases a.tr <;> simp
theorem t_an : (SOp.an.run a b).tr = true ↔ a.tr = true ∧ b.tr = true := by
  show (a.tr && b.tr) = true ↔ _
  cases a.tr <;> simp
theorem f_an : (SOp.an.run a b).tr = false ↔ (a.tr = true → b.tr = false) := by
  show (a.tr && b.tr) = false ↔ _
  cases a.tr <;> simp
theorem t_bq : (SOp.bq.run a b).tr = true ↔ a.tr = b.tr := by
  show (a.tr == b.tr) = true ↔ _
  cases a.tr <;> cases b.tr <;> simp
theorem f_bq : (SOp.bq.run a b).tr = false ↔ a.tr ≠ b.tr := by
  show (a.tr == b.tr) = false ↔ _
  cases a.tr <;> cases b.tr <;> simp
theorem i_add : ((SOp.ar .add k).run a b).int = k.wrap (a.int + b.int) := rfl
theorem i_sub : ((SOp.ar .sub k).run a b).int = k.wrap (a.int - b.int) := rfl
theorem i_len : (SOp.len.run a b).int = a.lst.length := rfl
theorem i_ln : (SOp.ln.run a b).int = a.str.length := rfl
theorem r_p2 : SOp.p2.run a b = a.snd := rfl
theorem r_pr : SOp.pr.run a b = .p a b := rfl
theorem r_nth : SOp.nth.run a b = (a.lst[b.int.toNat]?).getD (.i 0) := rfl
theorem r_fl {i : Nat} : (SOp.fl i).run a b = (a.lst[i]?).getD (.i 0) := rfl
theorem r_fn {i : Nat} : (SOp.fn i).run a b = Spec.fn i a b := rfl
end
theorem proj1 {X : Type} {a b : D X} : Eqn.proj 1 a b ↔ a.tr = b.tr := Iff.rfl
theorem wrap64 {n : Int} (h0 : -9223372036854775808 ≤ n) (h1 : n ≤ 9223372036854775807) : IntKind.wrap .i64 n = n := wrapIn (k := .i64) (n := n) ⟨h0, h1⟩
theorem ctr_run {X : Type} [Spec X] [Sig] {lo : Nat} {plans : Nat → Nat → Option Plan} {ext : CallX} (hb : RunBase P plans) (hext : CallOK X P lo ext) {ann : Nat → Nat → Option LAnn} {C : Ctr} {k d : Nat} {vt : Out (List Eqn)}
    (hwf : C.wf = true) (hrun : Out.same (C.run P plans ext (loopXs P plans ext ann k d) k).slim vt = true) (hok : vt.okA C.ats = true) (hpo : allOkN (fun i => memN i C.ats) C.pre = true) (hv : ∀ g : Nat → D X, (∀ x ∈ C.typs, BndK x.2 (g x.1)) → (∀ c ∈ C.pre, (denT g c).tr = true) → vcT g vt) : CtrOK X P lo C := by
  refine ctr_ok hb.mix (Nat.le_of_ble_eq_true hb.sz) hb.ok hb.fs hext (loopXs_ok hb.mix (Nat.le_of_ble_eq_true hb.sz) hb.ok hb.fs hext ann k d) hwf hrun fun s hs ht hp => ?_
  have hg : ∀ i ∈ C.ats, s i = some ((s i).getD (.i 0)) := fun i hi => by
    obtain ⟨d, hd⟩ := hs i hi
    rw [hd]
    rfl
  refine vcT_vc (g := fun i => (s i).getD (.i 0)) hg hok (hv _ (fun x hx => ?_) fun c hc => ?_)
  · obtain ⟨d, h1, h2⟩ := ht x hx
    rw [h1]
    exact h2
  · obtain ⟨d, h1, h2⟩ := hp c hc
    rw [denT_eq (fun i hi => hg i (memN_iff.1 hi)) (allOkN_spec hpo c hc)] at h1
    cases h1
    exact h2
end
end Go.Proofs.YtbjomeonjlialaaGreat.V.S
namespace Go.Proofs.YtbjomeonjlialaaGreat.V.S
def boolSame : Bool → Bool → Bool | true, true => true | false, false => true | _, _ => false
theorem boolSame_eq {a b : Bool} (h : boolSame a b = true) : a = b := by cases a <;> cases b <;> simp_all [boolSame]
def boolsSame : List Bool → List Bool → Bool
  | [], [] => true
  | a :: l, b :: m => match boolSame a b with | true => boolsSame l m | false => false
  | _, _ => false
theorem boolsSame_eq : ∀ {l m : List Bool}, boolsSame l m = true → l = m
  | [], [], _ => rfl
  | [], _ :: _, h => by cases h
  | _ :: _, [], h => by cases h
  | a :: l, b :: m, h => by
    unfold boolsSame at h
    split at h
    · rename_i h1; rw [boolSame_eq h1, boolsSame_eq h]
    · cases h
def planSame : Plan → Plan → Bool
  | .done, .done => true
  | .pure i p, .pure j q => match Nat.beq i j with | true => planSame p q | false => false
  | .read i p, .read j q => match Nat.beq i j with | true => planSame p q | false => false
  | .eff i p, .eff j q => match Nat.beq i j with | true => planSame p q | false => false
  | .alt p p2, .alt q q2 => match planSame p q with | true => planSame p2 q2 | false => false
  | _, _ => false
theorem planSame_eq : ∀ {p q : Plan}, planSame p q = true → p = q := by
  intro p
  induction p with
  | done => intro q h; cases q <;> simp_all [planSame]
  | pure i p ih =>
    intro q h
    cases q <;> simp only [planSame, Bool.false_eq_true] at h
    split at h
    · rename_i h1; rw [Nat.eq_of_beq_eq_true h1, ih h]
    · cases h
  | read i p ih =>
    intro q h
    cases q <;> simp only [planSame, Bool.false_eq_true] at h
    split at h
    · rename_i h1; rw [Nat.eq_of_beq_eq_true h1, ih h]
    · cases h
  | eff i p ih =>
    intro q h
    cases q <;> simp only [planSame, Bool.false_eq_true] at h
    split at h
    · rename_i h1; rw [Nat.eq_of_beq_eq_true h1, ih h]
    · cases h
  | alt p p2 ih ih2 =>
    intro q h
    cases q <;> simp only [planSame, Bool.false_eq_true] at h
    split at h
    · rename_i h1; rw [ih h1, ih2 h]
    · cases h
abbrev PF := List (Nat × List Bool × Plan)
def knownP (fuel : Nat) (listed : List Bool) (p : Plan) : PF → Bool
  | [] => false
  | x :: r => match Nat.beq x.1 fuel, boolsSame x.2.1 listed with
    | true, true => match planSame x.2.2 p with
      | true => true
      | false => knownP fuel listed p r
    | _, _ => knownP fuel listed p r
theorem knownP_spec {fuel : Nat} {listed : List Bool} {p : Plan} : ∀ {F : PF}, knownP fuel listed p F = true → (fuel, listed, p) ∈ F
  | [], h => by cases h
  | x :: r, h => by
    unfold knownP at h
    split at h
    · rename_i h1 h2
      split at h
      · rename_i h3
        have h1 := Nat.eq_of_beq_eq_true h1
        have h2 := boolsSame_eq h2
        have h3 := planSame_eq h3
        obtain ⟨a, b, c⟩ := x
        dsimp only at h1 h2 h3
        subst h1 h2 h3
        exact List.mem_cons_self
      · exact List.mem_cons_of_mem _ (knownP_spec h)
    · exact List.mem_cons_of_mem _ (knownP_spec h)
def coversO (F : PF) (ops : Array Oper) : Nat → Array Bool → Plan → Bool
  | 0, listed, p => covers .any ops 0 listed p
  | fuel + 1, listed, p => match knownP (fuel + 1) listed.toList p F with
    | true => true
    | false => match p with
      | .done => (Region.ready .any ops listed).isEmpty
      | .pure i p => (Region.ready .any ops listed).contains i && freeL .any ops false listed i && coversO F ops fuel (listed.setIfInBounds i true) p
      | .read i p => (Region.ready .any ops listed).contains i && freeL .any ops true listed i && coversO F ops fuel (listed.setIfInBounds i true) p
      | .eff i p => (Region.ready .any ops listed).all (· == i) && (Region.ready .any ops listed).contains i && coversO F ops fuel (listed.setIfInBounds i true) p
      | .alt p q => !(Region.ready .any ops listed).isEmpty && (Region.ready .any ops listed).all fun i => ((Plan.alt p q).heads.find? (fun h => h.1 == i)).any fun h => coversO F ops fuel (listed.setIfInBounds i true) h.2
theorem coversO_spec {F : PF} {ops : Array Oper} (hF : ∀ x ∈ F, covers .any ops x.1 x.2.1.toArray x.2.2 = true) : ∀ (fuel : Nat) (listed : Array Bool) (p : Plan), coversO F ops fuel listed p = true → covers .any ops fuel listed p = true
  | 0, listed, p, h => h
  | fuel + 1, listed, p, h => by
    unfold coversO at h
    split at h
    · rename_i hk
      have := hF _ (knownP_spec hk)
      simpa using this
    · cases p with
      | done => exact h
      | pure i p =>
        simp only [Bool.and_eq_true] at h
        simp only [covers, Bool.and_eq_true]
        exact ⟨h.1, coversO_spec hF _ _ _ h.2⟩
      | read i p =>
        simp only [Bool.and_eq_true] at h
        simp only [covers, Bool.and_eq_true]
        exact ⟨h.1, coversO_spec hF _ _ _ h.2⟩
      | eff i p =>
        simp only [Bool.and_eq_true] at h
        simp only [covers, Bool.and_eq_true]
        exact ⟨h.1, coversO_spec hF _ _ _ h.2⟩
      | alt p q =>
        simp only [Bool.and_eq_true, List.all_eq_true, Option.any_eq_true] at h
        simp only [covers, Bool.and_eq_true, List.all_eq_true, Option.any_eq_true]
        refine ⟨h.1, fun i hi => ?_⟩
        obtain ⟨x, hx, hc⟩ := h.2 i hi
        exact ⟨x, hx, coversO_spec hF _ _ _ hc⟩
def regsOf (id : Nat) : Code → List (Array Oper)
  | .region j ops true => match Nat.beq j id with | true => [ops] | false => []
  | .seq a b => regsOf id a ++ regsOf id b
  | .cond _ a b => regsOf id a ++ regsOf id b
  | .block _ a => regsOf id a
  | .loop a => regsOf id a
  | .scope a => regsOf id a
  | .rangeFunc _ _ a b => regsOf id a ++ regsOf id b
  | _ => []
def okC2 (skip : List Nat) (plans : Nat → Nat → Option Plan) (f : Nat) : Code → Bool
  | .region id ops true => match memN id skip with
    | true => true
    | false => match plans f id with
      | some pl => okR ops pl
      | none => true
  | .seq a b => match okC2 skip plans f a with | true => okC2 skip plans f b | false => false
  | .cond _ a b => match okC2 skip plans f a with | true => okC2 skip plans f b | false => false
  | .block _ a => okC2 skip plans f a
  | .loop a => okC2 skip plans f a
  | .scope a => okC2 skip plans f a
  | .rangeFunc _ _ a b => match okC2 skip plans f a with | true => okC2 skip plans f b | false => false
  | _ => true
theorem memN_mem {n : Nat} : ∀ {l : List Nat}, memN n l = true → n ∈ l
  | [], h => by cases h
  | x :: l, h => by
    unfold memN at h
    split at h
    · rename_i h1; rw [Nat.eq_of_beq_eq_true h1]; exact List.mem_cons_self
    · exact List.mem_cons_of_mem _ (memN_mem h)
theorem okC_of {skip : List Nat} {plans : Nat → Nat → Option Plan} {f : Nat} : ∀ (c : Code), okC2 skip plans f c = true → (∀ id ∈ skip, ∀ ops ∈ regsOf id c, ∃ pl, plans f id = some pl ∧ okR ops pl = true) → okC plans f c = true
  | .region id ops true, h, hs => by
    unfold okC2 at h
    unfold okC
    split at h
    · rename_i hm
      obtain ⟨pl, h1, h2⟩ := hs id (memN_mem hm) ops (by simp [regsOf])
      rw [h1]
      exact h2
    · exact h
  | .region id ops false, h, hs => by unfold okC; rfl
  | .seq a b, h, hs => by
    unfold okC2 at h
    unfold okC
    split at h
    · rename_i ha
      rw [okC_of a ha fun id hi ops ho => hs id hi ops (List.mem_append.2 (.inl ho))]
      exact okC_of b h fun id hi ops ho => hs id hi ops (List.mem_append.2 (.inr ho))
    · cases h
  | .cond _ a b, h, hs => by
    unfold okC2 at h
    unfold okC
    split at h
    · rename_i ha
      rw [okC_of a ha fun id hi ops ho => hs id hi ops (List.mem_append.2 (.inl ho))]
      exact okC_of b h fun id hi ops ho => hs id hi ops (List.mem_append.2 (.inr ho))
    · cases h
  | .rangeFunc _ _ a b, h, hs => by
    unfold okC2 at h
    unfold okC
    split at h
    · rename_i ha
      rw [okC_of a ha fun id hi ops ho => hs id hi ops (List.mem_append.2 (.inl ho))]
      exact okC_of b h fun id hi ops ho => hs id hi ops (List.mem_append.2 (.inr ho))
    · cases h
  | .block _ a, h, hs => by unfold okC2 at h; unfold okC; exact okC_of a h hs
  | .loop a, h, hs => by unfold okC2 at h; unfold okC; exact okC_of a h hs
  | .scope a, h, hs => by unfold okC2 at h; unfold okC; exact okC_of a h hs
  | .skip, _, _ | .label _, _, _ | .exit _, _, _ | .ret, _, _ | .goto _, _, _ | .refuse _, _, _ => by unfold okC; rfl
section
variable {P : Program} {plans : Nat → Nat → Option Plan}
def bodyOf (P : Program) (f : Nat) : Code := match P.funcs[f]? with
  | some fn => match fn.body with
    | some c => c
    | none => .skip
  | none => .skip
def partOk (P : Program) (f id : Nat) (F : PF) (fuel : Nat) (listed : List Bool) (p : Plan) : Bool := (regsOf id (bodyOf P f)).all fun ops => coversO F ops fuel listed.toArray p
def wholeOk (P : Program) (f id : Nat) (F : PF) (p : Plan) : Bool := (regsOf id (bodyOf P f)).all fun ops => Region.noSelect ops && coversO F ops ops.size (Array.replicate ops.size false) p
def AllOk (P : Program) (f id : Nat) (F : PF) : Prop := ∀ x ∈ F, ∀ ops ∈ regsOf id (bodyOf P f), covers .any ops x.1 x.2.1.toArray x.2.2 = true
theorem allOk_nil {f id : Nat} : AllOk P f id [] := fun x hx => by cases hx
theorem allOk_cons {f id fuel : Nat} {F : PF} {listed : List Bool} {p : Plan} (hF : AllOk P f id F) (h : partOk P f id F fuel listed p = true) : AllOk P f id ((fuel, listed, p) :: F) := by
  intro x hx ops ho
  rcases List.mem_cons.1 hx with rfl | hx
  · unfold partOk at h
    rw [List.all_eq_true] at h
    exact coversO_spec (fun y hy => hF y hy ops ho) _ _ _ (h ops ho)
  · exact hF x hx ops ho
theorem whole_ok {f id : Nat} {F : PF} {p : Plan} (hF : AllOk P f id F) (h : wholeOk P f id F p = true) : ∀ ops ∈ regsOf id (bodyOf P f), okR ops p = true := by
  intro ops ho
  unfold wholeOk at h
  rw [List.all_eq_true] at h
  have := h ops ho
  rw [Bool.and_eq_true] at this
  unfold okR
  rw [this.1]
  exact coversO_spec (fun y hy => hF y hy ops ho) _ _ _ this.2
theorem okB_of {f : Nat} {skip : List Nat} (h : okC2 skip plans f (bodyOf P f) = true) (hs : ∀ id ∈ skip, ∀ ops ∈ regsOf id (bodyOf P f), ∃ pl, plans f id = some pl ∧ okR ops pl = true) : okB P plans f = true := by
  have := okC_of (bodyOf P f) h hs
  unfold okB
  unfold bodyOf at this
  split
  · rename_i fn hf
    simp only [hf] at this
    split
    · rename_i c hc
      simp only [hc] at this
      exact this
    · rfl
  · rfl
end
end Go.Proofs.YtbjomeonjlialaaGreat.V.S
namespace Go.Proofs.YtbjomeonjlialaaGreat.V.S
def pl4 : List (Nat × Plan) := [(3, (.read 0 (.read 1 (.read 3 (.read 4 (.eff 2 (.eff 5 (.pure 6 (.pure 7 (.read 8 (.read 9 (.read 11 (.read 12 (.eff 10 (.eff 13 (.pure 14 (.pure 15 (.pure 16 (.read 17 (.read 18 (.eff 19 (.pure 20 (.pure 21 (.eff 22 (.pure 23 (.pure 24 .done))))))))))))))))))))))))))]
def q10_6_0 : Plan := (.eff 13 .done)
def q10_6_1 : Plan := (.eff 12 q10_6_0)
def q10_6_2 : Plan := (.eff 11 q10_6_1)
def q10_6_3 : Plan := (.eff 10 q10_6_1)
def q10_6_4 : Plan := (.read 9 q10_6_0)
def q10_6_5 : Plan := (.alt (.eff 9 q10_6_1) (.eff 12 q10_6_4))
def q10_6_6 : Plan := (.alt (.eff 9 q10_6_2) (.eff 11 q10_6_5))
def q10_6_7 : Plan := (.alt (.eff 9 q10_6_3) (.eff 10 q10_6_5))
def q10_6_8 : Plan := (.alt (.eff 6 (.pure 8 q10_6_5)) (.eff 12 (.read 6 (.pure 8 q10_6_4))))
def q10_12_0 : Plan := (.eff 13 .done)
def q10_12_1 : Plan := (.eff 12 q10_12_0)
def q10_12_2 : Plan := (.eff 11 q10_12_1)
def q10_12_3 : Plan := (.eff 10 q10_12_1)
def q10_12_4 : Plan := (.read 9 q10_12_0)
def q10_12_5 : Plan := (.alt (.eff 9 q10_12_1) (.eff 12 q10_12_4))
def q10_12_6 : Plan := (.alt (.eff 9 q10_12_2) (.eff 11 q10_12_5))
def q10_12_7 : Plan := (.alt (.eff 9 q10_12_3) (.eff 10 q10_12_5))
def q10_12_8 : Plan := (.alt (.eff 6 (.pure 8 q10_12_5)) (.eff 12 (.read 6 (.pure 8 q10_12_4))))
def pl10 : List (Nat × Plan) := [(6, (.pure 0 (.pure 2 (.pure 5 (.pure 7 (.read 1 (.pure 3 (.read 4 (.alt (.eff 6 (.pure 8 (.alt (.eff 9 (.alt (.eff 10 q10_6_2) (.eff 11 q10_6_3))) (.alt (.eff 10 q10_6_6) (.eff 11 q10_6_7))))) (.alt (.eff 10 (.alt (.eff 6 (.pure 8 q10_6_6)) (.eff 11 q10_6_8))) (.eff 11 (.alt (.eff 6 (.pure 8 q10_6_7)) (.eff 10 q10_6_8))))))))))))),
  (12, (.pure 0 (.pure 2 (.pure 5 (.pure 7 (.read 1 (.pure 3 (.read 4 (.alt (.eff 6 (.pure 8 (.alt (.eff 9 (.alt (.eff 10 q10_12_2) (.eff 11 q10_12_3))) (.alt (.eff 10 q10_12_6) (.eff 11 q10_12_7))))) (.alt (.eff 10 (.alt (.eff 6 (.pure 8 q10_12_6)) (.eff 11 q10_12_8))) (.eff 11 (.alt (.eff 6 (.pure 8 q10_12_7)) (.eff 10 q10_12_8))))))))))))),
  (18, (.pure 0 (.pure 2 (.pure 5 (.pure 7 (.read 1 (.pure 3 (.read 4 (.read 6 (.pure 8 (.read 9 (.pure 10 .done)))))))))))),
  (23, (.pure 0 (.pure 2 (.pure 5 (.pure 7 (.read 1 (.pure 3 (.read 4 (.read 6 (.pure 8 (.read 9 (.pure 10 .done)))))))))))),
  (28, (.pure 0 (.pure 2 (.pure 5 (.pure 7 (.read 1 (.pure 3 (.read 4 (.read 6 (.pure 8 (.read 9 (.pure 10 .done)))))))))))),
  (33, (.pure 0 (.pure 2 (.pure 5 (.pure 7 (.read 1 (.pure 3 (.read 4 (.read 6 (.pure 8 (.read 9 (.pure 10 .done))))))))))))]
def pl22 : List (Nat × Plan) := [(6, (.pure 0 (.pure 1 (.pure 2 (.pure 4 (.pure 5 (.pure 6 (.read 3 (.read 7 (.pure 8 .done))))))))))]
def pl23 : List (Nat × Plan) := [(6, (.pure 0 (.pure 1 (.pure 2 (.pure 4 (.pure 5 (.pure 6 (.read 3 (.read 7 (.pure 8 .done))))))))))]
def pl24 : List (Nat × Plan) := [(6, (.pure 0 (.pure 1 (.pure 2 (.pure 4 (.pure 5 (.pure 6 (.read 3 (.read 7 (.pure 8 .done))))))))))]
def pl25 : List (Nat × Plan) := [(6, (.pure 0 (.pure 1 (.pure 2 (.pure 4 (.pure 5 (.pure 6 (.read 3 (.read 7 (.pure 8 .done))))))))))]
def pl67 : List (Nat × Plan) := [(6, (.pure 0 (.pure 1 (.pure 2 (.pure 4 (.pure 5 (.pure 6 (.read 3 (.read 7 (.pure 8 .done))))))))))]
def pl68 : List (Nat × Plan) := [(6, (.pure 0 (.pure 1 (.pure 2 (.pure 4 (.pure 5 (.pure 6 (.read 3 (.read 7 (.pure 8 .done))))))))))]
def plTbl : Tr (List (Nat × Plan)) := (.n none (.n none (.n none (.n none .e (.n (some pl23) .e .e)) (.n none (.n none (.n none (.n (some pl67) .e .e) .e) .e) .e)) (.n none (.n none .e (.n (some pl25) .e .e)) .e)) (.n none (.n (some pl4) (.n none .e (.n (some pl24) .e .e)) (.n none (.n none (.n none (.n (some pl68) .e .e) .e) .e) .e)) (.n none (.n (some pl10) .e .e) (.n none (.n (some pl22) .e .e) .e))))
theorem okf4 : okB Tryz.prog (plansIn plTbl) 4 = true := by decide +kernel
theorem ok_q10_6_0 : partOk Tryz.prog 10 6 [] 1 [true, true, true, true, true, true, true, true, true, true, true, true, true, false] q10_6_0 = true := by decide +kernel
def F_q10_6_0 : PF := (1, [true, true, true, true, true, true, true, true, true, true, true, true, true, false], q10_6_0) :: []
theorem all_q10_6_0 : AllOk Tryz.prog 10 6 F_q10_6_0 := allOk_cons allOk_nil ok_q10_6_0
theorem ok_q10_6_1 : partOk Tryz.prog 10 6 F_q10_6_0 2 [true, true, true, true, true, true, true, true, true, true, true, true, false, false] q10_6_1 = true := by decide +kernel
def F_q10_6_1 : PF := (2, [true, true, true, true, true, true, true, true, true, true, true, true, false, false], q10_6_1) :: F_q10_6_0
theorem all_q10_6_1 : AllOk Tryz.prog 10 6 F_q10_6_1 := allOk_cons all_q10_6_0 ok_q10_6_1
theorem ok_q10_6_2 : partOk Tryz.prog 10 6 F_q10_6_1 3 [true, true, true, true, true, true, true, true, true, true, true, false, false, false] q10_6_2 = true := by decide +kernel
def F_q10_6_2 : PF := (3, [true, true, true, true, true, true, true, true, true, true, true, false, false, false], q10_6_2) :: F_q10_6_1
theorem all_q10_6_2 : AllOk Tryz.prog 10 6 F_q10_6_2 := allOk_cons all_q10_6_1 ok_q10_6_2
theorem ok_q10_6_3 : partOk Tryz.prog 10 6 F_q10_6_2 3 [true, true, true, true, true, true, true, true, true, true, false, true, false, false] q10_6_3 = true := by decide +kernel
def F_q10_6_3 : PF := (3, [true, true, true, true, true, true, true, true, true, true, false, true, false, false], q10_6_3) :: F_q10_6_2
theorem all_q10_6_3 : AllOk Tryz.prog 10 6 F_q10_6_3 := allOk_cons all_q10_6_2 ok_q10_6_3
theorem ok_q10_6_4 : partOk Tryz.prog 10 6 F_q10_6_3 2 [true, true, true, true, true, true, true, true, true, false, true, true, true, false] q10_6_4 = true := by decide +kernel
def F_q10_6_4 : PF := (2, [true, true, true, true, true, true, true, true, true, false, true, true, true, false], q10_6_4) :: F_q10_6_3
theorem all_q10_6_4 : AllOk Tryz.prog 10 6 F_q10_6_4 := allOk_cons all_q10_6_3 ok_q10_6_4
theorem ok_q10_6_5 : partOk Tryz.prog 10 6 F_q10_6_4 3 [true, true, true, true, true, true, true, true, true, false, true, true, false, false] q10_6_5 = true := by decide +kernel
def F_q10_6_5 : PF := (3, [true, true, true, true, true, true, true, true, true, false, true, true, false, false], q10_6_5) :: F_q10_6_4
theorem all_q10_6_5 : AllOk Tryz.prog 10 6 F_q10_6_5 := allOk_cons all_q10_6_4 ok_q10_6_5
theorem ok_q10_6_6 : partOk Tryz.prog 10 6 F_q10_6_5 4 [true, true, true, true, true, true, true, true, true, false, true, false, false, false] q10_6_6 = true := by decide +kernel
def F_q10_6_6 : PF := (4, [true, true, true, true, true, true, true, true, true, false, true, false, false, false], q10_6_6) :: F_q10_6_5
theorem all_q10_6_6 : AllOk Tryz.prog 10 6 F_q10_6_6 := allOk_cons all_q10_6_5 ok_q10_6_6
theorem ok_q10_6_7 : partOk Tryz.prog 10 6 F_q10_6_6 4 [true, true, true, true, true, true, true, true, true, false, false, true, false, false] q10_6_7 = true := by decide +kernel
def F_q10_6_7 : PF := (4, [true, true, true, true, true, true, true, true, true, false, false, true, false, false], q10_6_7) :: F_q10_6_6
theorem all_q10_6_7 : AllOk Tryz.prog 10 6 F_q10_6_7 := allOk_cons all_q10_6_6 ok_q10_6_7
theorem ok_q10_6_8 : partOk Tryz.prog 10 6 F_q10_6_7 5 [true, true, true, true, true, true, false, true, false, false, true, true, false, false] q10_6_8 = true := by decide +kernel
def F_q10_6_8 : PF := (5, [true, true, true, true, true, true, false, true, false, false, true, true, false, false], q10_6_8) :: F_q10_6_7
theorem all_q10_6_8 : AllOk Tryz.prog 10 6 F_q10_6_8 := allOk_cons all_q10_6_7 ok_q10_6_8
def pw10_6 : Plan := (.pure 0 (.pure 2 (.pure 5 (.pure 7 (.read 1 (.pure 3 (.read 4 (.alt (.eff 6 (.pure 8 (.alt (.eff 9 (.alt (.eff 10 q10_6_2) (.eff 11 q10_6_3))) (.alt (.eff 10 q10_6_6) (.eff 11 q10_6_7))))) (.alt (.eff 10 (.alt (.eff 6 (.pure 8 q10_6_6)) (.eff 11 q10_6_8))) (.eff 11 (.alt (.eff 6 (.pure 8 q10_6_7)) (.eff 10 q10_6_8))))))))))))
theorem okw10_6 : wholeOk Tryz.prog 10 6 F_q10_6_8 pw10_6 = true := by decide +kernel
theorem ok_q10_12_0 : partOk Tryz.prog 10 12 [] 1 [true, true, true, true, true, true, true, true, true, true, true, true, true, false] q10_12_0 = true := by decide +kernel
def F_q10_12_0 : PF := (1, [true, true, true, true, true, true, true, true, true, true, true, true, true, false], q10_12_0) :: []
theorem all_q10_12_0 : AllOk Tryz.prog 10 12 F_q10_12_0 := allOk_cons allOk_nil ok_q10_12_0
theorem ok_q10_12_1 : partOk Tryz.prog 10 12 F_q10_12_0 2 [true, true, true, true, true, true, true, true, true, true, true, true, false, false] q10_12_1 = true := by decide +kernel
def F_q10_12_1 : PF := (2, [true, true, true, true, true, true, true, true, true, true, true, true, false, false], q10_12_1) :: F_q10_12_0
theorem all_q10_12_1 : AllOk Tryz.prog 10 12 F_q10_12_1 := allOk_cons all_q10_12_0 ok_q10_12_1
theorem ok_q10_12_2 : partOk Tryz.prog 10 12 F_q10_12_1 3 [true, true, true, true, true, true, true, true, true, true, true, false, false, false] q10_12_2 = true := by decide +kernel
def F_q10_12_2 : PF := (3, [true, true, true, true, true, true, true, true, true, true, true, false, false, false], q10_12_2) :: F_q10_12_1
theorem all_q10_12_2 : AllOk Tryz.prog 10 12 F_q10_12_2 := allOk_cons all_q10_12_1 ok_q10_12_2
theorem ok_q10_12_3 : partOk Tryz.prog 10 12 F_q10_12_2 3 [true, true, true, true, true, true, true, true, true, true, false, true, false, false] q10_12_3 = true := by decide +kernel
def F_q10_12_3 : PF := (3, [true, true, true, true, true, true, true, true, true, true, false, true, false, false], q10_12_3) :: F_q10_12_2
theorem all_q10_12_3 : AllOk Tryz.prog 10 12 F_q10_12_3 := allOk_cons all_q10_12_2 ok_q10_12_3
theorem ok_q10_12_4 : partOk Tryz.prog 10 12 F_q10_12_3 2 [true, true, true, true, true, true, true, true, true, false, true, true, true, false] q10_12_4 = true := by decide +kernel
def F_q10_12_4 : PF := (2, [true, true, true, true, true, true, true, true, true, false, true, true, true, false], q10_12_4) :: F_q10_12_3
theorem all_q10_12_4 : AllOk Tryz.prog 10 12 F_q10_12_4 := allOk_cons all_q10_12_3 ok_q10_12_4
theorem ok_q10_12_5 : partOk Tryz.prog 10 12 F_q10_12_4 3 [true, true, true, true, true, true, true, true, true, false, true, true, false, false] q10_12_5 = true := by decide +kernel
def F_q10_12_5 : PF := (3, [true, true, true, true, true, true, true, true, true, false, true, true, false, false], q10_12_5) :: F_q10_12_4
theorem all_q10_12_5 : AllOk Tryz.prog 10 12 F_q10_12_5 := allOk_cons all_q10_12_4 ok_q10_12_5
theorem ok_q10_12_6 : partOk Tryz.prog 10 12 F_q10_12_5 4 [true, true, true, true, true, true, true, true, true, false, true, false, false, false] q10_12_6 = true := by decide +kernel
def F_q10_12_6 : PF := (4, [true, true, true, true, true, true, true, true, true, false, true, false, false, false], q10_12_6) :: F_q10_12_5
theorem all_q10_12_6 : AllOk Tryz.prog 10 12 F_q10_12_6 := allOk_cons all_q10_12_5 ok_q10_12_6
theorem ok_q10_12_7 : partOk Tryz.prog 10 12 F_q10_12_6 4 [true, true, true, true, true, true, true, true, true, false, false, true, false, false] q10_12_7 = true := by decide +kernel
def F_q10_12_7 : PF := (4, [true, true, true, true, true, true, true, true, true, false, false, true, false, false], q10_12_7) :: F_q10_12_6
theorem all_q10_12_7 : AllOk Tryz.prog 10 12 F_q10_12_7 := allOk_cons all_q10_12_6 ok_q10_12_7
theorem ok_q10_12_8 : partOk Tryz.prog 10 12 F_q10_12_7 5 [true, true, true, true, true, true, false, true, false, false, true, true, false, false] q10_12_8 = true := by decide +kernel
def F_q10_12_8 : PF := (5, [true, true, true, true, true, true, false, true, false, false, true, true, false, false], q10_12_8) :: F_q10_12_7
theorem all_q10_12_8 : AllOk Tryz.prog 10 12 F_q10_12_8 := allOk_cons all_q10_12_7 ok_q10_12_8
def pw10_12 : Plan := (.pure 0 (.pure 2 (.pure 5 (.pure 7 (.read 1 (.pure 3 (.read 4 (.alt (.eff 6 (.pure 8 (.alt (.eff 9 (.alt (.eff 10 q10_12_2) (.eff 11 q10_12_3))) (.alt (.eff 10 q10_12_6) (.eff 11 q10_12_7))))) (.alt (.eff 10 (.alt (.eff 6 (.pure 8 q10_12_6)) (.eff 11 q10_12_8))) (.eff 11 (.alt (.eff 6 (.pure 8 q10_12_7)) (.eff 10 q10_12_8))))))))))))
theorem okw10_12 : wholeOk Tryz.prog 10 12 F_q10_12_8 pw10_12 = true := by decide +kernel
theorem okf10 : okB Tryz.prog (plansIn plTbl) 10 = true := by
  refine okB_of (skip := [6, 12]) (by decide +kernel) ?_
  intro id hid ops ho
  simp only [List.mem_cons, List.not_mem_nil, or_false] at hid
  rcases hid with rfl | rfl
  · exact ⟨pw10_6, rfl, whole_ok all_q10_6_8 okw10_6 ops ho⟩
  · exact ⟨pw10_12, rfl, whole_ok all_q10_12_8 okw10_12 ops ho⟩
theorem okf22 : okB Tryz.prog (plansIn plTbl) 22 = true := by decide +kernel
theorem okf23 : okB Tryz.prog (plansIn plTbl) 23 = true := by decide +kernel
theorem okf24 : okB Tryz.prog (plansIn plTbl) 24 = true := by decide +kernel
theorem okf25 : okB Tryz.prog (plansIn plTbl) 25 = true := by decide +kernel
theorem okf67 : okB Tryz.prog (plansIn plTbl) 67 = true := by decide +kernel
theorem okf68 : okB Tryz.prog (plansIn plTbl) 68 = true := by decide +kernel
def plKeys : List Nat := [4, 10, 22, 23, 24, 25, 67, 68]
theorem ok_keys : ∀ f, memN f plKeys = true → okB Tryz.prog (plansIn plTbl) f = true := (okB_cons okf4 (okB_cons okf10 (okB_cons okf22 (okB_cons okf23 (okB_cons okf24 (okB_cons okf25 (okB_cons okf67 (okB_cons okf68 okB_nil))))))))
theorem keys_all : keysIn plTbl plKeys 480 = true := by decide +kernel
theorem plans_ok : OkAll Tryz.prog (plansIn plTbl) := okB_all ok_keys keys_all (by decide +kernel)
theorem base_ok (l : List Value) (h : ∀ v ∈ l, v.oneCell' = true) (w : World) : @RunBase (sigOf Tryz.prog (plansIn plTbl) l h w) Tryz.prog (plansIn plTbl) := RunBase.of mixed (by decide +kernel) plans_ok l h w
end Go.Proofs.YtbjomeonjlialaaGreat.V.S
