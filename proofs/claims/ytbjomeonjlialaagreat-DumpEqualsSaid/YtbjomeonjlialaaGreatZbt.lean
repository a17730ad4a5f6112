/-
  What a call may be told from outside: a function without arguments that gives a known value, a function that is shown by other means. A run's word for a call, from the world in which it begins. No condition: these are rules over any program; and what follows from it.
-/
import Derived.Test.YtbjomeonjlialaaGreatZbs
import Derived.Shelf.SlIterI.Collect
import Derived.Test.YtbjomeonjlialaaGreatZai
import Derived.Shelf.SlMaps.Clone
set_option linter.unusedVariables false
set_option linter.unusedSimpArgs false
namespace Go.Proofs.YtbjomeonjlialaaGreat.V
section
variable {P : Program}
def orExt (a b : CallA) : CallA := fun g args st => match a g args st with
  | some z => some z
  | none => b g args st
theorem orExt_ok [Sig] {lo : Nat} {a b : CallA} (ha : CallOK P lo a) (hb : CallOK P lo b) : CallOK P lo (orExt a b) := by
  intro g args st v st' h
  unfold orExt at h
  split at h
  · rename_i z hz
    cases h
    exact ha g args st v st' hz
  · exact hb g args st v st' h
def extAt (f : Nat) (args : List AV) (v : AV) : CallA := fun g ys st => match Nat.beq g f, sameVs ys args with
  | true, true => some (v, st)
  | _, _ => none
abbrev sigOf (plans : Nat → Nat → Option Plan) (l : List Value) (h : ∀ v ∈ l, v.oneCell' = true) (w : World) : Sig where
  val i := l.getD i (.bool false)
  one i := by
    cases hi : l[i]? with
    | none => simp [List.getD, hi, Value.oneCell']
    | some v => simpa [List.getD, hi] using h v (List.mem_of_getElem? hi)
  ok f c := okC plans f c = true
  base := w
structure RunBase [Sig] (P : Program) (plans : Nat → Nat → Option Plan) : Prop where
  mix : P.follows .mixedOrders = true
  sz : Nat.ble P.funcs.size YB = true
  ok : ∀ f c, Sig.ok f c ↔ okC plans f c = true
  fs : OkAll P plans
theorem RunBase.of {plans : Nat → Nat → Option Plan} (h1 : P.follows .mixedOrders = true) (h2 : Nat.ble P.funcs.size YB = true) (h3 : OkAll P plans) (l : List Value) (h : ∀ v ∈ l, v.oneCell' = true) (w : World) : @RunBase (sigOf plans l h w) P plans :=
  @RunBase.mk (sigOf plans l h w) P plans h1 h2 (fun _ _ => Iff.rfl) h3
theorem RunBase.call [Sig] {lo : Nat} {plans : Nat → Nat → Option Plan} {ext : CallA} (h : RunBase P plans) (hext : CallOK P lo ext) (k : Nat) : CallOK P lo (evText P plans ext k) :=
  evText_sound h.mix (Nat.le_of_ble_eq_true h.sz) h.ok h.fs hext k
theorem Sat.begin [Sig] (w : World) (h : Sig.base = w) : Sat w.heap.size (fun _ => none) .e w :=
  ⟨fun b ab hb => by simp [Tr.get] at hb, fun b c ab ac B K K' hb => by simp [Tr.get] at hb, fun b _ => rfl, Nat.le_refl _, by rw [h]; exact Mod.refl w⟩
def runsTo (P : Program) (plans : Nat → Nat → Option Plan) (ext : CallA) (k f : Nat) (args : List AV) (z : Bool) : Bool :=
  match evText P plans ext k f args ⟨.e, .e, 0, []⟩ with
  | some (.b b, _) => (match b, z with | true, true => true | false, false => true | _, _ => false)
  | _ => false
theorem run_bool [Sig] {plans : Nat → Nat → Option Plan} {ext : CallA} {k f : Nat} {args : List AV} {Args : List Value} {w : World} {z : Bool} (hbase : Sig.base = w) (hb : RunBase P plans) (hext : CallOK P w.heap.size ext)
    (hA : RelL (fun _ => none) args Args) (h : runsTo P plans ext k f args z = true) :
    Ret P f Args.toArray w fun V w' => V = .bool z ∧ Ext w w' := by
  unfold runsTo at h
  split at h
  · rename_i b st' he
    have hbz : b = z := by revert h; cases b <;> cases z <;> simp
    subst hbz
    refine (hb.call hext k f args ⟨.e, .e, 0, []⟩ _ _ he (fun _ => none) w Args hA (Sat.begin w hbase)).mono ?_
    rintro V w' ⟨r', _, h2, _, h4⟩
    refine ⟨rel_b h2, ?_⟩
    exact ⟨h4.os, h4.tape, h4.output, h4.size, fun k hk _ => h4.block k hk (Nat.not_le_of_lt hk)⟩
  · cases h
end
end Go.Proofs.YtbjomeonjlialaaGreat.V
namespace Go.Proofs.YtbjomeonjlialaaGreat.V
open Go.RowKit Go.Maps Go.Shelf
section
variable {P : Program} {ρ : Ren}
def extClone (fc : Nat) : CallA := fun g args st => match Nat.beq g fc, args with
  | true, [.m b] => match st.H.get b with
    | some (.map es clock) => st.new (.map es clock) (.m st.next)
    | _ => none
  | true, [.m0] => some (.m0, st)
  | _, _ => none
theorem extClone_ok [Sig] (L : SlLaysW.n5 P ρ) (lo : Nat) : CallOK P lo (extClone (ρ.f 5)) := by
  intro g args st v st' h r w Args hArgs hs
  unfold extClone at h
  split at h
  · rename_i b hg
    have hg := Nat.eq_of_beq_eq_true hg
    subst hg
    obtain ⟨A, M, rfl, hA, hM⟩ := hArgs.of_cons
    have := hM.of_nil
    subst this
    unfold Rel at hA
    obtain ⟨B2, K2, hr2, rfl⟩ := hA
    split at h
    · rename_i es clock hmap
      obtain ⟨_, E, hE, hB⟩ := hs.here hmap hr2
      unfold ST.new at h
      split at h
      · rename_i hfree
        cases h
        unfold Ret
        refine (AnyW.maps_Clone L B2 E.toArray clock w hB).mono ?_
        rintro e w' ⟨rfl, rfl⟩
        have hx : Ext w (w.alloc (.map E.toArray clock)) := Ext.alloc w _
        have hle0 := Rho.le.set (hs.free _ hfree) (w.heap.size, 0)
        obtain ⟨hle, hsat⟩ := hs.newTop (K := 0) (ab := .map es clock) hfree hx ⟨E, hE.mono hle0, heap_alloc_new w _⟩
        refine ⟨_, rfl, _, hle, ?_, hsat, modLo hx⟩
        unfold Rel
        exact ⟨w.heap.size, 0, Rho.set_same _ _ _, rfl⟩
      · cases h
    · cases h
  · rename_i hg
    have hg := Nat.eq_of_beq_eq_true hg
    subst hg
    cases h
    obtain ⟨A, M, rfl, hA, hM⟩ := hArgs.of_cons
    have := hM.of_nil
    subst this
    unfold Rel at hA
    subst hA
    unfold Ret
    refine (AnyW.maps_Clone_nil L w).mono ?_
    rintro e w' ⟨rfl, rfl⟩
    exact ⟨_, rfl, r, Rho.le.refl r, by unfold Rel; rfl, hs, Mod.refl _⟩
  · cases h
end
end Go.Proofs.YtbjomeonjlialaaGreat.V
namespace Go.Proofs.YtbjomeonjlialaaGreat.V
open Go.Shelf
theorem zero_atc {P : Program} {t : TypeId} {z : Value} (h : (P.info? t).bind (·.zero) = some z) (w : World) : (zeroValue t).run P w = .ok z w := by
  cases hi : P.info? t with
  | none => rw [hi] at h; cases h
  | some i =>
    rw [hi] at h
    have hz : i.zero = some z := h
    simp [zeroValue, typeInfo, hi, hz]
def cloneRen0 : Ren := ⟨fun | 5 => 163 | 7 => 230 | _ => 0, fun | 3 => 280 | 4 => 4 | 20 => 20 | 23 => 277 | 25 => 3 | _ => 0, fun _ => 0⟩
theorem lay_c0 : Bears Tryz.prog 163 (SlBodyW.n5 cloneRen0) := ⟨"maps.Clone[map[int]tagcache/recent.link,int,tagcache/recent.link]", by decide, by kernel_rfl⟩
theorem lay_ca0_4 : tyB Tryz.prog 4 = some (false, 1) := by kernel_rfl
theorem lay_cv0_4 : ((Tryz.prog).info? 4).bind (·.zero) = some (Value.bool false) := by kernel_rfl
theorem lay_ca0_20 : tyB Tryz.prog 20 = some (false, 1) := by kernel_rfl
theorem lay_cv0_20 : ((Tryz.prog).info? 20).bind (·.zero) = some (Value.nilIface) := by kernel_rfl
theorem lay_ca0_23 : tyB Tryz.prog 277 = some (false, 1) := by kernel_rfl
theorem lay_cv0_23 : ((Tryz.prog).info? 277).bind (·.zero) = some (Value.map none) := by kernel_rfl
theorem laysc0 : SlLaysW.n5 Tryz.prog cloneRen0 := { mixed := by kernel_rfl, f5 := lay_c0, f7 := by kernel_rfl, t4 := by kernel_rfl, a4 := fun w => (TyF.mk lay_ca0_4).isAgg w, z4 := fun w => (TyF.mk lay_ca0_4).sizeOf w, v4 := zero_atc lay_cv0_4, t20 := by kernel_rfl, a20 := fun w => (TyF.mk lay_ca0_20).isAgg w, z20 := fun w => (TyF.mk lay_ca0_20).sizeOf w, v20 := zero_atc lay_cv0_20, t23 := by kernel_rfl, a23 := fun w => (TyF.mk lay_ca0_23).isAgg w, z23 := fun w => (TyF.mk lay_ca0_23).sizeOf w, v23 := zero_atc lay_cv0_23 }
def cloneRen1 : Ren := ⟨fun | 5 => 166 | 7 => 230 | _ => 0, fun | 3 => 3 | 4 => 4 | 20 => 20 | 23 => 284 | 25 => 3 | _ => 0, fun _ => 0⟩
theorem lay_c1 : Bears Tryz.prog 166 (SlBodyW.n5 cloneRen1) := ⟨"maps.Clone[map[int]int,int,int]", by decide, by kernel_rfl⟩
theorem lay_ca1_4 : tyB Tryz.prog 4 = some (false, 1) := by kernel_rfl
theorem lay_cv1_4 : ((Tryz.prog).info? 4).bind (·.zero) = some (Value.bool false) := by kernel_rfl
theorem lay_ca1_20 : tyB Tryz.prog 20 = some (false, 1) := by kernel_rfl
theorem lay_cv1_20 : ((Tryz.prog).info? 20).bind (·.zero) = some (Value.nilIface) := by kernel_rfl
theorem lay_ca1_23 : tyB Tryz.prog 284 = some (false, 1) := by kernel_rfl
theorem lay_cv1_23 : ((Tryz.prog).info? 284).bind (·.zero) = some (Value.map none) := by kernel_rfl
theorem laysc1 : SlLaysW.n5 Tryz.prog cloneRen1 := { mixed := by kernel_rfl, f5 := lay_c1, f7 := by kernel_rfl, t4 := by kernel_rfl, a4 := fun w => (TyF.mk lay_ca1_4).isAgg w, z4 := fun w => (TyF.mk lay_ca1_4).sizeOf w, v4 := zero_atc lay_cv1_4, t20 := by kernel_rfl, a20 := fun w => (TyF.mk lay_ca1_20).isAgg w, z20 := fun w => (TyF.mk lay_ca1_20).sizeOf w, v20 := zero_atc lay_cv1_20, t23 := by kernel_rfl, a23 := fun w => (TyF.mk lay_ca1_23).isAgg w, z23 := fun w => (TyF.mk lay_ca1_23).sizeOf w, v23 := zero_atc lay_cv1_23 }
def extClones : CallA := orExt (extClone 163) (extClone 166)
theorem extClones_ok [Sig] (lo : Nat) : CallOK Tryz.prog lo extClones := orExt_ok (extClone_ok laysc0 lo) (extClone_ok laysc1 lo)
end Go.Proofs.YtbjomeonjlialaaGreat.V
namespace Go.Proofs.YtbjomeonjlialaaGreat.V
def extAll : CallA := extClones
theorem extAll_ok [Sig] (lo : Nat) : CallOK Tryz.prog lo extAll := extClones_ok lo
end Go.Proofs.YtbjomeonjlialaaGreat.V
namespace Go.Proofs.YtbjomeonjlialaaGreat.V
section
variable {P : Program} {plans : Nat → Nat → Option Plan} {ext : CallA}
def putsT (H : Tr AB) : List (Nat × AB) → Tr AB
  | [] => H
  | (k, a) :: r => putsT (H.put k a) r
def chunkOk (P : Program) (plans : Nat → Nat → Option Plan) (ext : CallA) (k g : Nat) (args : List AV) (H : Tr AB) (next : Nat) (v : AV) (H' : Tr AB) (next' : Nat) : Bool :=
  match evText P plans ext k g args ⟨.e, H, next, []⟩ with
  | some (u, s) => match sameV u v, Tr.same AB.same s.H H', Nat.beq s.next next' with
    | true, true, true => true
    | _, _, _ => false
  | none => false
def extChunk (g : Nat) (args : List AV) (H : Tr AB) (next : Nat) (v : AV) (H' : Tr AB) (next' : Nat) : CallA := fun f ys st =>
  match Nat.beq f g, Nat.beq st.next next with
  | true, true => match sameVs ys args, Tr.same AB.same st.H H with
    | true, true => some (v, ⟨.e, H', next', []⟩)
    | _, _ => none
  | _, _ => none
theorem extChunk_ok [Sig] {lo k g next next' : Nat} {args : List AV} {H H' : Tr AB} {v : AV} (hb : RunBase P plans) (hext : CallOK P lo ext) (h : chunkOk P plans ext k g args H next v H' next' = true) :
    CallOK P lo (extChunk g args H next v H' next') := by
  intro f ys st u st' he r w Args hA hs
  unfold extChunk at he
  split at he
  · rename_i h1 h2
    split at he
    · rename_i h3 h4
      cases he
      have h1 := Nat.eq_of_beq_eq_true h1
      have h3 := sameVs_eq h3
      have h4 := Tr.same_eq (fun _ _ h => AB.same_eq h) h4
      subst h1 h3
      unfold chunkOk at h
      split at h
      · rename_i u s hev
        split at h
        · rename_i k1 k2 k3
          have k1 := sameV_eq k1
          have k2 := Tr.same_eq (fun _ _ h => AB.same_eq h) k2
          subst k1
          have := hb.call hext k f ys ⟨.e, H, next, []⟩ _ s hev r w Args hA (by rw [← h4]; exact hs)
          rw [k2] at this
          exact this
        · cases h
      · cases h
    · cases he
  · cases he
end
end Go.Proofs.YtbjomeonjlialaaGreat.V
namespace Go.Proofs.YtbjomeonjlialaaGreat.V
def boolSame : Bool → Bool → Bool | true, true => true | false, false => true | _, _ => false
theorem boolSame_eq {a b : Bool} (h : boolSame a b = true) : a = b := by cases a <;> cases b <;> simp_all [boolSame]
def boolsSame : List Bool → List Bool → Bool
  | [], [] => true
  | a :: l, b :: m => match boolSame a b with | true => boolsSame l m | false => false
  | _, _ => false
theorem boolsSame_eq : ∀ {l m : List Bool}, boolsSame l m = true → l = m
  | [], [], _ => rfl
  | [], _ :: _, h => by cases h
  | _ :: _, [], h => by cases h
  | a :: l, b :: m, h => by
    unfold boolsSame at h
    split at h
    · rename_i h1; rw [boolSame_eq h1, boolsSame_eq h]
    · cases h
def planSame : Plan → Plan → Bool
  | .done, .done => true
  | .pure i p, .pure j q => match Nat.beq i j with | true => planSame p q | false => false
  | .read i p, .read j q => match Nat.beq i j with | true => planSame p q | false => false
  | .eff i p, .eff j q => match Nat.beq i j with | true => planSame p q | false => false
  | .alt p p2, .alt q q2 => match planSame p q with | true => planSame p2 q2 | false => false
  | _, _ => false
theorem planSame_eq : ∀ {p q : Plan}, planSame p q = true → p = q := by
  intro p
  induction p with
  | done => intro q h; cases q <;> simp_all [planSame]
  | pure i p ih =>
    intro q h
    cases q <;> simp only [planSame, Bool.false_eq_true] at h
    split at h
    · rename_i h1; rw [Nat.eq_of_beq_eq_true h1, ih h]
    · cases h
  | read i p ih =>
    intro q h
    cases q <;> simp only [planSame, Bool.false_eq_true] at h
    split at h
    · rename_i h1; rw [Nat.eq_of_beq_eq_true h1, ih h]
    · cases h
  | eff i p ih =>
    intro q h
    cases q <;> simp only [planSame, Bool.false_eq_true] at h
    split at h
    · rename_i h1; rw [Nat.eq_of_beq_eq_true h1, ih h]
    · cases h
  | alt p p2 ih ih2 =>
    intro q h
    cases q <;> simp only [planSame, Bool.false_eq_true] at h
    split at h
    · rename_i h1; rw [ih h1, ih2 h]
    · cases h
abbrev PF := List (Nat × List Bool × Plan)
def knownP (fuel : Nat) (listed : List Bool) (p : Plan) : PF → Bool
  | [] => false
  | x :: r => match Nat.beq x.1 fuel, boolsSame x.2.1 listed with
    | true, true => match planSame x.2.2 p with
      | true => true
      | false => knownP fuel listed p r
    | _, _ => knownP fuel listed p r
theorem knownP_spec {fuel : Nat} {listed : List Bool} {p : Plan} : ∀ {F : PF}, knownP fuel listed p F = true → (fuel, listed, p) ∈ F
  | [], h => by cases h
  | x :: r, h => by
    unfold knownP at h
    split at h
    · rename_i h1 h2
      split at h
      · rename_i h3
        have h1 := Nat.eq_of_beq_eq_true h1
        have h2 := boolsSame_eq h2
        have h3 := planSame_eq h3
        obtain ⟨a, b, c⟩ := x
        dsimp only at h1 h2 h3
        subst h1 h2 h3
        exact List.mem_cons_self
      · exact List.mem_cons_of_mem _ (knownP_spec h)
    · exact List.mem_cons_of_mem _ (knownP_spec h)
def coversO (F : PF) (ops : Array Oper) : Nat → Array Bool → Plan → Bool
  | 0, listed, p => covers .any ops 0 listed p
  | fuel + 1, listed, p => match knownP (fuel + 1) listed.toList p F with
    | true => true
    | false => match p with
      | .done => (Region.ready .any ops listed).isEmpty
      | .pure i p => (Region.ready .any ops listed).contains i && freeL .any ops false listed i && coversO F ops fuel (listed.setIfInBounds i true) p
      | .read i p => (Region.ready .any ops listed).contains i && freeL .any ops true listed i && coversO F ops fuel (listed.setIfInBounds i true) p
      | .eff i p => (Region.ready .any ops listed).all (· == i) && (Region.ready .any ops listed).contains i && coversO F ops fuel (listed.setIfInBounds i true) p
      | .alt p q => !(Region.ready .any ops listed).isEmpty && (Region.ready .any ops listed).all fun i => ((Plan.alt p q).heads.find? (fun h => h.1 == i)).any fun h => coversO F ops fuel (listed.setIfInBounds i true) h.2
theorem coversO_spec {F : PF} {ops : Array Oper} (hF : ∀ x ∈ F, covers .any ops x.1 x.2.1.toArray x.2.2 = true) : ∀ (fuel : Nat) (listed : Array Bool) (p : Plan), coversO F ops fuel listed p = true → covers .any ops fuel listed p = true
  | 0, listed, p, h => h
  | fuel + 1, listed, p, h => by
    unfold coversO at h
    split at h
    · rename_i hk
      have := hF _ (knownP_spec hk)
      simpa using this
    · cases p with
      | done => exact h
      | pure i p =>
        simp only [Bool.and_eq_true] at h
        simp only [covers, Bool.and_eq_true]
        exact ⟨h.1, coversO_spec hF _ _ _ h.2⟩
      | read i p =>
        simp only [Bool.and_eq_true] at h
        simp only [covers, Bool.and_eq_true]
        exact ⟨h.1, coversO_spec hF _ _ _ h.2⟩
      | eff i p =>
        simp only [Bool.and_eq_true] at h
        simp only [covers, Bool.and_eq_true]
        exact ⟨h.1, coversO_spec hF _ _ _ h.2⟩
      | alt p q =>
        simp only [Bool.and_eq_true, List.all_eq_true, Option.any_eq_true] at h
        simp only [covers, Bool.and_eq_true, List.all_eq_true, Option.any_eq_true]
        refine ⟨h.1, fun i hi => ?_⟩
        obtain ⟨x, hx, hc⟩ := h.2 i hi
        exact ⟨x, hx, coversO_spec hF _ _ _ hc⟩
def regsOf (id : Nat) : Code → List (Array Oper)
  | .region j ops true => match Nat.beq j id with | true => [ops] | false => []
  | .seq a b => regsOf id a ++ regsOf id b
  | .cond _ a b => regsOf id a ++ regsOf id b
  | .block _ a => regsOf id a
  | .loop a => regsOf id a
  | .scope a => regsOf id a
  | .rangeFunc _ _ a b => regsOf id a ++ regsOf id b
  | _ => []
def okC2 (skip : List Nat) (plans : Nat → Nat → Option Plan) (f : Nat) : Code → Bool
  | .region id ops true => match memN id skip with
    | true => true
    | false => match plans f id with
      | some pl => okR ops pl
      | none => true
  | .seq a b => match okC2 skip plans f a with | true => okC2 skip plans f b | false => false
  | .cond _ a b => match okC2 skip plans f a with | true => okC2 skip plans f b | false => false
  | .block _ a => okC2 skip plans f a
  | .loop a => okC2 skip plans f a
  | .scope a => okC2 skip plans f a
  | .rangeFunc _ _ a b => match okC2 skip plans f a with | true => okC2 skip plans f b | false => false
  | _ => true
theorem memN_mem {n : Nat} : ∀ {l : List Nat}, memN n l = true → n ∈ l
  | [], h => by cases h
  | x :: l, h => by
    unfold memN at h
    split at h
    · rename_i h1; rw [Nat.eq_of_beq_eq_true h1]; exact List.mem_cons_self
    · exact List.mem_cons_of_mem _ (memN_mem h)
theorem okC_of {skip : List Nat} {plans : Nat → Nat → Option Plan} {f : Nat} : ∀ (c : Code), okC2 skip plans f c = true → (∀ id ∈ skip, ∀ ops ∈ regsOf id c, ∃ pl, plans f id = some pl ∧ okR ops pl = true) → okC plans f c = true
  | .region id ops true, h, hs => by
    unfold okC2 at h
    unfold okC
    split at h
    · rename_i hm
      obtain ⟨pl, h1, h2⟩ := hs id (memN_mem hm) ops (by simp [regsOf])
      rw [h1]
      exact h2
    · exact h
  | .region id ops false, h, hs => by unfold okC; rfl
  | .seq a b, h, hs => by
    unfold okC2 at h
    unfold okC
    split at h
    · rename_i ha
      rw [okC_of a ha fun id hi ops ho => hs id hi ops (List.mem_append.2 (.inl ho))]
      exact okC_of b h fun id hi ops ho => hs id hi ops (List.mem_append.2 (.inr ho))
    · cases h
  | .cond _ a b, h, hs => by
    unfold okC2 at h
    unfold okC
    split at h
    · rename_i ha
      rw [okC_of a ha fun id hi ops ho => hs id hi ops (List.mem_append.2 (.inl ho))]
      exact okC_of b h fun id hi ops ho => hs id hi ops (List.mem_append.2 (.inr ho))
    · cases h
  | .rangeFunc _ _ a b, h, hs => by
    unfold okC2 at h
    unfold okC
    split at h
    · rename_i ha
      rw [okC_of a ha fun id hi ops ho => hs id hi ops (List.mem_append.2 (.inl ho))]
      exact okC_of b h fun id hi ops ho => hs id hi ops (List.mem_append.2 (.inr ho))
    · cases h
  | .block _ a, h, hs => by unfold okC2 at h; unfold okC; exact okC_of a h hs
  | .loop a, h, hs => by unfold okC2 at h; unfold okC; exact okC_of a h hs
  | .scope a, h, hs => by unfold okC2 at h; unfold okC; exact okC_of a h hs
  | .skip, _, _ | .label _, _, _ | .exit _, _, _ | .ret, _, _ | .goto _, _, _ | .refuse _, _, _ => by unfold okC; rfl
section
variable {P : Program} {plans : Nat → Nat → Option Plan}
def bodyOf (P : Program) (f : Nat) : Code := match P.funcs[f]? with
  | some fn => match fn.body with
    | some c => c
    | none => .skip
  | none => .skip
def partOk (P : Program) (f id : Nat) (F : PF) (fuel : Nat) (listed : List Bool) (p : Plan) : Bool := (regsOf id (bodyOf P f)).all fun ops => coversO F ops fuel listed.toArray p
def wholeOk (P : Program) (f id : Nat) (F : PF) (p : Plan) : Bool := (regsOf id (bodyOf P f)).all fun ops => Region.noSelect ops && coversO F ops ops.size (Array.replicate ops.size false) p
def AllOk (P : Program) (f id : Nat) (F : PF) : Prop := ∀ x ∈ F, ∀ ops ∈ regsOf id (bodyOf P f), covers .any ops x.1 x.2.1.toArray x.2.2 = true
theorem allOk_nil {f id : Nat} : AllOk P f id [] := fun x hx => by cases hx
theorem allOk_cons {f id fuel : Nat} {F : PF} {listed : List Bool} {p : Plan} (hF : AllOk P f id F) (h : partOk P f id F fuel listed p = true) : AllOk P f id ((fuel, listed, p) :: F) := by
  intro x hx ops ho
  rcases List.mem_cons.1 hx with rfl | hx
  · unfold partOk at h
    rw [List.all_eq_true] at h
    exact coversO_spec (fun y hy => hF y hy ops ho) _ _ _ (h ops ho)
  · exact hF x hx ops ho
theorem whole_ok {f id : Nat} {F : PF} {p : Plan} (hF : AllOk P f id F) (h : wholeOk P f id F p = true) : ∀ ops ∈ regsOf id (bodyOf P f), okR ops p = true := by
  intro ops ho
  unfold wholeOk at h
  rw [List.all_eq_true] at h
  have := h ops ho
  rw [Bool.and_eq_true] at this
  unfold okR
  rw [this.1]
  exact coversO_spec (fun y hy => hF y hy ops ho) _ _ _ this.2
theorem okB_of {f : Nat} {skip : List Nat} (h : okC2 skip plans f (bodyOf P f) = true) (hs : ∀ id ∈ skip, ∀ ops ∈ regsOf id (bodyOf P f), ∃ pl, plans f id = some pl ∧ okR ops pl = true) : okB P plans f = true := by
  have := okC_of (bodyOf P f) h hs
  unfold okB
  unfold bodyOf at this
  split
  · rename_i fn hf
    simp only [hf] at this
    split
    · rename_i c hc
      simp only [hc] at this
      exact this
    · rfl
  · rfl
end
end Go.Proofs.YtbjomeonjlialaaGreat.V
