/-
  What is told of a function by a pattern: its arguments and blocks, with atoms; what comes of a call that meets the pattern. No condition: these are rules over any program.
-/
import Derived.Test.YtbjomeonjlialaaGreatZau
set_option linter.unusedVariables false
set_option linter.unusedSimpArgs false
namespace Go.Proofs.YtbjomeonjlialaaGreat.V.S
structure Mt where
  n : Nat
  a : Tr SE
  b : Tr Nat
def Mt.bindA (m : Mt) (i : Nat) (e : SE) : Option Mt := match m.a.get i, Nat.blt i m.n with
  | none, true => some ⟨m.n, m.a.put i e, m.b⟩
  | some e', true => match SE.same e' e with | true => some m | false => none
  | _, false => none
def Mt.bindB (m : Mt) (i b : Nat) : Option Mt := match m.b.get i, Nat.blt i m.n with
  | none, true => some ⟨m.n, m.a, m.b.put i b⟩
  | some b', true => match Nat.beq b' b with | true => some m | false => none
  | _, false => none
def SE.sub (f : Nat → SE) : SE → SE
  | .at i => f i
  | .op o a b => .op o (a.sub f) (b.sub f)
  | e => e
def SE.bound (m : Mt) : SE → Bool
  | .at i => match m.a.get i, Nat.blt i m.n with | some _, true => true | _, _ => false
  | .op _ a b => match a.bound m with | true => b.bound m | false => false
  | _ => true
def Mt.se (m : Mt) (i : Nat) : SE := match m.a.get i with | some e => e | none => .at i
def Mt.matchE (m : Mt) (p e : SE) : Option Mt := match p with
  | .at i => m.bindA i e
  | p => match p.bound m, SE.same (p.sub m.se) e with | true, true => some m | _, _ => none
def capSame : Option Nat → Option Nat → Bool
  | none, none => true
  | some a, some b => Nat.beq a b
  | _, _ => false
mutual
def Mt.matchV (m : Mt) : AV → AV → Option Mt
  | .xi k p, a => match a.int? with
    | some (k2, e) => match kindEq k k2 with | true => m.matchE p e | false => none
    | none => none
  | .xb p, a => match a.bool? with
    | some e => m.matchE p e
    | none => none
  | .xs p, a => match a.str? with
    | some e => m.matchE p e
    | none => none
  | .xv fs p, a => match a with
    | .xv gs e => match SK.sames fs gs with | true => m.matchE p e | false => none
    | .sl0 => m.matchE p .nl
    | _ => none
  | .xw p, a => match a with
    | .xw e => m.matchE p e
    | .sl0 => m.matchE p .nb
    | _ => none
  | .p b o, a => match a with
    | .p b2 o2 => match Nat.beq o o2 with | true => m.bindB b b2 | false => none
    | _ => none
  | .m b, a => match a with
    | .m b2 => m.bindB b b2
    | _ => none
  | .sl b o e n c, a => match a with
    | .sl b2 o2 e2 n2 c2 => match Nat.beq o o2, Nat.beq e e2, Nat.beq n n2, capSame c c2 with | true, true, true, true => m.bindB b b2 | _, _, _, _ => none
    | _ => none
  | .g l, a => match a with
    | .g l2 => m.matchL l l2
    | _ => none
  | .t l, a => match a with
    | .t l2 => m.matchL l l2
    | _ => none
  | .f f cs, a => match a with
    | .f f2 cs2 => match Nat.beq f f2 with | true => m.matchL cs cs2 | false => none
    | _ => none
  | .b x, a => match sameV (.b x) a with | true => some m | false => none
  | .i k n, a => match sameV (.i k n) a with | true => some m | false => none
  | .s l, a => match sameV (.s l) a with | true => some m | false => none
  | .o i, a => match sameV (.o i) a with | true => some m | false => none
  | .p0, a => match sameV .p0 a with | true => some m | false => none
  | .sl0, a => match sameV .sl0 a with | true => some m | false => none
  | .nf, a => match sameV .nf a with | true => some m | false => none
  | .m0, a => match sameV .m0 a with | true => some m | false => none
  | .n0, a => match sameV .n0 a with | true => some m | false => none
  | _, _ => none
def Mt.matchL (m : Mt) : List AV → List AV → Option Mt
  | [], a => match a with
    | [] => some m
    | _ :: _ => none
  | p :: l, a => match a with
    | [] => none
    | x :: r => match m.matchV p x with
      | some m2 => m2.matchL l r
      | none => none
end
def Mt.matchB (m : Mt) : AB → AB → Option Mt
  | .row c, .row d => m.matchL c d
  | .own el sz c, .own el2 sz2 d => match Nat.beq el el2, Nat.beq sz sz2 with | true, true => m.matchL c d | _, _ => none
  | .ro c, .ro d => m.matchL c d
  | .map [] k, .map [] k2 => match Nat.beq k k2 with | true => some m | false => none
  | _, _ => none
def Mt.matchH (m : Mt) (H : Tr AB) : List (Nat × AB) → Option Mt
  | [] => some m
  | (b, ab) :: l => match m.b.get b with
    | some b2 => match H.get b2 with
      | some ab2 => match m.matchB ab ab2 with
        | some m2 => m2.matchH H l
        | none => none
      | none => none
    | none => none
mutual
def AV.sub (fb : Nat → Nat) (fa : Nat → SE) : AV → AV
  | .p b1 o1 => .p (fb b1) o1
  | .ez b1 o1 d1 e1 c1 => .ez (fb b1) o1 d1 e1 c1
  | .sl b1 o1 e1 n1 c1 => .sl (fb b1) o1 e1 n1 c1
  | .m b1 => .m (fb b1)
  | .y b1 => .y (fb b1)
  | .f f1 cs => .f f1 (AV.subs fb fa cs)
  | .fb f1 fs cs => .fb f1 (AV.subs fb fa fs) (AV.subs fb fa cs)
  | .g l1 => .g (AV.subs fb fa l1)
  | .t l1 => .t (AV.subs fb fa l1)
  | .it t1 v1 => .it t1 (AV.sub fb fa v1)
  | .xi k1 e1 => .xi k1 (e1.sub fa)
  | .xb e1 => .xb (e1.sub fa)
  | .xs e1 => .xs (e1.sub fa)
  | .xv fs e1 => .xv fs (e1.sub fa)
  | .xw e1 => .xw (e1.sub fa)
  | .xq fs e1 j1 o1 => .xq fs (e1.sub fa) (j1.sub fa) o1
  | a1 => a1
def AV.subs (fb : Nat → Nat) (fa : Nat → SE) : List AV → List AV
  | [] => []
  | a1 :: l1 => AV.sub fb fa a1 :: AV.subs fb fa l1
end
def AB.sub (fb : Nat → Nat) (fa : Nat → SE) : AB → AB
  | .row c => .row (AV.subs fb fa c)
  | .own el sz c => .own el sz (AV.subs fb fa c)
  | .ro c => .ro (AV.subs fb fa c)
  | .map [] k => .map [] k
  | _ => .dead
inductive CT where
  | done (nn : Nat) (v : AV) (H : List (Nat × AB))
  | fork (e : SE) (t f : CT)
structure Ctr where
  f : Nat
  na : Nat
  args : List AV
  H : List (Nat × AB)
  pre : List SE
  post : CT
def deads : Nat → Tr AB
  | 0 => .e
  | n + 1 => (deads n).put n .dead
def putL (H : Tr AB) : List (Nat × AB) → Tr AB
  | [] => H
  | (b, ab) :: l => putL (H.put b ab) l
def ctrH (n : Nat) (l : List (Nat × AB)) : Tr AB := putL (deads n) l
def lookL (b : Nat) : List (Nat × AB) → AB
  | [] => .dead
  | (c, ab) :: l => match Nat.beq c b with | true => ab | false => lookL b l
def keysB (n : Nat) : List (Nat × AB) → Bool
  | [] => true
  | (b, _) :: l => match Nat.blt b n with | true => keysB n l | false => false
def nodupN : List Nat → Bool
  | [] => true
  | a :: l => match memN a l with | true => false | false => nodupN l
def allSubs : List (Nat × AB) → Bool
  | [] => true
  | (_, .row _) :: l => allSubs l
  | (_, .own _ _ _) :: l => allSubs l
  | (_, .ro _) :: l => allSubs l
  | (_, .map [] _) :: l => allSubs l
  | _ => false
def postKeys (na nn : Nat) (bs : List Nat) : List (Nat × AB) → Bool
  | [] => true
  | (b, ab) :: l => match memN b bs with
    | true => postKeys na nn bs l
    | false => match Nat.ble na b, Nat.blt b (na + nn), ab.wr with
      | true, true, true => postKeys na nn bs l
      | _, _, _ => false
def CT.wf (na : Nat) (bs : List Nat) : CT → Bool
  | .done nn _ Hs => match postKeys na nn bs Hs, nodupN (Hs.map (·.1)), allSubs Hs with | true, true, true => true | _, _, _ => false
  | .fork _ t f => match t.wf na bs with | true => f.wf na bs | false => false
def Ctr.wf (C : Ctr) : Bool := match keysB C.na C.H, nodupN (C.H.map (·.1)), allSubs C.H, C.post.wf C.na (C.H.map (·.1)) with
  | true, true, true, true => true
  | _, _, _, _ => false
def Mt.bl (m : Mt) (b : Nat) : Nat := match m.b.get b with | some c => c | none => 0
def Mt.nb (m : Mt) (next b : Nat) : Nat := match Nat.blt b m.n with | true => m.bl b | false => next + (b - m.n)
def Mt.na (m : Mt) (next i : Nat) : SE := match Nat.blt i m.n with | true => m.se i | false => .at (next + (i - m.n))
def SE.okN (f : Nat → Bool) : SE → Bool
  | .at i => f i
  | .op _ a b => match a.okN f with | true => b.okN f | false => false
  | _ => true
mutual
def AV.okN (fb fa : Nat → Bool) : AV → Bool
  | .p b1 _ => fb b1
  | .ez b1 _ _ _ _ => fb b1
  | .sl b1 _ _ _ _ => fb b1
  | .m b1 => fb b1
  | .y b1 => fb b1
  | .f _ cs => AV.oksN fb fa cs
  | .fb _ fs cs => match AV.oksN fb fa fs with | true => AV.oksN fb fa cs | false => false
  | .g l1 => AV.oksN fb fa l1
  | .t l1 => AV.oksN fb fa l1
  | .it _ v1 => AV.okN fb fa v1
  | .xi _ e1 => e1.okN fa
  | .xb e1 => e1.okN fa
  | .xs e1 => e1.okN fa
  | .xv _ e1 => e1.okN fa
  | .xw e1 => e1.okN fa
  | .xq _ e1 j1 _ => match e1.okN fa with | true => j1.okN fa | false => false
  | _ => true
def AV.oksN (fb fa : Nat → Bool) : List AV → Bool
  | [] => true
  | a1 :: l1 => match AV.okN fb fa a1 with | true => AV.oksN fb fa l1 | false => false
end
def AB.okN (fb fa : Nat → Bool) (ab : AB) : Bool := match ab.cells with
  | some c => AV.oksN fb fa c
  | none => true
def blocksOk (fb fa : Nat → Bool) : List (Nat × AB) → Bool
  | [] => true
  | (_, ab) :: l => match ab.okN fb fa with | true => blocksOk fb fa l | false => false
def Mt.fb (m : Mt) (bs : List Nat) (b : Nat) : Bool := match Nat.ble m.n b with | true => true | false => memN b bs
def Mt.fa (m : Mt) (i : Nat) : Bool := match Nat.ble m.n i, m.a.get i with | true, _ => true | false, some _ => true | false, none => false
def freeN (H : Tr AB) (next : Nat) : Nat → Bool
  | 0 => true
  | j + 1 => match H.get (next + j) with | none => freeN H next j | some _ => false
def anyN {α : Type} (next : Nat) (t : Out α) : Nat → Out α
  | 0 => t
  | j + 1 => .any (next + j) (anyN next t j)
def afterH (m : Mt) (next nn : Nat) (bs : List Nat) (Hs : List (Nat × AB)) : List (Nat × AB) :=
  bs.map (fun b => (m.bl b, (lookL b Hs).sub (m.nb next) (m.na next))) ++ (List.range nn).map fun j => (next + j, (lookL (m.n + j) Hs).sub (m.nb next) (m.na next))
def goCT (m : Mt) (bs : List Nat) : CT → ST → Out (AV × ST)
  | .done nn v Hs, st => match freeN st.H st.next nn, v.okN (m.fb bs) m.fa, blocksOk (m.fb bs) m.fa Hs with
    | true, true, true => anyN st.next (.leaf (v.sub (m.nb st.next) (m.na st.next), ⟨.e, putL st.H (afterH m st.next nn bs Hs), st.next + nn, [], st.pc⟩)) nn
    | _, _, _ => .bad
  | .fork e t f, st => match e.bound m with
    | true => match pcFind (e.sub m.se) st.pc with
      | some true => goCT m bs t st
      | some false => goCT m bs f st
      | none => .fork (e.sub m.se) (goCT m bs t (st.know (e.sub m.se) true)) (goCT m bs f (st.know (e.sub m.se) false))
    | false => .bad
def allBound (m : Mt) : List SE → Bool
  | [] => true
  | c :: l => match c.bound m with | true => allBound m l | false => false
def Ctr.call (C : Ctr) : CallX := fun g args st => match Nat.beq g C.f with
  | true => match Mt.matchL ⟨C.na, .e, .e⟩ C.args args with
    | some m0 => match m0.matchH st.H C.H with
      | some m => match nodupN (C.H.map fun x => m.bl x.1), allBound m C.pre, C.wf with
        | true, true, true => some (needs st (C.pre.map (·.sub m.se)) (goCT m (C.H.map (·.1)) C.post))
        | _, _, _ => none
      | none => none
    | none => none
  | false => none
theorem nil_rel {X : Type} {r : Rho X} {fs : List SK} : RelK r (.v fs) (.p (.v (.slice none 0 0)) (.l [])) (.slice none 0 0) := by
  unfold RelK
  exact ⟨rfl, none, 0, rfl, [], rfl, fun j x L hx _ => (by simp [D.snd, D.lst] at hx), .inl rfl, Nat.zero_le _⟩
theorem nilb_rel {X : Type} {r : Rho X} : RelK r .w (.p (.v (.slice none 0 0)) (.s [])) (.slice none 0 0) := by
  unfold RelK
  exact ⟨rfl, none, 0, rfl, .inl rfl, Nat.zero_le _⟩
section
variable {X : Type} [Spec X] {P : Program} {lo : Nat} {r : Rho X} {w : World}
def Mt.rho (m : Mt) (r : Rho X) : Rho X :=
  ⟨fun b => if b < m.n then some (((m.b.get b).bind r.blk).getD (0, 0)) else none, r.fz, fun i => if i < m.n then (m.a.get i).bind (den r.at') else none⟩
structure Mt.le (m m' : Mt) : Prop where
  n : m'.n = m.n
  a : ∀ i e, m.a.get i = some e → m'.a.get i = some e
  b : ∀ i c, m.b.get i = some c → m'.b.get i = some c
theorem Mt.le.refl (m : Mt) : m.le m := ⟨rfl, fun _ _ h => h, fun _ _ h => h⟩
theorem Mt.le.trans {a b c : Mt} (h : a.le b) (k : b.le c) : a.le c := ⟨k.n.trans h.n, fun i e he => k.a i e (h.a i e he), fun i e he => k.b i e (h.b i e he)⟩
theorem bindA_spec {m m' : Mt} {i : Nat} {e : SE} (h : m.bindA i e = some m') : m.le m' ∧ i < m.n ∧ m'.a.get i = some e := by
  unfold Mt.bindA at h
  split at h
  · rename_i hi hn
    cases h
    refine ⟨⟨rfl, fun j x hj => ?_, fun _ _ h => h⟩, Nat.le_of_ble_eq_true hn, by rw [Tr.get_put, if_pos rfl]⟩
    rw [Tr.get_put]
    split
    · subst_vars; rw [hi] at hj; cases hj
    · exact hj
  · rename_i e' hi hn
    split at h
    · rename_i hs
      cases h
      rw [← SE.same_eq hs]
      exact ⟨Mt.le.refl m, Nat.le_of_ble_eq_true hn, hi⟩
    · cases h
  · cases h
theorem bindB_spec {m m' : Mt} {i c : Nat} (h : m.bindB i c = some m') : m.le m' ∧ i < m.n ∧ m'.b.get i = some c := by
  unfold Mt.bindB at h
  split at h
  · rename_i hi hn
    cases h
    refine ⟨⟨rfl, fun _ _ h => h, fun j x hj => ?_⟩, Nat.le_of_ble_eq_true hn, by rw [Tr.get_put, if_pos rfl]⟩
    rw [Tr.get_put]
    split
    · subst_vars; rw [hi] at hj; cases hj
    · exact hj
  · rename_i e' hi hn
    split at h
    · rename_i hs
      cases h
      rw [← Nat.eq_of_beq_eq_true hs]
      exact ⟨Mt.le.refl m, Nat.le_of_ble_eq_true hn, hi⟩
    · cases h
  · cases h
theorem bound_mono {m m' : Mt} (h : m.le m') : ∀ {e : SE}, e.bound m = true → e.bound m' = true ∧ e.sub m'.se = e.sub m.se
  | .at i, hb => by
    simp only [SE.bound] at hb ⊢
    split at hb
    · rename_i x hx hn
      simp only [h.a _ _ hx, h.n, hn, SE.sub, Mt.se, hx]
      exact ⟨trivial, trivial⟩
    · cases hb
  | .li _, _ => ⟨rfl, rfl⟩
  | .lb _, _ => ⟨rfl, rfl⟩
  | .ls _, _ => ⟨rfl, rfl⟩
  | .nl, _ => ⟨rfl, rfl⟩
  | .nb, _ => ⟨rfl, rfl⟩
  | .op o a b, hb => by
    simp only [SE.bound] at hb
    split at hb
    · rename_i ha
      obtain ⟨h1, h2⟩ := bound_mono h ha
      obtain ⟨h3, h4⟩ := bound_mono h hb
      exact ⟨by simp only [SE.bound, h1, h3], by simp only [SE.sub, h2, h4]⟩
    · cases hb
theorem den_rho {m : Mt} : ∀ {e : SE}, e.bound m = true → den (m.rho r).at' e = den r.at' (e.sub m.se)
  | .at i, hb => by
    simp only [SE.bound] at hb
    split at hb
    · rename_i x hx hn
      have hn : i < m.n := Nat.le_of_ble_eq_true hn
      simp only [den, Mt.rho, if_pos hn, hx, Option.bind_some, SE.sub, Mt.se]
    · cases hb
  | .li _, _ => rfl
  | .lb _, _ => rfl
  | .ls _, _ => rfl
  | .nl, _ => rfl
  | .nb, _ => rfl
  | .op o a b, hb => by
    simp only [SE.bound] at hb
    split at hb
    · rename_i ha
      simp only [den, SE.sub, den_rho ha, den_rho hb]
    · cases hb
theorem matchE_ok {m m' : Mt} {p e : SE} (h : m.matchE p e = some m') : m.le m' ∧ ∀ mF : Mt, m'.le mF → den (mF.rho r).at' p = den r.at' e := by
  have gen : ∀ p : SE, (match p.bound m, SE.same (p.sub m.se) e with | true, true => some m | _, _ => none) = some m' → m.le m' ∧ ∀ mF : Mt, m'.le mF → den (mF.rho r).at' p = den r.at' e := by
    intro p h
    split at h
    · rename_i hb hs
      cases h
      refine ⟨Mt.le.refl m, fun mF hF => ?_⟩
      obtain ⟨h1, h2⟩ := bound_mono hF hb
      rw [den_rho h1, h2, SE.same_eq hs]
    · cases h
  cases p with
  | «at» i =>
    obtain ⟨h1, h2, h3⟩ := bindA_spec h
    refine ⟨h1, fun mF hF => ?_⟩
    have hn : i < mF.n := by rw [hF.n, h1.n]; exact h2
    simp only [den, Mt.rho, if_pos hn, hF.a _ _ h3, Option.bind_some]
  | li n => exact gen _ h
  | lb b => exact gen _ h
  | ls l => exact gen _ h
  | op o a b => exact gen _ h
  | nl => exact gen _ h
  | nb => exact gen _ h
theorem rho_blk {m : Mt} {b c : Nat} {x : Nat × Nat} (hb : b < m.n) (hm : m.b.get b = some c) (hr : r c = some x) : (m.rho r) b = some x := by
  simp only [Mt.rho, if_pos hb, hm, Option.bind_some, hr, Option.getD_some]
theorem RelK.rho {m : Mt} {k : SK} {d : D X} {V : Value} (h : RelK r k d V) : RelK (m.rho r) k d V := by
  have : ∀ r1 : Rho X, r1.fz = r.fz → RelK r1 k d V := fun r1 h1 => RelK.fzq (fun k o ho => by rw [h1]; exact ho) k h
  exact this _ rfl
mutual
theorem matchV_ok [Sig] : ∀ (p : AV) {a : AV} {m m' : Mt}, m.matchV p a = some m' → m.le m' ∧ ∀ (mF : Mt) (V : Value), m'.le mF → Rel r a V → Rel (mF.rho r) p V
  | .xi k p, a, m, m', h => by
    simp only [Mt.matchV] at h
    split at h
    · rename_i k2 e hi
      split at h
      · rename_i hk
        have hk := kindEq_eq hk
        subst hk
        obtain ⟨h1, h2⟩ := matchE_ok (r := r) h
        refine ⟨h1, fun mF V hF hV => ?_⟩
        obtain ⟨d, h3, rfl⟩ := int?_rel hi hV
        exact mk_xi ((h2 mF hF).trans h3) rfl
      · cases h
    · cases h
  | .xb p, a, m, m', h => by
    simp only [Mt.matchV] at h
    split at h
    · rename_i e hi
      obtain ⟨h1, h2⟩ := matchE_ok (r := r) h
      refine ⟨h1, fun mF V hF hV => ?_⟩
      obtain ⟨d, h3, rfl⟩ := bool?_rel hi hV
      exact mk_xb ((h2 mF hF).trans h3) rfl
    · cases h
  | .xs p, a, m, m', h => by
    simp only [Mt.matchV] at h
    split at h
    · rename_i e hi
      obtain ⟨h1, h2⟩ := matchE_ok (r := r) h
      refine ⟨h1, fun mF V hF hV => ?_⟩
      obtain ⟨d, h3, rfl⟩ := str?_rel hi hV
      exact mk_xs ((h2 mF hF).trans h3) rfl
    · cases h
  | .xv fs p, a, m, m', h => by
    simp only [Mt.matchV] at h
    split at h
    · rename_i gs e
      split at h
      · rename_i hs
        have hs := skSames_eq hs
        subst hs
        obtain ⟨h1, h2⟩ := matchE_ok (r := r) h
        refine ⟨h1, fun mF V hF hV => ?_⟩
        obtain ⟨d, h3, h4⟩ := rel_xv hV
        unfold Rel
        exact ⟨d, (h2 mF hF).trans h3, h4.rho⟩
      · cases h
    · obtain ⟨h1, h2⟩ := matchE_ok (r := r) h
      refine ⟨h1, fun mF V hF hV => ?_⟩
      rw [rel_sl0 hV]
      unfold Rel
      exact ⟨_, (h2 mF hF).trans rfl, nil_rel⟩
    · cases h
  | .xw p, a, m, m', h => by
    simp only [Mt.matchV] at h
    split at h
    · rename_i e
      obtain ⟨h1, h2⟩ := matchE_ok (r := r) h
      refine ⟨h1, fun mF V hF hV => ?_⟩
      obtain ⟨d, h3, h4⟩ := rel_xw hV
      unfold Rel
      exact ⟨d, (h2 mF hF).trans h3, h4.rho⟩
    · obtain ⟨h1, h2⟩ := matchE_ok (r := r) h
      refine ⟨h1, fun mF V hF hV => ?_⟩
      rw [rel_sl0 hV]
      unfold Rel
      exact ⟨_, (h2 mF hF).trans rfl, nilb_rel⟩
    · cases h
  | .p b o, a, m, m', h => by
    simp only [Mt.matchV] at h
    split at h
    · rename_i b2 o2
      split at h
      · rename_i ho
        rw [Nat.eq_of_beq_eq_true ho]
        obtain ⟨h1, h2, h3⟩ := bindB_spec h
        refine ⟨h1, fun mF V hF hV => ?_⟩
        obtain ⟨B, K, h4, rfl⟩ := rel_p hV
        exact mk_p (rho_blk (by rw [hF.n, h1.n]; exact h2) (hF.b _ _ h3) h4)
      · cases h
    · cases h
  | .m b, a, m, m', h => by
    simp only [Mt.matchV] at h
    split at h
    · rename_i b2
      obtain ⟨h1, h2, h3⟩ := bindB_spec h
      refine ⟨h1, fun mF V hF hV => ?_⟩
      obtain ⟨B, K, h4, rfl⟩ := rel_m hV
      unfold Rel
      exact ⟨B, K, rho_blk (by rw [hF.n, h1.n]; exact h2) (hF.b _ _ h3) h4, rfl⟩
    · cases h
  | .sl b o e n c, a, m, m', h => by
    simp only [Mt.matchV] at h
    split at h
    · rename_i b2 o2 e2 n2 c2
      split at h
      · rename_i q1 q2 q3 q4
        rw [Nat.eq_of_beq_eq_true q1, Nat.eq_of_beq_eq_true q2, Nat.eq_of_beq_eq_true q3]
        have q4 : c = c2 := by
          cases c <;> cases c2 <;> first | rfl | (simp only [capSame, Bool.false_eq_true] at q4) | skip
          rw [Nat.eq_of_beq_eq_true q4]
        subst q4
        obtain ⟨h1, h2, h3⟩ := bindB_spec h
        refine ⟨h1, fun mF V hF hV => ?_⟩
        obtain ⟨B, K, h4, rfl, h5⟩ := rel_sl hV
        exact mk_sl (rho_blk (by rw [hF.n, h1.n]; exact h2) (hF.b _ _ h3) h4) h5
      · cases h
    · cases h
  | .g l, a, m, m', h => by
    simp only [Mt.matchV] at h
    split at h
    · rename_i l2
      obtain ⟨h1, h2⟩ := matchL_ok l h
      refine ⟨h1, fun mF V hF hV => ?_⟩
      obtain ⟨L, rfl, hL⟩ := rel_g hV
      exact mk_g (h2 mF L hF hL)
    · cases h
  | .t l, a, m, m', h => by
    simp only [Mt.matchV] at h
    split at h
    · rename_i l2
      obtain ⟨h1, h2⟩ := matchL_ok l h
      refine ⟨h1, fun mF V hF hV => ?_⟩
      obtain ⟨L, rfl, hL⟩ := rel_t hV
      exact mk_t (h2 mF L hF hL)
    · cases h
  | .f f cs, a, m, m', h => by
    simp only [Mt.matchV] at h
    split at h
    · rename_i f2 cs2
      split at h
      · rename_i hf
        rw [Nat.eq_of_beq_eq_true hf]
        obtain ⟨h1, h2⟩ := matchL_ok cs h
        refine ⟨h1, fun mF V hF hV => ?_⟩
        obtain ⟨L, rfl, hL⟩ := rel_f hV
        exact mk_f (h2 mF L hF hL)
      · cases h
    · cases h
  | .b x, a, m, m', h => by
    simp only [Mt.matchV] at h
    split at h
    · rename_i hs
      cases h
      have := sameV_eq hs
      subst this
      exact ⟨Mt.le.refl m, fun mF V _ hV => by rw [rel_b hV]; exact mk_b x⟩
    · cases h
  | .i k n, a, m, m', h => by
    simp only [Mt.matchV] at h
    split at h
    · rename_i hs
      cases h
      have := sameV_eq hs
      subst this
      exact ⟨Mt.le.refl m, fun mF V _ hV => by rw [rel_i hV]; exact mk_i k n⟩
    · cases h
  | .s l, a, m, m', h => by
    simp only [Mt.matchV] at h
    split at h
    · rename_i hs
      cases h
      have := sameV_eq hs
      subst this
      exact ⟨Mt.le.refl m, fun mF V _ hV => by obtain ⟨rfl, h1⟩ := rel_s hV; exact mk_s h1⟩
    · cases h
  | .o i, a, m, m', h => by
    simp only [Mt.matchV] at h
    split at h
    · rename_i hs
      cases h
      have := sameV_eq hs
      subst this
      exact ⟨Mt.le.refl m, fun mF V _ hV => by unfold Rel at hV ⊢; exact hV⟩
    · cases h
  | .p0, a, m, m', h => by
    simp only [Mt.matchV] at h
    split at h
    · rename_i hs
      cases h
      have := sameV_eq hs
      subst this
      exact ⟨Mt.le.refl m, fun mF V _ hV => by unfold Rel at hV ⊢; exact hV⟩
    · cases h
  | .sl0, a, m, m', h => by
    simp only [Mt.matchV] at h
    split at h
    · rename_i hs
      cases h
      have := sameV_eq hs
      subst this
      exact ⟨Mt.le.refl m, fun mF V _ hV => by unfold Rel at hV ⊢; exact hV⟩
    · cases h
  | .nf, a, m, m', h => by
    simp only [Mt.matchV] at h
    split at h
    · rename_i hs
      cases h
      have := sameV_eq hs
      subst this
      exact ⟨Mt.le.refl m, fun mF V _ hV => by unfold Rel at hV ⊢; exact hV⟩
    · cases h
  | .m0, a, m, m', h => by
    simp only [Mt.matchV] at h
    split at h
    · rename_i hs
      cases h
      have := sameV_eq hs
      subst this
      exact ⟨Mt.le.refl m, fun mF V _ hV => by unfold Rel at hV ⊢; exact hV⟩
    · cases h
  | .n0, a, m, m', h => by
    simp only [Mt.matchV] at h
    split at h
    · rename_i hs
      cases h
      have := sameV_eq hs
      subst this
      exact ⟨Mt.le.refl m, fun mF V _ hV => by unfold Rel at hV ⊢; exact hV⟩
    · cases h
  | .se, _, _, _, h => by simp [Mt.matchV] at h
  | .ez .., _, _, _, h => by simp [Mt.matchV] at h
  | .fb .., _, _, _, h => by simp [Mt.matchV] at h
  | .y _, _, _, _, h => by simp [Mt.matchV] at h
  | .it .., _, _, _, h => by simp [Mt.matchV] at h
  | .xq .., _, _, _, h => by simp [Mt.matchV] at h
theorem matchL_ok [Sig] : ∀ (p : List AV) {a : List AV} {m m' : Mt}, m.matchL p a = some m' → m.le m' ∧ ∀ (mF : Mt) (L : List Value), m'.le mF → RelL r a L → RelL (mF.rho r) p L
  | [], a, m, m', h => by
    simp only [Mt.matchL] at h
    split at h
    · cases h
      exact ⟨Mt.le.refl m, fun mF L _ hL => by rw [hL.of_nil]; exact RelL.nil _⟩
    · cases h
  | p :: l, a, m, m', h => by
    simp only [Mt.matchL] at h
    split at h
    · cases h
    · split at h
      · rename_i m2 h2
        obtain ⟨h3, h4⟩ := matchV_ok p h2
        obtain ⟨h5, h6⟩ := matchL_ok l h
        refine ⟨h3.trans h5, fun mF L hF hL => ?_⟩
        obtain ⟨A, M, rfl, k1, k2⟩ := hL.of_cons
        exact RelL.cons (h4 mF A (h5.trans hF) k1) (h6 mF M hF k2)
      · cases h
end
end
end Go.Proofs.YtbjomeonjlialaaGreat.V.S
