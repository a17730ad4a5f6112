/-
  What is told of a function by a pattern holds of every call that meets the pattern. No condition: these are rules over any program.
-/
import Derived.Test.YtbjomeonjlialaaGreatZaw
set_option linter.unusedVariables false
set_option linter.unusedSimpArgs false
namespace Go.Proofs.YtbjomeonjlialaaGreat.V.S
section
variable {X : Type} [Spec X] {P : Program} {lo : Nat} {r : Rho X} {w : World}
def CT.left [Sig] (lo na : Nat) (r : Rho X) (H : Tr AB) (w : World) (V : Value) (w' : World) : CT → Prop
  | .done nn v Hs => ∃ r', r.le r' ∧ Rel r' v V ∧ Sat lo r' (ctrH (na + nn) Hs) w' ∧ FrmC r H w r' (ctrH (na + nn) Hs) w'
  | .fork e t f => (Tru r.at' e ∧ t.left lo na r H w V w') ∨ (Fls r.at' e ∧ f.left lo na r H w V w')
def CtrOK (X : Type) [Spec X] [Sig] (P : Program) (lo : Nat) (C : Ctr) : Prop :=
  ∀ (r : Rho X) (w : World) (Args : List Value), RelL r C.args Args → Sat lo r (ctrH C.na C.H) w → (∀ c ∈ C.pre, Tru r.at' c) → Ret P C.f Args.toArray w fun V w' => C.post.left lo C.na r (ctrH C.na C.H) w V w'
theorem needs_vc0 {α : Type} {K : Val X → α → Prop} {k : ST → Out α} {s : Val X} : ∀ {ns : List SE} {st : ST}, PcOK s st.pc → (needs st ns k).vc K s → ∃ s1, s1.H = st.H ∧ s1.next = st.next ∧ PcOK s s1.pc ∧ (∀ c ∈ ns, Tru s c) ∧ (k s1).vc K s
  | [], st, hpc, h => ⟨st, rfl, rfl, hpc, fun c hc => (by simp at hc), h⟩
  | c :: ns, st, hpc, h => by
    simp only [needs] at h
    split at h
    · rename_i hf
      obtain ⟨d, hd, hdb⟩ := pcFind_ok hpc hf
      obtain ⟨s1, h1, h2, h3, h4, h5⟩ := needs_vc0 hpc h
      refine ⟨s1, h1, h2, h3, fun x hx => ?_, h5⟩
      rcases List.mem_cons.1 hx with rfl | hx
      · exact ⟨d, hd, hdb⟩
      · exact h4 x hx
    · obtain ⟨⟨d, hd, hdb⟩, h⟩ := h
      obtain ⟨s1, h1, h2, h3, h4, h5⟩ := needs_vc0 (st := st.know c true) (hpc.cons hd hdb) h
      refine ⟨s1, h1, h2, h3, fun x hx => ?_, h5⟩
      rcases List.mem_cons.1 hx with rfl | hx
      · exact ⟨d, hd, hdb⟩
      · exact h4 x hx
theorem anyN_vc {α : Type} {K : Val X → α → Prop} {next : Nat} {t : Out α} (g : Nat → D X) : ∀ {nn : Nat} {s : Val X}, (anyN next t nn).vc K s → t.vc K (fun i => if next ≤ i ∧ i < next + nn then some (g i) else s i)
  | 0, s, h => by
    have : (fun i => if next ≤ i ∧ i < next + 0 then some (g i) else s i) = s := by
      funext i
      rw [if_neg (by omega)]
    rw [this]
    exact h
  | j + 1, s, h => by
    have h : ∀ d, (anyN next t j).vc K (Val.set s (next + j) d) := h
    have := anyN_vc g (h (g (next + j)))
    have e : (fun i => if next ≤ i ∧ i < next + (j + 1) then some (g i) else s i) = fun i => if next ≤ i ∧ i < next + j then some (g i) else Val.set s (next + j) (g (next + j)) i := by
      funext i
      unfold Val.set
      by_cases h1 : i = next + j
      · subst h1
        rw [if_pos (by omega), if_neg (by omega), if_pos rfl]
      · rw [if_neg h1]
        by_cases h2 : next ≤ i ∧ i < next + j
        · rw [if_pos h2, if_pos (by omega)]
        · rw [if_neg h2, if_neg (by omega)]
    rw [e]
    exact this
theorem matchB_ok [Sig] {p a : AB} {m m' : Mt} (h : m.matchB p a = some m') : m.le m' ∧ p.wr = a.wr ∧ p.live = a.live ∧ ∀ (mF : Mt) (w : World) (B K : Nat), m'.le mF → Holds r w B K a → Holds (mF.rho r) w B K p := by
  unfold Mt.matchB at h
  split at h
  · obtain ⟨h1, h2⟩ := matchL_ok (r := r) _ h
    exact ⟨h1, rfl, rfl, fun mF w B K hF ⟨L, k1, k2⟩ => ⟨L, h2 mF L hF k1, k2⟩⟩
  · split at h
    · rename_i q1 q2
      rw [Nat.eq_of_beq_eq_true q1, Nat.eq_of_beq_eq_true q2]
      obtain ⟨h1, h2⟩ := matchL_ok (r := r) _ h
      exact ⟨h1, rfl, rfl, fun mF w B K hF ⟨L, ext, k1, k2⟩ => ⟨L, ext, h2 mF L hF k1, k2⟩⟩
    · cases h
  · obtain ⟨h1, h2⟩ := matchL_ok (r := r) _ h
    exact ⟨h1, rfl, rfl, fun mF w B K hF ⟨L, k1, k2⟩ => ⟨L, h2 mF L hF k1, k2⟩⟩
  · split at h
    · rename_i q1
      rw [Nat.eq_of_beq_eq_true q1]
      cases h
      exact ⟨Mt.le.refl _, rfl, rfl, fun mF w B K hF ⟨E, k1, k2⟩ => ⟨E, k1, k2⟩⟩
    · cases h
  · cases h
theorem matchB_def [Sig] {p a : AB} {m m' : Mt} {B K : Nat} (h : m.matchB p a = some m') (hh : Holds r w B K a) (hm : Defd r m) : Defd r m' := by
  unfold Mt.matchB at h
  split at h
  · obtain ⟨L, k1, _⟩ := hh
    exact matchL_def _ h k1 hm
  · split at h
    · obtain ⟨L, _, k1, _⟩ := hh
      exact matchL_def _ h k1 hm
    · cases h
  · obtain ⟨L, k1, _⟩ := hh
    exact matchL_def _ h k1 hm
  · split at h
    · cases h; exact hm
    · cases h
  · cases h
def Met [Sig] (r : Rho X) (H : Tr AB) (m : Mt) (b : Nat) (ab : AB) : Prop :=
  ∃ b2 ab2, m.b.get b = some b2 ∧ H.get b2 = some ab2 ∧ ab.wr = ab2.wr ∧ ab.live = ab2.live ∧ ∀ (mF : Mt) (w : World) (B K : Nat), m.le mF → Holds r w B K ab2 → Holds (mF.rho r) w B K ab
theorem matchH_ok [Sig] {H : Tr AB} : ∀ {l : List (Nat × AB)} {m m' : Mt}, m.matchH H l = some m' → m.le m' ∧ (∀ x ∈ l, Met r H m' x.1 x.2) ∧ (Sat lo r H w → Defd r m → Defd r m')
  | [], m, m', h => by
    simp only [Mt.matchH] at h
    cases h
    exact ⟨Mt.le.refl m, fun x hx => (by simp at hx), fun _ h => h⟩
  | (b, ab) :: l, m, m', h => by
    simp only [Mt.matchH] at h
    split at h
    · rename_i b2 hb
      split at h
      · rename_i ab2 hH
        split at h
        · rename_i m2 h2
          obtain ⟨k1, k2, k3, k4⟩ := matchB_ok (r := r) h2
          obtain ⟨k5, k6, k7⟩ := matchH_ok (l := l) h
          refine ⟨k1.trans k5, fun x hx => ?_, fun hs hm => k7 hs ?_⟩
          · rcases List.mem_cons.1 hx with rfl | hx
            · exact ⟨b2, ab2, (k1.trans k5).b _ _ hb, hH, k2, k3, fun mF w B K hF hh => k4 mF w B K (k5.trans hF) hh⟩
            · exact k6 x hx
          · obtain ⟨B, K, j1, j2, j3⟩ := hs.row b2 ab2 hH
            exact matchB_def h2 j3 hm
        · cases h
      · cases h
    · cases h
theorem bl_of {m : Mt} {b b2 : Nat} (h : m.b.get b = some b2) : m.bl b = b2 := by
  unfold Mt.bl
  rw [h]
theorem allSubs_live {l : List (Nat × AB)} (h : allSubs l = true) {x : Nat × AB} (hx : x ∈ l) : x.2.live = true := by
  rcases allSubs_spec h x hx with ⟨c, e⟩ | ⟨_, _, c, e⟩ | ⟨c, e⟩ | ⟨k, e⟩ <;> rw [e] <;> rfl
structure MeetP [Sig] (lo : Nat) (r : Rho X) (H : Tr AB) (w : World) (na : Nat) (m : Mt) (l : List (Nat × AB)) : Prop where
  n : m.n = na
  keys : ∀ x ∈ l, x.1 < na
  nd : (l.map (·.1)).Nodup
  subs : allSubs l = true
  met : ∀ x ∈ l, Met r H m x.1 x.2
  inj : (l.map fun x => m.bl x.1).Nodup
  sat : Sat lo r H w
structure MeetH [Sig] (lo : Nat) (r : Rho X) (H : Tr AB) (w : World) (na : Nat) (m : Mt) (l : List (Nat × AB)) : Prop extends MeetP lo r H w na m l where
  dfd : Defd r m
theorem nodup_inj {α : Type} {f : α → Nat} : ∀ {l : List α}, (l.map f).Nodup → ∀ x ∈ l, ∀ y ∈ l, f x = f y → x = y
  | [], _, x, hx, _, _, _ => by simp at hx
  | a :: l, h, x, hx, y, hy, e => by
    rw [List.map_cons] at h
    obtain ⟨h1, h2⟩ := List.nodup_cons.1 h
    rcases List.mem_cons.1 hx with hx | hx
    · rcases List.mem_cons.1 hy with hy | hy
      · rw [hx, hy]
      · rw [hx] at e
        exact absurd (List.mem_map.2 ⟨y, hy, e.symm⟩) h1
    · rcases List.mem_cons.1 hy with hy | hy
      · rw [hy] at e
        exact absurd (List.mem_map.2 ⟨x, hx, e⟩) h1
      · exact nodup_inj h2 x hx y hy e
theorem MeetP.here [Sig] {H : Tr AB} {na : Nat} {m : Mt} {l : List (Nat × AB)} (h : MeetP lo r H w na m l) {x : Nat × AB} (hx : x ∈ l) :
    ∃ ab2 B K, H.get (m.bl x.1) = some ab2 ∧ x.2.wr = ab2.wr ∧ ab2.live = true ∧ r (m.bl x.1) = some (B, K) ∧ (m.rho r) x.1 = some (B, K) ∧ (ab2.wr = true → lo ≤ B) ∧ Holds r w B K ab2 ∧ Holds (m.rho r) w B K x.2 := by
  obtain ⟨b2, ab2, h1, h2, h3, h4, h5⟩ := h.met x hx
  obtain ⟨B, K, k1, k2, k3⟩ := h.sat.row b2 ab2 h2
  rw [bl_of h1]
  exact ⟨ab2, B, K, h2, h3, by rw [← h4]; exact allSubs_live h.subs hx, k1, rho_blk (by rw [h.n]; exact h.keys x hx) h1 k1, k2, k3, h5 m w B K (Mt.le.refl m) k3⟩
theorem MeetP.get [Sig] {H : Tr AB} {na : Nat} {m : Mt} {l : List (Nat × AB)} (h : MeetP lo r H w na m l) (b : Nat) : (ctrH na l).get b = if b < na then some (lookL b l) else none := ctrH_get h.nd h.keys
theorem MeetP.mem [Sig] {H : Tr AB} {na : Nat} {m : Mt} {l : List (Nat × AB)} (h : MeetP lo r H w na m l) {b : Nat} {ab : AB} (hb : (ctrH na l).get b = some ab) : (b, ab) ∈ l ∨ ab = .dead := by
  rw [h.get] at hb
  split at hb
  · cases hb
    rcases lookL_or (b := b) (l := l) with k | ⟨k, _⟩
    · exact .inl k
    · exact .inr k
  · cases hb
theorem MeetP.wr [Sig] {H : Tr AB} {na : Nat} {m : Mt} {l : List (Nat × AB)} (h : MeetP lo r H w na m l) {b : Nat} {ab : AB} (hb : (ctrH na l).get b = some ab) (hl : ab.live = true) : (b, ab) ∈ l := by
  rcases h.mem hb with k | rfl
  · exact k
  · cases hl
theorem wr_live {ab : AB} (h : ab.wr = true) : ab.live = true := by
  cases ab <;> first | rfl | cases h
theorem MeetP.pat [Sig] {H : Tr AB} {na : Nat} {m : Mt} {l : List (Nat × AB)} (h : MeetP lo r H w na m l) : Sat lo (m.rho r) (ctrH na l) w := by
  refine ⟨fun b ab hb => ?_, fun b c ab ac B K K' hb hc hlb hlc hrb hrc => ?_, fun b hb => ?_, h.sat.size, h.sat.old, fun k ob hk => ⟨(h.sat.fz k ob hk).1, fun b ab K hb hw hr => ?_⟩⟩
  · rcases h.mem hb with k | rfl
    · obtain ⟨ab2, B, K, h1, h2, h3, h4, h5, h6, h7, h8⟩ := h.here k
      exact ⟨B, K, h5, fun hw => h6 (h2 ▸ hw), h8⟩
    · have hn : b < m.n := by
        rw [h.get] at hb
        rw [h.n]
        by_cases hbn : b < na
        · exact hbn
        · rw [if_neg hbn] at hb; cases hb
      exact ⟨(((m.b.get b).bind r.blk).getD (0, 0)).1, (((m.b.get b).bind r.blk).getD (0, 0)).2, by simp only [Mt.rho, if_pos hn], fun hw => (by cases hw), trivial⟩
  · have k1 := h.wr hb hlb
    have k2 := h.wr hc hlc
    obtain ⟨ab2, B1, K1, h1, h2, h3, h4, h5, _⟩ := h.here k1
    obtain ⟨ac2, B2, K2, g1, g2, g3, g4, g5, _⟩ := h.here k2
    rw [hrb] at h5
    rw [hrc] at g5
    cases h5
    cases g5
    have := h.sat.inj _ _ _ _ _ _ _ h1 g1 h3 g3 h4 g4
    have := nodup_inj h.inj _ k1 _ k2 this
    cases this
    rfl
  · rw [h.get] at hb
    by_cases hbn : b < na
    · rw [if_pos hbn] at hb; cases hb
    · exact ⟨by simp only [Mt.rho, h.n, if_neg hbn], by simp only [Mt.rho, h.n, if_neg hbn]⟩
  · have k1 := h.wr hb (wr_live hw)
    obtain ⟨ab2, B1, K1, h1, h2, h3, h4, h5, _⟩ := h.here k1
    rw [hr] at h5
    cases h5
    exact (h.sat.fz k ob hk).2 _ ab2 _ h1 (h2 ▸ hw) h4
theorem MeetP.inw [Sig] {H : Tr AB} {na : Nat} {m : Mt} {l : List (Nat × AB)} (h : MeetP lo r H w na m l) {k : Nat} (hk : InW (m.rho r) (ctrH na l) k) : ∃ x ∈ l, ∃ ab2 K, H.get (m.bl x.1) = some ab2 ∧ ab2.wr = true ∧ r (m.bl x.1) = some (k, K) := by
  obtain ⟨b, ab, K, hb, hw, hr⟩ := hk
  have k1 := h.wr hb (wr_live hw)
  obtain ⟨ab2, B1, K1, h1, h2, h3, h4, h5, _⟩ := h.here k1
  rw [hr] at h5
  cases h5
  exact ⟨_, k1, ab2, K, h1, h2 ▸ hw, h4⟩
theorem MeetP.inW [Sig] {H : Tr AB} {na : Nat} {m : Mt} {l : List (Nat × AB)} (h : MeetP lo r H w na m l) {k : Nat} (hk : InW (m.rho r) (ctrH na l) k) : InW r H k :=
  let ⟨_, _, ab2, K, h1, h2, h3⟩ := h.inw hk
  ⟨_, ab2, K, h1, h2, h3⟩
theorem Mt.nb_lo {m : Mt} {next b : Nat} (h : b < m.n) : m.nb next b = m.bl b := by
  unfold Mt.nb
  rw [show Nat.blt b m.n = true from Nat.ble_eq_true_of_le h]
theorem Mt.nb_hi {m : Mt} {next b na : Nat} (hn : m.n = na) (h : na ≤ b) : m.nb next b = next + (b - na) := by
  unfold Mt.nb
  have : Nat.blt b m.n = false := by
    cases hq : Nat.blt b m.n with
    | false => rfl
    | true => exact absurd (Nat.le_of_ble_eq_true hq) (by omega)
  rw [this, hn]
theorem Mt.na_lo {m : Mt} {next b : Nat} (h : b < m.n) : m.na next b = m.se b := by
  unfold Mt.na
  rw [show Nat.blt b m.n = true from Nat.ble_eq_true_of_le h]
theorem Mt.na_hi {m : Mt} {next b na : Nat} (hn : m.n = na) (h : na ≤ b) : m.na next b = .at (next + (b - na)) := by
  unfold Mt.na
  have : Nat.blt b m.n = false := by
    cases hq : Nat.blt b m.n with
    | false => rfl
    | true => exact absurd (Nat.le_of_ble_eq_true hq) (by omega)
  rw [this, hn]
def Rho.call (r r1 : Rho X) (na next nn : Nat) : Rho X :=
  ⟨fun b => if next ≤ b ∧ b < next + nn then r1 (na + (b - next)) else r b, r1.fz, fun i => if next ≤ i ∧ i < next + nn then some ((r1.at' (na + (i - next))).getD (.i 0)) else r.at' i⟩
def Pt (na nn : Nat) (l : List (Nat × AB)) (p : Nat) : Prop := p ∈ l.map (·.1) ∨ (na ≤ p ∧ p < na + nn)
section
variable [Sig] {H : Tr AB} {na nn next : Nat} {m : Mt} {l Hs : List (Nat × AB)} {r1 : Rho X} {w' : World}
structure AfterH (lo : Nat) (r : Rho X) (H : Tr AB) (w : World) (na nn next : Nat) (m : Mt) (l Hs : List (Nat × AB)) (r1 : Rho X) (w' : World) : Prop where
  h : MeetH lo r H w na m l
  free : ∀ j, j < nn → H.get (next + j) = none
  post : postKeys na nn (l.map (·.1)) Hs = true
  nd : (Hs.map (·.1)).Nodup
  subs : allSubs Hs = true
  le : (m.rho r).le r1
  sat : Sat lo r1 (ctrH (na + nn) Hs) w'
  frm : FrmC (m.rho r) (ctrH na l) w r1 (ctrH (na + nn) Hs) w'
  bok : blocksOk (m.fb (l.map (·.1))) m.fa Hs = true
theorem AfterH.keys (h : AfterH lo r H w na nn next m l Hs r1 w') : ∀ x ∈ Hs, x.1 < na + nn := fun x hx => by
  rcases postKeys_spec h.post x hx with k | ⟨_, k, _⟩
  · obtain ⟨y, hy, e⟩ := List.mem_map.1 k
    have := h.h.keys y hy
    omega
  · exact k
theorem AfterH.get1 (h : AfterH lo r H w na nn next m l Hs r1 w') (b : Nat) : (ctrH (na + nn) Hs).get b = if b < na + nn then some (lookL b Hs) else none := ctrH_get h.nd h.keys
theorem AfterH.le2 (h : AfterH lo r H w na nn next m l Hs r1 w') : r.le (r.call r1 na next nn) := by
  have key : ∀ b, next ≤ b ∧ b < next + nn → r b = none ∧ r.at' b = none := fun b hb => by
    have := h.free (b - next) (by omega)
    rw [show next + (b - next) = b by omega] at this
    exact h.h.sat.free b this
  refine ⟨fun b x hx => ?_, fun k o ho => h.le.f k o ho, fun i d hd => ?_⟩
  · simp only [Rho.call]
    by_cases hb : next ≤ b ∧ b < next + nn
    · rw [(key b hb).1] at hx; cases hx
    · rw [if_neg hb]; exact hx
  · simp only [Rho.call]
    by_cases hb : next ≤ i ∧ i < next + nn
    · rw [(key i hb).2] at hd; cases hd
    · rw [if_neg hb]; exact hd
theorem AfterH.new (h : AfterH lo r H w na nn next m l Hs r1 w') {j : Nat} (hj : j < nn) : (r.call r1 na next nn) (next + j) = r1 (na + j) := by
  simp only [Rho.call]
  rw [if_pos (by omega), show next + j - next = j by omega]
theorem AfterH.ren (h : AfterH lo r H w na nn next m l Hs r1 w') : Ren r1 (r.call r1 na next nn) (m.nb next) (m.na next) (m.fb (l.map (·.1))) m.fa := by
  refine ⟨fun b x hb hx => ?_, fun i d hi hd => ?_, fun _ _ h => h⟩
  · by_cases hbn : b < m.n
    · have hb2 : Nat.ble m.n b = false := by
        cases hq : Nat.ble m.n b with
        | false => rfl
        | true => exact absurd (Nat.le_of_ble_eq_true hq) (by omega)
      rw [Mt.nb_lo hbn]
      simp only [Mt.fb, hb2] at hb
      obtain ⟨y, hy, e⟩ := List.mem_map.1 (memN_iff.1 hb)
      obtain ⟨ab2, B, K, k1, k2, k3, k4, k5, _⟩ := h.h.here hy
      rw [← e] at hx ⊢
      rw [h.le.b _ _ k5] at hx
      cases hx
      exact h.le2.b _ _ k4
    · rw [h.h.n] at hbn
      rw [Mt.nb_hi h.h.n (by omega)]
      have hlt : b < na + nn := by
        apply Classical.byContradiction
        intro hc
        have := (h.sat.free b (by rw [h.get1, if_neg hc])).1
        rw [this] at hx
        cases hx
      rw [h.new (by omega), show na + (b - na) = b by omega]
      exact hx
  · by_cases hin : i < m.n
    · have hb2 : Nat.ble m.n i = false := by
        cases hq : Nat.ble m.n i with
        | false => rfl
        | true => exact absurd (Nat.le_of_ble_eq_true hq) (by omega)
      rw [Mt.na_lo hin]
      simp only [Mt.fa, hb2] at hi
      split at hi
      · rename_i hq
        cases hq
      · rename_i e _ he
        obtain ⟨d0, hd0⟩ := h.h.dfd i e he
        have : (m.rho r).at' i = some d0 := by simp only [Mt.rho, if_pos hin, he, Option.bind_some, hd0]
        rw [h.le.a _ _ this] at hd
        cases hd
        simp only [Mt.se, he]
        exact den_mono h.le2.a hd0
      · cases hi
    · rw [h.h.n] at hin
      rw [Mt.na_hi h.h.n (by omega)]
      have hlt : i < na + nn := by
        apply Classical.byContradiction
        intro hc
        have := (h.sat.free i (by rw [h.get1, if_neg hc])).2
        rw [this] at hd
        cases hd
      simp only [den, Rho.call]
      rw [if_pos (by omega), show na + (next + (i - na) - next) = i by omega, hd]
      rfl
theorem afterH_keys (h : AfterH lo r H w na nn next m l Hs r1 w') : ((afterH m next nn (l.map (·.1)) Hs).map (·.1)).Nodup := by
  unfold afterH
  rw [List.map_append, List.map_map, List.map_map, List.map_map]
  refine List.nodup_append.2 ⟨h.h.inj, ?_, fun a ha b hb e => ?_⟩
  · refine List.pairwise_map.2 (List.Pairwise.imp (fun hne e => ?_) List.nodup_range)
    simp only [Function.comp_apply] at e
    omega
  · obtain ⟨x, hx, e1⟩ := List.mem_map.1 ha
    obtain ⟨j, hj, e2⟩ := List.mem_map.1 hb
    obtain ⟨ab2, B, K, k1, _⟩ := h.h.here hx
    simp only [Function.comp_apply] at e1 e2
    have := h.free j (List.mem_range.1 hj)
    rw [e2, ← e, ← e1, k1] at this
    cases this
theorem AfterH.at (h : AfterH lo r H w na nn next m l Hs r1 w') {p : Nat} (hp : Pt na nn l p) : (putL H (afterH m next nn (l.map (·.1)) Hs)).get (m.nb next p) = some ((lookL p Hs).sub (m.nb next) (m.na next)) := by
  refine putL_in (afterH_keys h) ?_
  unfold afterH
  rcases hp with hp | ⟨h1, h2⟩
  · obtain ⟨x, hx, e⟩ := List.mem_map.1 hp
    refine List.mem_append.2 (.inl (List.mem_map.2 ⟨p, hp, ?_⟩))
    rw [Mt.nb_lo (by rw [h.h.n, ← e]; exact h.h.keys x hx)]
  · refine List.mem_append.2 (.inr (List.mem_map.2 ⟨p - na, List.mem_range.2 (by omega), ?_⟩))
    rw [Mt.nb_hi h.h.n h1, h.h.n, show na + (p - na) = p by omega]
theorem AfterH.or (h : AfterH lo r H w na nn next m l Hs r1 w') (c : Nat) : (∃ p, Pt na nn l p ∧ c = m.nb next p) ∨
    ((∀ p, Pt na nn l p → c ≠ m.nb next p) ∧ (putL H (afterH m next nn (l.map (·.1)) Hs)).get c = H.get c ∧ (∀ x ∈ l, c ≠ m.bl x.1) ∧ ¬ (next ≤ c ∧ c < next + nn)) := by
  by_cases hc : ∃ p, Pt na nn l p ∧ c = m.nb next p
  · exact .inl hc
  · have hc : ∀ p, Pt na nn l p → c ≠ m.nb next p := fun p hp e => hc ⟨p, hp, e⟩
    have h1 : ∀ x ∈ l, c ≠ m.bl x.1 := fun x hx e => by
      refine hc x.1 (.inl (List.mem_map.2 ⟨x, hx, rfl⟩)) ?_
      rw [Mt.nb_lo (by rw [h.h.n]; exact h.h.keys x hx)]
      exact e
    have h2 : ¬ (next ≤ c ∧ c < next + nn) := fun e => by
      refine hc (na + (c - next)) (.inr ⟨by omega, by omega⟩) ?_
      rw [Mt.nb_hi h.h.n (by omega)]
      omega
    refine .inr ⟨hc, putL_out fun x hx e => ?_, h1, h2⟩
    unfold afterH at hx
    rcases List.mem_append.1 hx with hx | hx
    · obtain ⟨b, hb, e2⟩ := List.mem_map.1 hx
      obtain ⟨y, hy, e3⟩ := List.mem_map.1 hb
      refine h1 y hy ?_
      rw [← e, ← e2, e3]
    · obtain ⟨j, hj, e2⟩ := List.mem_map.1 hx
      have := List.mem_range.1 hj
      refine h2 ?_
      rw [← e, ← e2]
      simp only
      omega
theorem AfterH.pt (h : AfterH lo r H w na nn next m l Hs r1 w') {p : Nat} (hp : Pt na nn l p) : p < na + nn ∧ m.fb (l.map (·.1)) p = true ∧ ∃ B K, r1 p = some (B, K) ∧ (r.call r1 na next nn) (m.nb next p) = some (B, K) ∧ ((lookL p Hs).wr = true → lo ≤ B) ∧ Holds r1 w' B K (lookL p Hs) := by
  have hlt : p < na + nn := by
    rcases hp with hp | hp
    · obtain ⟨x, hx, e⟩ := List.mem_map.1 hp
      have := h.h.keys x hx
      omega
    · exact hp.2
  have hfb : m.fb (l.map (·.1)) p = true := by
    unfold Mt.fb
    rcases hp with hp | ⟨hp, _⟩
    · split
      · rfl
      · exact memN_iff.2 hp
    · rw [show Nat.ble m.n p = true from Nat.ble_eq_true_of_le (by rw [h.h.n]; exact hp)]
  obtain ⟨B, K, h1, h2, h3⟩ := h.sat.row p (lookL p Hs) (by rw [h.get1, if_pos hlt])
  exact ⟨hlt, hfb, B, K, h1, h.ren.b _ _ hfb h1, h2, h3⟩
theorem AfterH.holds (h : AfterH lo r H w na nn next m l Hs r1 w') {p B K : Nat} (hh : Holds r1 w' B K (lookL p Hs)) : Holds (r.call r1 na next nn) w' B K ((lookL p Hs).sub (m.nb next) (m.na next)) ∧ ((lookL p Hs).sub (m.nb next) (m.na next)).wr = (lookL p Hs).wr ∧ ((lookL p Hs).sub (m.nb next) (m.na next)).live = (lookL p Hs).live := by
  rcases lookL_or (b := p) (l := Hs) with k | ⟨k, _⟩
  · exact Holds.sub h.ren (allSubs_spec h.subs _ k) (blocksOk_spec h.bok _ k) hh
  · rw [k]
    exact ⟨trivial, rfl, rfl⟩
theorem AfterH.apart (h : AfterH lo r H w na nn next m l Hs r1 w') {c B K K' p : Nat} {ac : AB} (hc : H.get c = some ac) (hl : ac.live = true) (hr : r c = some (B, K)) (hn : ∀ x ∈ l, c ≠ m.bl x.1) (hp : Pt na nn l p) (hlp : (lookL p Hs).live = true) (hrp : r1 p = some (B, K')) : False := by
  have up : ∀ x ∈ l, ∀ K', r (m.bl x.1) = some (B, K') → False := fun x hx K' hx2 => by
    obtain ⟨ab2, B2, K2, k1, k2, k3, k4, _⟩ := h.h.here hx
    rw [hx2] at k4
    cases k4
    exact hn x hx (h.h.sat.inj _ _ _ _ _ _ _ hc k1 hl k3 hr hx2)
  rcases hp with hp | ⟨hp, hp2⟩
  · obtain ⟨x, hx, e⟩ := List.mem_map.1 hp
    obtain ⟨ab2, B2, K2, k1, k2, k3, k4, k5, _⟩ := h.h.here hx
    rw [e] at k5
    rw [h.le.b _ _ k5] at hrp
    cases hrp
    exact up x hx _ k4
  · have hin : (p, lookL p Hs) ∈ Hs := by
      rcases lookL_or (b := p) (l := Hs) with k | ⟨k, _⟩
      · exact k
      · rw [k] at hlp; cases hlp
    have hw : (lookL p Hs).wr = true := by
      rcases postKeys_spec h.post _ hin with k | ⟨_, _, k⟩
      · obtain ⟨y, hy, e⟩ := List.mem_map.1 k
        have := h.h.keys y hy
        simp only at e
        omega
      · exact k
    have hiw : InW r1 (ctrH (na + nn) Hs) B := ⟨p, _, K', by rw [h.get1, if_pos hp2], hw, hrp⟩
    have hlt : B < w.heap.size := by
      obtain ⟨B2, K2, k1, _, k3⟩ := h.h.sat.row c ac hc
      rw [hr] at k1
      cases k1
      exact k3.lt hl
    obtain ⟨x, hx, ab2, K2, k1, k2, k3⟩ := h.h.inw (h.frm.grow B hlt hiw)
    exact up x hx _ k3
theorem AfterH.sat2 (h : AfterH lo r H w na nn next m l Hs r1 w') : Sat lo (r.call r1 na next nn) (putL H (afterH m next nn (l.map (·.1)) Hs)) w' := by
  have hmod : ∀ c ac B K, H.get c = some ac → ac.live = true → r c = some (B, K) → (∀ x ∈ l, c ≠ m.bl x.1) → ¬ InW (m.rho r) (ctrH na l) B := fun c ac B K hc hl hr hn hi => by
    obtain ⟨x, hx, ab2, K2, k1, k2, k3⟩ := h.h.inw hi
    exact hn x hx (h.h.sat.inj _ _ _ _ _ _ _ hc k1 hl (wr_live k2) hr k3)
  refine ⟨fun c ac hc => ?_, fun c d ac ad B K K' hc hd hlc hld hrc hrd => ?_, fun c hc => ?_, h.sat.size, h.sat.old, fun k ob hk => ⟨(h.sat.fz k ob hk).1, fun c ac K hc hw hr => ?_⟩⟩
  · rcases h.or c with ⟨p, hp, rfl⟩ | ⟨_, h1, h2, h3⟩
    · rw [h.at hp] at hc
      cases hc
      obtain ⟨_, _, B, K, k1, k2, k3, k4⟩ := h.pt hp
      obtain ⟨g1, g2, _⟩ := h.holds k4
      exact ⟨B, K, k2, fun hw => k3 (g2 ▸ hw), g1⟩
    · rw [h1] at hc
      obtain ⟨B, K, k1, k2, k3⟩ := h.h.sat.row c ac hc
      exact ⟨B, K, h.le2.b _ _ k1, k2, k3.mod h.le2 h.frm.mod fun hl => hmod c ac B K hc hl k1 h2⟩
  · rcases h.or c with ⟨p, hp, rfl⟩ | ⟨hc1, h1, h2, h3⟩
    · rw [h.at hp] at hc
      cases hc
      obtain ⟨hpl, hpf, B1, K1, k1, k2, k3, k4⟩ := h.pt hp
      rw [k2] at hrc
      cases hrc
      rw [(h.holds k4).2.2] at hlc
      rcases h.or d with ⟨q, hq, rfl⟩ | ⟨hd1, g1, g2, g3⟩
      · rw [h.at hq] at hd
        cases hd
        obtain ⟨hql, hqf, B2, K2, j1, j2, j3, j4⟩ := h.pt hq
        rw [j2] at hrd
        cases hrd
        rw [(h.holds j4).2.2] at hld
        rw [h.sat.inj p q _ _ _ _ _ (by rw [h.get1, if_pos hpl]) (by rw [h.get1, if_pos hql]) hlc hld k1 j1]
      · rw [g1] at hd
        obtain ⟨B2, K2, j1, _⟩ := h.h.sat.row d ad hd
        rw [h.le2.b _ _ j1] at hrd
        cases hrd
        exact (h.apart hd hld j1 g2 hp hlc k1).elim
    · rw [h1] at hc
      obtain ⟨B1, K1, k1, _⟩ := h.h.sat.row c ac hc
      rw [h.le2.b _ _ k1] at hrc
      cases hrc
      rcases h.or d with ⟨q, hq, rfl⟩ | ⟨hd1, g1, g2, g3⟩
      · rw [h.at hq] at hd
        cases hd
        obtain ⟨hql, hqf, B2, K2, j1, j2, j3, j4⟩ := h.pt hq
        rw [j2] at hrd
        cases hrd
        rw [(h.holds j4).2.2] at hld
        exact (h.apart hc hlc k1 h2 hq hld j1).elim
      · rw [g1] at hd
        obtain ⟨B2, K2, j1, _⟩ := h.h.sat.row d ad hd
        rw [h.le2.b _ _ j1] at hrd
        cases hrd
        exact h.h.sat.inj _ _ _ _ _ _ _ hc hd hlc hld k1 j1
  · rcases h.or c with ⟨p, hp, rfl⟩ | ⟨_, h1, h2, h3⟩
    · rw [h.at hp] at hc; cases hc
    · rw [h1] at hc
      simp only [Rho.call, if_neg h3]
      exact h.h.sat.free c hc
  · rcases h.or c with ⟨p, hp, rfl⟩ | ⟨_, h1, h2, h3⟩
    · rw [h.at hp] at hc
      cases hc
      obtain ⟨hpl, hpf, B1, K1, k1, k2, k3, k4⟩ := h.pt hp
      rw [k2] at hr
      cases hr
      rw [(h.holds k4).2.1] at hw
      exact (h.sat.fz k ob hk).2 p _ _ (by rw [h.get1, if_pos hpl]) hw k1
    · rw [h1] at hc
      obtain ⟨B1, K1, k1, _, k3⟩ := h.h.sat.row c ac hc
      rw [h.le2.b _ _ k1] at hr
      cases hr
      rcases h.frm.fzn k ob hk with j1 | j1 | j1
      · exact (h.h.sat.fz k ob j1).2 c ac _ hc hw k1
      · exact absurd (k3.lt (wr_live hw)) (by omega)
      · exact hmod c ac k K hc (wr_live hw) k1 h2 j1
theorem AfterH.frm2 (h : AfterH lo r H w na nn next m l Hs r1 w') : FrmC r H w (r.call r1 na next nn) (putL H (afterH m next nn (l.map (·.1)) Hs)) w' := by
  refine ⟨h.frm.mod.weaken fun k _ hk => h.h.inW hk, fun k hk ⟨c, ac, K, hc, hw, hr⟩ => ?_, fun k ob hk => ?_⟩
  · rcases h.or c with ⟨p, hp, rfl⟩ | ⟨_, h1, h2, h3⟩
    · rw [h.at hp] at hc
      cases hc
      obtain ⟨hpl, hpf, B1, K1, k1, k2, k3, k4⟩ := h.pt hp
      rw [k2] at hr
      cases hr
      rw [(h.holds k4).2.1] at hw
      exact h.h.inW (h.frm.grow k hk ⟨p, _, K, by rw [h.get1, if_pos hpl], hw, k1⟩)
    · rw [h1] at hc
      obtain ⟨B1, K1, k1, _⟩ := h.h.sat.row c ac hc
      rw [h.le2.b _ _ k1] at hr
      cases hr
      exact ⟨c, ac, K, hc, hw, k1⟩
  · rcases h.frm.fzn k ob hk with j1 | j1 | j1
    · exact .inl j1
    · exact .inr (.inl j1)
    · exact .inr (.inr (h.h.inW j1))
theorem goCT_ok {K : Val X → AV × ST → Prop} (h : MeetH lo r H w na m l) {V : Value} : ∀ {ct : CT} {st : ST}, st.H = H → PcOK r.at' st.pc → ct.wf na (l.map (·.1)) = true → (goCT m (l.map (·.1)) ct st).vc K r.at' → ct.left lo na (m.rho r) (ctrH na l) w V w' → Left lo r H w K V w'
  | .done nn v Hs, st, hst, hpc, hwf, hev, ⟨r1, h1, h2, h3, h4⟩ => by
    simp only [goCT] at hev
    split at hev
    · rename_i q1 q2 q3
      simp only [CT.wf] at hwf
      split at hwf
      · rename_i p1 p2 p3
        rw [hst] at q1 hev
        have hA : AfterH lo r H w na nn st.next m l Hs r1 w' := ⟨h, freeN_spec q1, p1, nodupN_spec p2, p3, h1, h3, h4, q3⟩
        have hv := anyN_vc (fun i => (r1.at' (na + (i - st.next))).getD (.i 0)) hev
        have hle := hA.le2
        exact ⟨r.call r1 na st.next nn, _, hv, hle, Rel.sub hA.ren v q2 h2, hA.sat2, hA.frm2, fun x hx => (let ⟨d, k1, k2⟩ := hpc x hx; ⟨d, den_mono hle.a k1, k2⟩)⟩
      · cases hwf
    · exact hev.elim
  | .fork e t f, st, hst, hpc, hwf, hev, hl => by
    simp only [CT.wf] at hwf
    split at hwf
    · rename_i hwt
      simp only [goCT] at hev
      split at hev
      · rename_i hb
        have hden := den_rho (r := r) hb
        split at hev
        · rename_i hq
          obtain ⟨d, hd, hdb⟩ := pcFind_ok hpc hq
          rcases hl with ⟨_, hl⟩ | ⟨⟨d2, k1, k2⟩, _⟩
          · exact goCT_ok h hst hpc hwt hev hl
          · rw [hden, hd] at k1
            cases k1
            rw [hdb] at k2
            cases k2
        · rename_i hq
          obtain ⟨d, hd, hdb⟩ := pcFind_ok hpc hq
          rcases hl with ⟨⟨d2, k1, k2⟩, _⟩ | ⟨_, hl⟩
          · rw [hden, hd] at k1
            cases k1
            rw [hdb] at k2
            cases k2
          · exact goCT_ok h hst hpc hwf hev hl
        · obtain ⟨d, hd, ht, hf⟩ := hev
          rcases hl with ⟨⟨d2, k1, k2⟩, hl⟩ | ⟨⟨d2, k1, k2⟩, hl⟩
          · rw [hden, hd] at k1
            cases k1
            exact goCT_ok (st := st.know (e.sub m.se) true) h hst (hpc.cons hd k2) hwt (ht k2) hl
          · rw [hden, hd] at k1
            cases k1
            exact goCT_ok (st := st.know (e.sub m.se) false) h hst (hpc.cons hd k2) hwf (hf k2) hl
      · exact hev.elim
    · cases hwf
end
theorem allBound_spec {m : Mt} : ∀ {l : List SE}, allBound m l = true → ∀ c ∈ l, c.bound m = true
  | [], _, c, hc => by simp at hc
  | x :: l, h, c, hc => by
    simp only [allBound] at h
    split at h
    · rename_i hx
      rcases List.mem_cons.1 hc with rfl | hc
      · exact hx
      · exact allBound_spec h c hc
    · cases h
theorem call_ok [Sig] {C : Ctr} (h : CtrOK X P lo C) : CallOK X P lo C.call := by
  intro f args st t ht K r w Args hev hA hs hpc
  unfold Ctr.call at ht
  split at ht
  · rename_i hf
    have hf := Nat.eq_of_beq_eq_true hf
    subst hf
    split at ht
    · rename_i m0 h0
      split at ht
      · rename_i m hm
        split at ht
        · rename_i q1 q2 q3
          cases ht
          obtain ⟨a1, a2⟩ := matchL_ok (r := r) _ h0
          obtain ⟨b1, b2, b3⟩ := matchH_ok (lo := lo) (r := r) (w := w) hm
          simp only [Ctr.wf] at q3
          split at q3
          · rename_i c1 c2 c3 c4
            have hd0 : Defd r ⟨C.na, .e, .e⟩ := fun i e he => by simp [Tr.get] at he
            have hM : MeetH lo r st.H w C.na m C.H := ⟨⟨b1.n.trans a1.n, keysB_spec c1, nodupN_spec c2, c3, b2, nodupN_spec q1, hs⟩, b3 hs (matchL_def _ h0 hA hd0)⟩
            obtain ⟨s1, k1, k2, k3, k4, k5⟩ := needs_vc0 hpc hev
            refine (h (m.rho r) w Args (a2 m Args b1 hA) hM.pat fun c hc => ?_).mono fun V w' hl => ?_
            · have hb := allBound_spec q2 c hc
              obtain ⟨d, g1, g2⟩ := k4 (c.sub m.se) (List.mem_map.2 ⟨c, hc, rfl⟩)
              exact ⟨d, (den_rho hb).trans g1, g2⟩
            · exact goCT_ok hM k1 k3 c4 k5 hl
          · cases q3
        · cases ht
      · cases ht
    · cases ht
  · cases ht
end
end Go.Proofs.YtbjomeonjlialaaGreat.V.S
