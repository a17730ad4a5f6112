/-
  What the parts of a command come to, in plain Lean: the command stays as it is where it is written; the bounds where it is read.
-/
import Derived.Test.YtahkglanddhncaaWq
namespace Go.Proofs.Ytahkglanddhncaa.V

/-- How many bytes a command takes at most. -/
def csize (c : Cmd) : Nat := c.key.length + c.value.length + c.tag.length + c.pre.length + c.child.length + tot c.keys + tot c.tags + 100

/-- A step that writes: the command stays, at most so many bytes more. -/
def WrP (p : St × Cmd → St × Cmd) (f : Cmd → Nat) : Prop := ∀ x, x.1.read = false → (p x).2 = x.2 ∧ (p x).1.read = false ∧ (p x).1.data.length ≤ x.1.data.length + f x.2
theorem WrP.comp {p q : St × Cmd → St × Cmd} {f g : Cmd → Nat} (hq : WrP q g) (hp : WrP p f) : WrP (fun x => q (p x)) (fun c => f c + g c) := fun x hx => by
  obtain ⟨h1, h2, h3⟩ := hp x hx
  obtain ⟨k1, k2, k3⟩ := hq (p x) h2
  rw [h1] at k1 k3
  exact ⟨k1, k2, by dsimp only; omega⟩
theorem doPart_w (ok : List UInt8 → Bool) (st : St) (s : List UInt8) (h : st.read = false) : (doPart ok st s).2 = s := by unfold doPart; rw [if_neg (by simp [h])]
theorem doNum_w (st : St) (n : Nat) (h : st.read = false) : (doNum st n).2 = n := by unfold doNum; rw [if_neg (by simp [h])]
theorem doAll_w (ok : List UInt8 → Bool) : ∀ (l : List (List UInt8)) (st : St), st.read = false → (doAll ok st l).2 = l
  | [], _, _ => rfl
  | s :: r, st, h => by simp [doAll, doPart_w ok st s h, doAll_w ok r (doPart ok st s).1 (by rw [doPart_read]; exact h)]

theorem pKey_w : WrP pKey (fun c => 11 + c.key.length) := fun x h => ⟨by unfold pKey; rw [doPart_w _ _ _ h], by rw [pKey_read]; exact h, by have := pKey_len x; dsimp only; omega⟩
theorem pChild_w : WrP pChild (fun c => 11 + c.child.length) := fun x h => ⟨by unfold pChild; rw [doPart_w _ _ _ h], (doPart_read _ _ _).trans h, by have := doPart_len okKey x.1 x.2.child; unfold pChild; dsimp only; omega⟩
theorem pTag_w : WrP pTag (fun c => 11 + c.tag.length) := fun x h => ⟨by unfold pTag; rw [doPart_w _ _ _ h], (doPart_read _ _ _).trans h, by have := doPart_len okTag x.1 x.2.tag; unfold pTag; dsimp only; omega⟩
theorem pPre_w : WrP pPre (fun c => 11 + c.pre.length) := fun x h => ⟨by unfold pPre; rw [doPart_w _ _ _ h], (doPart_read _ _ _).trans h, by have := doPart_len okPrefix x.1 x.2.pre; unfold pPre; dsimp only; omega⟩
theorem pValue_w : WrP pValue (fun c => 11 + c.value.length) := fun x h => ⟨by unfold pValue doValue; rw [if_neg (by simp [h])], by rw [pValue_read]; exact h, by have := pValue_len x; dsimp only; omega⟩
theorem pLife_w : WrP pLife (fun _ => 11) := fun x h => ⟨by unfold pLife doLife; rw [doNum_w _ _ h], (doNum_read _ _).trans h, pLife_len x⟩
theorem pVersion_w : WrP pVersion (fun _ => 11) := fun x h => ⟨by unfold pVersion; rw [doNum_w _ _ h], (doNum_read _ _).trans h, doNum_len _ _⟩
theorem pTags_w : WrP pTags (fun c => 11 + tot c.tags) := fun x h => ⟨by unfold pTags; rw [if_neg (by simp [h])], (doList_read _ _ _ _ _).trans h, by have := pTags_len x (by simp [h]); dsimp only; omega⟩
theorem pKeys_w : WrP pKeys (fun c => 11 + tot c.keys) := fun x h => ⟨by unfold pKeys; rw [if_neg (by simp [h])], (doList_read _ _ _ _ _).trans h, by have := doList_len okKey 1 16 x.1 x.2.keys (by simp [h]); unfold pKeys; dsimp only; omega⟩
theorem doParts_w : WrP doParts csize := by
  intro x h
  have mono : ∀ {p f}, WrP p f → f x.2 ≤ csize x.2 → (p x).2 = x.2 ∧ (p x).1.read = false ∧ (p x).1.data.length ≤ x.1.data.length + csize x.2 := fun hp hf => by
    obtain ⟨h1, h2, h3⟩ := hp x h
    exact ⟨h1, h2, by omega⟩
  unfold doParts
  split
  · split
    · exact mono (pVersion_w.comp (pLife_w.comp (pTags_w.comp (pValue_w.comp pKey_w)))) (by unfold csize; first | (dsimp only; omega) | omega)
    · exact mono (pLife_w.comp (pTags_w.comp (pValue_w.comp pKey_w))) (by unfold csize; first | (dsimp only; omega) | omega)
  split
  · exact mono pKey_w (by unfold csize; omega)
  split
  · exact mono pKeys_w (by unfold csize; omega)
  split
  · exact mono (pLife_w.comp pKey_w) (by unfold csize; first | (dsimp only; omega) | omega)
  split
  · exact mono pTag_w (by unfold csize; omega)
  split
  · exact mono pPre_w (by unfold csize; omega)
  split
  · exact mono (pChild_w.comp pKey_w) (by unfold csize; first | (dsimp only; omega) | omega)
  split
  · exact ⟨rfl, h, by omega⟩
  · exact ⟨rfl, h, by show x.1.data.length ≤ _; omega⟩

/-- What a command that was read keeps to. -/
structure RdC (c : Cmd) : Prop where
  key : c.key.length ≤ 65536
  value : c.value.length ≤ 65536
  tag : c.tag.length ≤ 65536
  pre : c.pre.length ≤ 65536
  child : c.child.length ≤ 65536
  keys : c.keys.length ≤ 16 ∧ tot c.keys ≤ 16 * 65547
  tags : c.tags.length ≤ 16 ∧ tot c.tags ≤ 16 * 65547
  life : c.life < 18446744073709551616
  version : c.version < 18446744073709551616
theorem rdBytes_most (l : List UInt8) (most : Nat) : (rdBytes l most).1.length ≤ most := by
  unfold rdBytes
  split
  · rename_i h; exact (getB_size l most h).2.2.1
  · exact Nat.zero_le _
theorem doPart_most (ok : List UInt8 → Bool) (st : St) (s : List UInt8) (h : st.read = true) : (doPart ok st s).2.length ≤ 65536 := by
  unfold doPart; rw [if_pos h]; exact rdBytes_most _ _
theorem doAll_most (ok : List UInt8 → Bool) : ∀ (l : List (List UInt8)) (st : St), st.read = true → tot (doAll ok st l).2 ≤ l.length * 65547
  | [], _, _ => Nat.le_refl _
  | s :: r, st, h => by
    have h1 := doPart_most ok st s h
    have h2 := doAll_most ok r (doPart ok st s).1 (by rw [doPart_read]; exact h)
    simp only [doAll, tot, List.length_cons]
    omega
theorem doList_most (ok : List UInt8 → Bool) (least : Nat) (st : St) (l : List (List UInt8)) (h : st.read = true) (hl : l.length ≤ 16 ∧ tot l ≤ 16 * 65547) :
    (doList ok least 16 st l).2.length ≤ 16 ∧ tot (doList ok least 16 st l).2 ≤ 16 * 65547 := by
  unfold doList
  split
  · exact hl
  · rename_i hn
    generalize hm : (if st.read = true ∧ 0 < (doNum st l.length).2 then List.replicate (doNum st l.length).2 [] else l) = m
    have hm' : m.length ≤ 16 := by
      subst hm
      split
      · simp; omega
      · exact hl.1
    have h1 := doAll_most ok m (doNum st l.length).1 (by rw [doNum_read]; exact h)
    rw [doAll_length]
    exact ⟨hm', by have := Nat.mul_le_mul_right 65547 hm'; exact Nat.le_trans h1 this⟩
def RdP (p : St × Cmd → St × Cmd) : Prop := ∀ x, x.1.read = true → RdC x.2 → RdC (p x).2 ∧ (p x).1.read = true
theorem RdP.comp {p q : St × Cmd → St × Cmd} (hq : RdP q) (hp : RdP p) : RdP (fun x => q (p x)) := fun x h hx => by
  obtain ⟨h1, h2⟩ := hp x h hx
  exact hq (p x) h2 h1
theorem pKey_r : RdP pKey := fun x h hx => ⟨⟨doPart_most _ _ _ h, hx.value, hx.tag, hx.pre, hx.child, hx.keys, hx.tags, hx.life, hx.version⟩, (doPart_read _ _ _).trans h⟩
theorem pChild_r : RdP pChild := fun x h hx => ⟨⟨hx.key, hx.value, hx.tag, hx.pre, doPart_most _ _ _ h, hx.keys, hx.tags, hx.life, hx.version⟩, (doPart_read _ _ _).trans h⟩
theorem pTag_r : RdP pTag := fun x h hx => ⟨⟨hx.key, hx.value, doPart_most _ _ _ h, hx.pre, hx.child, hx.keys, hx.tags, hx.life, hx.version⟩, (doPart_read _ _ _).trans h⟩
theorem pPre_r : RdP pPre := fun x h hx => ⟨⟨hx.key, hx.value, hx.tag, doPart_most _ _ _ h, hx.child, hx.keys, hx.tags, hx.life, hx.version⟩, (doPart_read _ _ _).trans h⟩
theorem pValue_r : RdP pValue := fun x h hx => ⟨⟨hx.key, by
  unfold pValue doValue
  dsimp only
  split
  · exact doPart_most _ _ _ h
  · exact hx.value, hx.tag, hx.pre, hx.child, hx.keys, hx.tags, hx.life, hx.version⟩, (pValue_read x).trans h⟩
theorem pLife_r : RdP pLife := fun x h hx => ⟨⟨hx.key, hx.value, hx.tag, hx.pre, hx.child, hx.keys, hx.tags, doNum_lt x.1 hx.life, hx.version⟩, (doNum_read _ _).trans h⟩
theorem pVersion_r : RdP pVersion := fun x h hx => ⟨⟨hx.key, hx.value, hx.tag, hx.pre, hx.child, hx.keys, hx.tags, hx.life, doNum_lt x.1 hx.version⟩, (doNum_read _ _).trans h⟩
theorem pTags_r : RdP pTags := fun x h hx => ⟨by
  unfold pTags
  rw [if_pos h]
  exact ⟨hx.key, hx.value, hx.tag, hx.pre, hx.child, hx.keys, doList_most _ _ _ _ h hx.tags, hx.life, hx.version⟩, (doList_read _ _ _ _ _).trans h⟩
theorem pKeys_r : RdP pKeys := fun x h hx => ⟨by
  unfold pKeys
  rw [if_pos h]
  exact ⟨hx.key, hx.value, hx.tag, hx.pre, hx.child, doList_most _ _ _ _ h hx.keys, hx.tags, hx.life, hx.version⟩, (doList_read _ _ _ _ _).trans h⟩
theorem doParts_r : RdP doParts := by
  intro x h hx
  unfold doParts
  split
  · split
    · exact (pVersion_r.comp (pLife_r.comp (pTags_r.comp (pValue_r.comp pKey_r)))) x h hx
    · exact (pLife_r.comp (pTags_r.comp (pValue_r.comp pKey_r))) x h hx
  split
  · exact pKey_r x h hx
  split
  · exact pKeys_r x h hx
  split
  · exact (pLife_r.comp pKey_r) x h hx
  split
  · exact pTag_r x h hx
  split
  · exact pPre_r x h hx
  split
  · exact (pChild_r.comp pKey_r) x h hx
  split
  · exact ⟨hx, h⟩
  · exact ⟨hx, h⟩
theorem bare_r (op : Int) : RdC (bare op) := by constructor <;> simp [bare, tot]
theorem readC_r (code : Nat) (l : List UInt8) : RdC (readC code l).1 := by
  unfold readC
  split
  · exact bare_r 0
  · exact (doParts_r (⟨true, l, false⟩, bare code) rfl (bare_r _)).1
/-- A command that may be written. -/
structure OkC (c : Cmd) : Prop where
  op : -9223372036854775808 ≤ c.op ∧ c.op < 9223372036854775808
  size : csize c < 2 ^ 28
  keys : c.keys.length < 2 ^ 28
  tags : c.tags.length < 2 ^ 28
  life : c.life < 18446744073709551616
  version : c.version < 18446744073709551616
theorem OkC.small {c : Cmd} (h : OkC c) : SmallC c := by
  have h1 := h.size
  have h2 := h.keys
  have h3 := h.tags
  unfold csize at h1
  exact ⟨by omega, by omega, by omega, by omega, by omega, by omega, by omega, h.life, h.version⟩
theorem RdC.okc {c : Cmd} (h : RdC c) (hop : -9223372036854775808 ≤ c.op ∧ c.op < 9223372036854775808) : OkC c := by
  have h1 := h.key
  have h2 := h.value
  have h3 := h.tag
  have h4 := h.pre
  have h5 := h.child
  have h6 := h.keys
  have h7 := h.tags
  exact ⟨hop, by unfold csize; omega, by omega, by omega, h.life, h.version⟩
end Go.Proofs.Ytahkglanddhncaa.V
