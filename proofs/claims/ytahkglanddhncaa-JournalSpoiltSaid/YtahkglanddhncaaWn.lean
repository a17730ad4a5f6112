/-
  What a codec's function for all parts computes, in both modes (package request). Conditions: the lengths of what is read and made stay below 2^38; the blocks of the codec, the command and the reader are different ones.
-/
import Derived.Test.YtahkglanddhncaaWm
namespace Go.Proofs.Ytahkglanddhncaa.V
attribute [local irreducible] GX GO

def pKey (x : St × Cmd) : St × Cmd := ((doPart okKey x.1 x.2.key).1, { x.2 with key := (doPart okKey x.1 x.2.key).2 })
def pChild (x : St × Cmd) : St × Cmd := ((doPart okKey x.1 x.2.child).1, { x.2 with child := (doPart okKey x.1 x.2.child).2 })
def pTag (x : St × Cmd) : St × Cmd := ((doPart okTag x.1 x.2.tag).1, { x.2 with tag := (doPart okTag x.1 x.2.tag).2 })
def pPre (x : St × Cmd) : St × Cmd := ((doPart okPrefix x.1 x.2.pre).1, { x.2 with pre := (doPart okPrefix x.1 x.2.pre).2 })
def pValue (x : St × Cmd) : St × Cmd := ((doValue x.1 x.2.value).1, { x.2 with value := (doValue x.1 x.2.value).2 })
def pLife (x : St × Cmd) : St × Cmd := ((doLife x.1 x.2.life).1, { x.2 with life := (doLife x.1 x.2.life).2 })
def pVersion (x : St × Cmd) : St × Cmd := ((doNum x.1 x.2.version).1, { x.2 with version := (doNum x.1 x.2.version).2 })
def pTags (x : St × Cmd) : St × Cmd := ((doList okTag 0 16 x.1 x.2.tags).1, if x.1.read = true then { x.2 with tags := (doList okTag 0 16 x.1 x.2.tags).2 } else x.2)
def pKeys (x : St × Cmd) : St × Cmd := ((doList okKey 1 16 x.1 x.2.keys).1, if x.1.read = true then { x.2 with keys := (doList okKey 1 16 x.1 x.2.keys).2 } else x.2)
/-- All parts of a command. -/
def doParts (x : St × Cmd) : St × Cmd :=
  if x.2.op = 1 ∨ x.2.op = 2 ∨ x.2.op = 3 then (if x.2.op = 3 then pVersion (pLife (pTags (pValue (pKey x)))) else pLife (pTags (pValue (pKey x))))
  else if x.2.op = 4 ∨ x.2.op = 7 ∨ x.2.op = 13 then pKey x
  else if x.2.op = 5 then pKeys x
  else if x.2.op = 6 then pLife (pKey x)
  else if x.2.op = 8 ∨ x.2.op = 9 then pTag x
  else if x.2.op = 10 then pPre x
  else if x.2.op = 11 ∨ x.2.op = 12 then pChild (pKey x)
  else if x.2.op = 14 ∨ x.2.op = 15 then x
  else (setBad x.1, x.2)

/-- A codec and its command. -/
def PX (B : Nat) (w : World) (bx bc br : Nat) (ba : Option Nat) (x : St × Cmd) : Prop := B ≤ w.heap.size ∧ Cx w bx bc br ba x.1 ∧ CmdAt w (Fx B bx br bc) bc x.2
/-- What a step leaves. -/
def Stepped (B : Nat) (w : World) (bx bc br : Nat) (ba : Option Nat) (x : St × Cmd) (v : Value) (w' : World) : Prop := v = .tuple #[] ∧ PX B w' bx bc br ba x ∧ Mod (Fc bx br bc) w w'

section
variable {B : Nat} {w : World} {bx bc br : Nat} {ba : Option Nat} {x : St × Cmd}
theorem PX.ne (h : PX B w bx bc br ba x) : bc ≠ bx ∧ bc ≠ br ∧ ba ≠ some bc := ⟨fun h' => h.2.1.1.xc h'.symm, h.2.1.1.cr, h.2.1.1.ac⟩
theorem Mod.fc {w w' : World} {bx bc br : Nat} {q : Prop} (h : Mod (fun k => Fp bx br k ∨ (q ∧ k = bc)) w w') : Mod (Fc bx br bc) w w' := h.of fun k hk => by
  rcases hk with h | ⟨_, h⟩
  · exact .inl h
  · exact .inr h

theorem key_step (h : PX B w bx bc br ba x) (hl : x.1.data.length < 2 ^ 38) (hs : x.2.key.length < 2 ^ 38) :
    Ret Try.prog 54 [.pointer (some ⟨bx, 0, none⟩), .pointer (some ⟨bc, 0 + 1, none⟩), .func (.func 55) #[] #[]].toArray w (Stepped B w bx bc br ba (pKey x)) := by
  have hne := h.ne
  obtain ⟨ka, kc, va, vc, ta, tc, hbc, _⟩ := h.2.2
  have hb := hbc
  have hA : At w bc (0 + 1) [str x.2.key] := (hbc.get (o := 0 + 1) rfl).left (l := [_])
  refine (part_ret 55 okKey keyValid_ret bx bc br ba x.1 x.2.key bc (0 + 1) w h.2.1 hA (hbc.wr (by simp [cmdCells])) hl hs hne.1 hne.2.1 hne.2.2).mono ?_
  rintro v w' ⟨rfl, hC, hU, hM⟩
  exact ⟨rfl, ⟨Nat.le_trans h.1 hM.size, hC, h.2.2.upd hU hM.fc (fun _ _ _ _ _ _ => rfl) rfl rfl rfl⟩, hM.fc⟩
theorem child_step (h : PX B w bx bc br ba x) (hl : x.1.data.length < 2 ^ 38) (hs : x.2.child.length < 2 ^ 38) :
    Ret Try.prog 54 [.pointer (some ⟨bx, 0, none⟩), .pointer (some ⟨bc, 0 + 9, none⟩), .func (.func 55) #[] #[]].toArray w (Stepped B w bx bc br ba (pChild x)) := by
  have hne := h.ne
  obtain ⟨ka, kc, va, vc, ta, tc, hbc, _⟩ := h.2.2
  have hb := hbc
  have hA : At w bc (0 + 9) [str x.2.child] := (hbc.get (o := 0 + 9) rfl).left (l := [_])
  refine (part_ret 55 okKey keyValid_ret bx bc br ba x.1 x.2.child bc (0 + 9) w h.2.1 hA (hbc.wr (by simp [cmdCells])) hl hs hne.1 hne.2.1 hne.2.2).mono ?_
  rintro v w' ⟨rfl, hC, hU, hM⟩
  exact ⟨rfl, ⟨Nat.le_trans h.1 hM.size, hC, h.2.2.upd hU hM.fc (fun _ _ _ _ _ _ => rfl) rfl rfl rfl⟩, hM.fc⟩
theorem tag_step (h : PX B w bx bc br ba x) (hl : x.1.data.length < 2 ^ 38) (hs : x.2.tag.length < 2 ^ 38) :
    Ret Try.prog 54 [.pointer (some ⟨bx, 0, none⟩), .pointer (some ⟨bc, 0 + 7, none⟩), .func (.func 58) #[] #[]].toArray w (Stepped B w bx bc br ba (pTag x)) := by
  have hne := h.ne
  obtain ⟨ka, kc, va, vc, ta, tc, hbc, _⟩ := h.2.2
  have hb := hbc
  have hA : At w bc (0 + 7) [str x.2.tag] := (hbc.get (o := 0 + 7) rfl).left (l := [_])
  refine (part_ret 58 okTag tagValid_ret bx bc br ba x.1 x.2.tag bc (0 + 7) w h.2.1 hA (hbc.wr (by simp [cmdCells])) hl hs hne.1 hne.2.1 hne.2.2).mono ?_
  rintro v w' ⟨rfl, hC, hU, hM⟩
  exact ⟨rfl, ⟨Nat.le_trans h.1 hM.size, hC, h.2.2.upd hU hM.fc (fun _ _ _ _ _ _ => rfl) rfl rfl rfl⟩, hM.fc⟩
theorem pre_step (h : PX B w bx bc br ba x) (hl : x.1.data.length < 2 ^ 38) (hs : x.2.pre.length < 2 ^ 38) :
    Ret Try.prog 54 [.pointer (some ⟨bx, 0, none⟩), .pointer (some ⟨bc, 0 + 8, none⟩), .func (.func 61) #[] #[]].toArray w (Stepped B w bx bc br ba (pPre x)) := by
  have hne := h.ne
  obtain ⟨ka, kc, va, vc, ta, tc, hbc, _⟩ := h.2.2
  have hb := hbc
  have hA : At w bc (0 + 8) [str x.2.pre] := (hbc.get (o := 0 + 8) rfl).left (l := [_])
  refine (part_ret 61 okPrefix prefixValid_ret bx bc br ba x.1 x.2.pre bc (0 + 8) w h.2.1 hA (hbc.wr (by simp [cmdCells])) hl hs hne.1 hne.2.1 hne.2.2).mono ?_
  rintro v w' ⟨rfl, hC, hU, hM⟩
  exact ⟨rfl, ⟨Nat.le_trans h.1 hM.size, hC, h.2.2.upd hU hM.fc (fun _ _ _ _ _ _ => rfl) rfl rfl rfl⟩, hM.fc⟩
theorem version_step (h : PX B w bx bc br ba x) (hl : x.1.data.length < 2 ^ 38) (hs : x.2.version < 18446744073709551616) :
    Ret Try.prog 60 [.pointer (some ⟨bx, 0, none⟩), .pointer (some ⟨bc, 0 + 6, none⟩)].toArray w (Stepped B w bx bc br ba (pVersion x)) := by
  have hne := h.ne
  obtain ⟨ka, kc, va, vc, ta, tc, hbc, _⟩ := h.2.2
  have hA : At w bc (0 + 6) [.int .u64 x.2.version] := (hbc.get (o := 0 + 6) rfl).left (l := [_])
  refine (num_ret bx bc br ba x.1 x.2.version hs bc (0 + 6) w h.2.1 hA (hbc.wr (by simp [cmdCells])) hl hne.1 hne.2.1 hne.2.2).mono ?_
  rintro v w' ⟨rfl, hC, hU, hM⟩
  exact ⟨rfl, ⟨Nat.le_trans h.1 hM.size, hC, h.2.2.upd hU hM.fc (fun _ _ _ _ _ _ => rfl) rfl rfl rfl⟩, hM.fc⟩
theorem life_step (h : PX B w bx bc br ba x) (hl : x.1.data.length < 2 ^ 38) (hs : x.2.life < 18446744073709551616) :
    Ret Try.prog 59 [.pointer (some ⟨bx, 0, none⟩)].toArray w (Stepped B w bx bc br ba (pLife x)) :=
  (life_ret B bx bc br ba x.1 x.2 w h.2.1 h.2.2 hl hs).mono fun v w' ⟨h1, h2, h3, h4⟩ => ⟨h1, ⟨Nat.le_trans h.1 h4.size, h2, h3⟩, h4⟩
theorem value_step (h : PX B w bx bc br ba x) (hl : x.1.data.length < 2 ^ 38) (hs : x.2.value.length < 2 ^ 38) :
    Ret Try.prog 56 [.pointer (some ⟨bx, 0, none⟩)].toArray w (Stepped B w bx bc br ba (pValue x)) :=
  (value_ret B bx bc br ba x.1 x.2 w h.1 h.2.1 h.2.2 hl hs).mono fun v w' ⟨h1, h2, h3, h4⟩ => ⟨h1, ⟨Nat.le_trans h.1 h4.size, h2, h3⟩, h4⟩

theorem tags_step (h : PX B w bx bc br ba x) (hl : x.1.data.length < 2 ^ 37) (hs : tot x.2.tags < 2 ^ 36) (hk : x.2.tags.length < 2 ^ 30) (h0 : x.1.read = true → x.2.tags = []) :
    Ret Try.prog 57 [.pointer (some ⟨bx, 0, none⟩), .pointer (some ⟨bc, 0 + 4, none⟩), .int .i64 0, .int .i64 16, .func (.func 58) #[] #[]].toArray w (Stepped B w bx bc br ba (pTags x)) := by
  have hne := h.ne
  obtain ⟨ka, kc, va, vc, ta, tc, hbc, hK, hV, hT, hX⟩ := h.2.2
  have inj : ∀ {y : Addr}, ta = some y → x.2.tags ≠ [] → (ka = some y ∧ x.2.keys ≠ []) ∨ (va = some y ∧ x.2.value ≠ []) ∨ (ta = some y ∧ x.2.tags ≠ []) := fun hy hne => .inr (.inr ⟨hy, hne⟩)
  by_cases hrd : x.1.read = true
  · have he := h0 hrd
    have hpx : pTags x = ((doList okTag 0 16 x.1 []).1, { x.2 with tags := (doList okTag 0 16 x.1 []).2 }) := by
      unfold pTags; rw [if_pos hrd, he]
    rw [hpx]
    clear hpx
    have hla : At w bc (0 + 4) [.slice ta 0 tc] := by
      have := (hbc.get (o := 0 + 4) rfl).left (l := [_])
      rw [he] at this
      exact this
    have hL : StrsAt w ta tc [] := by rw [he] at hT; exact hT
    refine (listR_ret 58 okTag tagValid_ret 0 16 (by omega) bx bc br ba x.1 hrd (0 + 4) ta tc w h.2.1 hla (hbc.wr (by simp [cmdCells])) hL (by omega)).mono ?_
    rintro v w' ⟨rfl, hC, ⟨la', lc', hU, hor⟩, hM⟩
    refine ⟨rfl, ⟨Nat.le_trans h.1 hM.size, hC, ?_⟩, hM⟩
    generalize hD : doList okTag 0 16 x.1 [] = D at *
    obtain ⟨st', l'⟩ := D
    dsimp only at hU hor ⊢
    have hb' : Blk w' bc _ := hU.blk hbc
    have hK' := hK.mod hM fun y hy hne h' => hX y (.inl ⟨hy, hne⟩) (.inl h')
    have hV' := hV.mod hM fun y hy hne h' => hX y (.inr (.inl ⟨hy, hne⟩)) (.inl h')
    have hT' := hT.mod hM fun y hy hne h' => hX y (.inr (.inr ⟨hy, hne⟩)) (.inl h')
    have hL' := hL.mod hM fun y hy hne _ => hne rfl
    have fresh : ∀ y : Addr, w.heap.size ≤ y.block → ¬ Fx B bx br bc y.block := by
      rintro y hy ((h' | h') | h')
      · have := Fp.lt h.2.1 h'; omega
      · have := h.2.1.1.c; omega
      · have := h.1; omega
    have hl2 : StrsAt w' la' lc' l' := by
      rcases hor with ⟨h1, h2, h3⟩ | ⟨h1, _⟩
      · rw [h1, h2, h3]; exact hL'
      · exact h1
    have hx2 : ∀ y, la' = some y ∧ l' ≠ [] → ¬ Fx B bx br bc y.block := by
      rintro y ⟨h1, hne⟩
      rcases hor with ⟨_, _, h2⟩ | ⟨_, h2⟩
      · exact absurd h2 hne
      · exact fresh y (h2 y h1)
    refine ⟨ka, kc, va, vc, la', lc', hb', hK', hV', ?_, ?_⟩
    · exact hl2
    · rintro y (h1 | h1 | h1)
      · first | exact hx2 y h1 | exact hX y (.inl h1)
      · exact hX y (.inr (.inl h1))
      · first | exact hx2 y h1 | exact hX y (.inr (.inr h1))
  · have hrf : x.1.read = false := by simpa using hrd
    have hA := (hbc.get (o := 0 + 4) rfl).left (l := [_])
    have hpx : pTags x = ((doList okTag 0 16 x.1 x.2.tags).1, x.2) := by unfold pTags; rw [if_neg hrd]
    rw [hpx]
    refine (listW_ret 58 okTag tagValid_ret 0 16 (by omega) bx bc br ba x.1 hrf x.2.tags bc (0 + 4) _ _ w h.2.1 hA hT (by omega) (by omega) ⟨hne.1, hne.2.1⟩ (fun y hy hnl => ?_)).mono ?_
    · have := hX y (inj hy hnl)
      exact ⟨fun h' => this (.inl (.inl (.inl h'))), fun h' => this (.inl (.inl (.inr h')))⟩
    · rintro v w' ⟨rfl, hC, hM⟩
      exact ⟨rfl, ⟨Nat.le_trans h.1 hM.size, hC, h.2.2.mod hM h.2.1.not_fp (fun k hk => .inl (.inl (.inl hk)))⟩, hM.of fun k hk => .inl hk⟩
theorem keys_step (h : PX B w bx bc br ba x) (hl : x.1.data.length < 2 ^ 37) (hs : tot x.2.keys < 2 ^ 36) (hk : x.2.keys.length < 2 ^ 30) (h0 : x.1.read = true → x.2.keys = []) :
    Ret Try.prog 57 [.pointer (some ⟨bx, 0, none⟩), .pointer (some ⟨bc, 0 + 2, none⟩), .int .i64 1, .int .i64 16, .func (.func 55) #[] #[]].toArray w (Stepped B w bx bc br ba (pKeys x)) := by
  have hne := h.ne
  obtain ⟨ka, kc, va, vc, ta, tc, hbc, hK, hV, hT, hX⟩ := h.2.2
  have inj : ∀ {y : Addr}, ka = some y → x.2.keys ≠ [] → (ka = some y ∧ x.2.keys ≠ []) ∨ (va = some y ∧ x.2.value ≠ []) ∨ (ta = some y ∧ x.2.tags ≠ []) := fun hy hne => .inl ⟨hy, hne⟩
  by_cases hrd : x.1.read = true
  · have he := h0 hrd
    have hpx : pKeys x = ((doList okKey 1 16 x.1 []).1, { x.2 with keys := (doList okKey 1 16 x.1 []).2 }) := by
      unfold pKeys; rw [if_pos hrd, he]
    rw [hpx]
    clear hpx
    have hla : At w bc (0 + 2) [.slice ka 0 kc] := by
      have := (hbc.get (o := 0 + 2) rfl).left (l := [_])
      rw [he] at this
      exact this
    have hL : StrsAt w ka kc [] := by rw [he] at hK; exact hK
    refine (listR_ret 55 okKey keyValid_ret 1 16 (by omega) bx bc br ba x.1 hrd (0 + 2) ka kc w h.2.1 hla (hbc.wr (by simp [cmdCells])) hL (by omega)).mono ?_
    rintro v w' ⟨rfl, hC, ⟨la', lc', hU, hor⟩, hM⟩
    refine ⟨rfl, ⟨Nat.le_trans h.1 hM.size, hC, ?_⟩, hM⟩
    generalize hD : doList okKey 1 16 x.1 [] = D at *
    obtain ⟨st', l'⟩ := D
    dsimp only at hU hor ⊢
    have hb' : Blk w' bc _ := hU.blk hbc
    have hK' := hK.mod hM fun y hy hne h' => hX y (.inl ⟨hy, hne⟩) (.inl h')
    have hV' := hV.mod hM fun y hy hne h' => hX y (.inr (.inl ⟨hy, hne⟩)) (.inl h')
    have hT' := hT.mod hM fun y hy hne h' => hX y (.inr (.inr ⟨hy, hne⟩)) (.inl h')
    have hL' := hL.mod hM fun y hy hne _ => hne rfl
    have fresh : ∀ y : Addr, w.heap.size ≤ y.block → ¬ Fx B bx br bc y.block := by
      rintro y hy ((h' | h') | h')
      · have := Fp.lt h.2.1 h'; omega
      · have := h.2.1.1.c; omega
      · have := h.1; omega
    have hl2 : StrsAt w' la' lc' l' := by
      rcases hor with ⟨h1, h2, h3⟩ | ⟨h1, _⟩
      · rw [h1, h2, h3]; exact hL'
      · exact h1
    have hx2 : ∀ y, la' = some y ∧ l' ≠ [] → ¬ Fx B bx br bc y.block := by
      rintro y ⟨h1, hne⟩
      rcases hor with ⟨_, _, h2⟩ | ⟨_, h2⟩
      · exact absurd h2 hne
      · exact fresh y (h2 y h1)
    refine ⟨la', lc', va, vc, ta, tc, hb', ?_, hV', hT', ?_⟩
    · exact hl2
    · rintro y (h1 | h1 | h1)
      · first | exact hx2 y h1 | exact hX y (.inl h1)
      · exact hX y (.inr (.inl h1))
      · first | exact hx2 y h1 | exact hX y (.inr (.inr h1))
  · have hrf : x.1.read = false := by simpa using hrd
    have hA := (hbc.get (o := 0 + 2) rfl).left (l := [_])
    have hpx : pKeys x = ((doList okKey 1 16 x.1 x.2.keys).1, x.2) := by unfold pKeys; rw [if_neg hrd]
    rw [hpx]
    refine (listW_ret 55 okKey keyValid_ret 1 16 (by omega) bx bc br ba x.1 hrf x.2.keys bc (0 + 2) _ _ w h.2.1 hA hK (by omega) (by omega) ⟨hne.1, hne.2.1⟩ (fun y hy hnl => ?_)).mono ?_
    · have := hX y (inj hy hnl)
      exact ⟨fun h' => this (.inl (.inl (.inl h'))), fun h' => this (.inl (.inl (.inr h')))⟩
    · rintro v w' ⟨rfl, hC, hM⟩
      exact ⟨rfl, ⟨Nat.le_trans h.1 hM.size, hC, h.2.2.mod hM h.2.1.not_fp (fun k hk => .inl (.inl (.inl hk)))⟩, hM.of fun k hk => .inl hk⟩
end
end Go.Proofs.Ytahkglanddhncaa.V
