/-
  Commands in memory, as far as the laws' tests for light ones look at them. No condition: these are definitions and lemmas over any world.
-/
import Derived.Test.YtbjomeonjlialaaGreatFb
import Derived.Test.YtbjomeonjlialaaGreatWk
namespace Go.Proofs.YtbjomeonjlialaaGreat.V

/-- A command. -/
structure Cmd where
  op : Int
  key : List UInt8
  keys : List (List UInt8)
  value : List UInt8
  tags : List (List UInt8)
  life : Nat
  version : Nat
  tag : List UInt8
  pre : List UInt8
  child : List UInt8

def cmdCells (c : Cmd) (ka : Option Addr) (kc : Nat) (va : Option Addr) (vc : Nat) (ta : Option Addr) (tc : Nat) : List Value :=
  [.int .i64 c.op, str c.key, .slice ka c.keys.length kc, .slice va c.value.length vc, .slice ta c.tags.length tc, .int .u64 c.life, .int .u64 c.version, str c.tag, str c.pre, str c.child]
/-- The cells of a list of strings. -/
def strsV (l : List (List UInt8)) : List Value := l.map str
@[simp] theorem length_strsV (l : List (List UInt8)) : (strsV l).length = l.length := by simp [strsV]
/-- A slice of strings. -/
structure StrsAt (w : World) (a : Option Addr) (c : Nat) (l : List (List UInt8)) : Prop where
  cells : SlA w a (strsV l)
  cap : l.length ≤ c
  nil : a = none → c = 0
  lt : ∀ x, a = some x → l ≠ [] → x.block < w.heap.size
theorem StrsAt.mod {S : Nat → Prop} {w w' : World} {a : Option Addr} {c : Nat} {l : List (List UInt8)} (h : StrsAt w a c l) (hm : Mod S w w') (hn : ∀ x, a = some x → l ≠ [] → ¬ S x.block) : StrsAt w' a c l := by
  refine ⟨?_, h.cap, h.nil, fun x hx hne => Nat.lt_of_lt_of_le (h.lt x hx hne) hm.size⟩
  by_cases hl : l = []
  · subst hl; exact SlA.empty _ _
  · exact h.cells.mod hm (fun x hx => hn x hx hl)
theorem StrsAt.none (w : World) : StrsAt w none 0 [] := ⟨rfl, Nat.le_refl _, fun _ => rfl, by simp⟩
/-- The cells of a command. -/
def CmdW (w : World) (l : List Value) (c : Cmd) : Prop :=
  ∃ ka kc va vc ta tc, l = cmdCells c ka kc va vc ta tc ∧ StrsAt w ka kc c.keys ∧ StrsAt w ta tc c.tags
/-- What was there stays so, below its end. -/
theorem CmdW.old {w w' : World} {l : List Value} {c : Cmd} (h : CmdW w l c) (hm : Mod (fun k => w.heap.size ≤ k) w w') : CmdW w' l c := by
  obtain ⟨ka, kc, va, vc, ta, tc, h1, h2, h3⟩ := h
  exact ⟨ka, kc, va, vc, ta, tc, h1, h2.mod hm fun x hx hne => Nat.not_le_of_lt (h2.lt x hx hne), h3.mod hm fun x hx hne => Nat.not_le_of_lt (h3.lt x hx hne)⟩
theorem CmdW.length {w : World} {l : List Value} {c : Cmd} (h : CmdW w l c) : l.length = 10 := by
  obtain ⟨ka, kc, va, vc, ta, tc, rfl, _⟩ := h; rfl
theorem CmdW.one {w : World} {l : List Value} {c : Cmd} (h : CmdW w l c) : ∀ u ∈ l, u.oneCell' = true := by
  obtain ⟨ka, kc, va, vc, ta, tc, rfl, _⟩ := h
  simp [cmdCells, Value.oneCell', str]
/-- A light command. -/
structure LightC (c : Cmd) : Prop where
  keysN : c.keys.length ≤ 20
  tagsN : c.tags.length ≤ 20
  key : c.key.length ≤ 300
  child : c.child.length ≤ 300
  pre : c.pre.length ≤ 300
  tag : c.tag.length ≤ 300
  value : c.value.length ≤ 300
  keys : ∀ x ∈ c.keys, x.length ≤ 300
  tags : ∀ x ∈ c.tags, x.length ≤ 300
end Go.Proofs.YtbjomeonjlialaaGreat.V
