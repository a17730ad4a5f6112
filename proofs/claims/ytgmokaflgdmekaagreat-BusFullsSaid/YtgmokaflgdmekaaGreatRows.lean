/-
  No cell of these rows narrows 'for every input' (looked for: loops, veiled, ifaces, maps, wideKeys, modest, calm, conditions, laid).
  DERIVED. THE GIVEN ROWS OF THIS SEAT. 2 by the template 'for every input the law returns true; each argument reads behind the call as it read before'; 0 by the template 'total and deterministic' (their statements: YtgmokaflgdmekaaGreatTotals.lean).
  GIVEN WITH THE SEED: the statements are not yours to turn. If you find one false, say at which input.
  Laid BY PROGRAM, IN A SANDBOX (cutbox-rows.mjs): the forced cells as the released guide's own fill.sh prints them over the translation 964834bb44754e08… (all of the seat's roots in one cut). By AI agents, Wed Nov 11 2026. No macro, syntax, notation, axiom, sorry.
-/
import Derived.Test.YtgmokaflgdmekaaGreatChecked
import GoSem.Claim
import GoSem.ClaimJoined
import GoSem.ClaimMapViews
import Derived.JoinedTies
import Derived.KernelRfl
namespace Go.Proofs.YtgmokaflgdmekaaGreat
/- THE CELL 'sum', in the pinned program and in every row, IS THE sha256 OF THE DUMP (.gsa) THAT YtgmokaflgdmekaaGreatProg.lean LOADS. Nothing in Lean hashes anything: it is a label: what it is worth is what the hold of that sum in a sandbox is worth. -/
noncomputable def Tryz.pinned : Pinned := { name := "ytgmokaflgdmekaagreat", sum := "964834bb44754e087c85756ec8885d1d477865f1c2e1df6bf8379edd8b36e054", checked := Tryz.checked }
namespace Rows
def none {H : Type} : Left H := { results := [], args := [] }

/-- 'tagcachelaw40.BusFulls': WHATEVER THE INPUT: true; the input reads as it did. -/
def busFullsSpec : ChangeSpec := { name := "busFulls", fn := fun _ => fun
  | [d1, d2] => { results := [.lit (.bool true)], args := [d1, d2] }
  | _ => none }
def busFullsRow : OpenClaim := { program := "ytgmokaflgdmekaagreat", sum := "964834bb44754e087c85756ec8885d1d477865f1c2e1df6bf8379edd8b36e054", func := "tagcache/tagcachelaw40.BusFulls", spec := "busFulls", inPlace := ["slices.overlaps[int]", "slices.overlaps[*tagcache/trie.node]"], unfollowed := true, recurses := true, apart := false }
def BusFullsSaid : Prop := busFullsRow.holds Tryz.pinned (OpenSpec.ofChange busFullsSpec)

/-- ITS FALSE NEIGHBOUR: 'it returns false'. Refute it at one input. -/
def busFullsWrong : ChangeSpec := { name := "busFulls", fn := fun _ => fun
  | [d1, d2] => { results := [.lit (.bool false)], args := [d1, d2] }
  | _ => none }
def BusFullsWrongFalsely : Prop := busFullsRow.holds Tryz.pinned (OpenSpec.ofChange busFullsWrong)

/-- 'tagcachelaw40.BusHubs': WHATEVER THE INPUT: true; the input reads as it did. -/
def busHubsSpec : ChangeSpec := { name := "busHubs", fn := fun _ => fun
  | [d1, d2] => { results := [.lit (.bool true)], args := [d1, d2] }
  | _ => none }
def busHubsRow : OpenClaim := { program := "ytgmokaflgdmekaagreat", sum := "964834bb44754e087c85756ec8885d1d477865f1c2e1df6bf8379edd8b36e054", func := "tagcache/tagcachelaw40.BusHubs", spec := "busHubs", inPlace := ["slices.overlaps[int]", "slices.overlaps[*tagcache/trie.node]"], unfollowed := true, recurses := true, apart := false }
def BusHubsSaid : Prop := busHubsRow.holds Tryz.pinned (OpenSpec.ofChange busHubsSpec)

/-- ITS FALSE NEIGHBOUR: 'it returns false'. Refute it at one input. -/
def busHubsWrong : ChangeSpec := { name := "busHubs", fn := fun _ => fun
  | [d1, d2] => { results := [.lit (.bool false)], args := [d1, d2] }
  | _ => none }
def BusHubsWrongFalsely : Prop := busHubsRow.holds Tryz.pinned (OpenSpec.ofChange busHubsWrong)

/- THE SECOND FORM. 'bulk': how many values and letters a reading holds, each counted each time it is reached (what is shared counts as often as it is met; a slice's spare places count too). A statement '..UptoSaid' is the law's where the arguments, and the package variables that the reading takes, are together of bulk at most 1048576: NARROWER than '..Said'. Prove '..Said' where nothing that the law and all that it calls make is longer than what came in: it says more and counts as full. Else prove '..UptoSaid'. A law counts once. -/
mutual
def uptoBulk {H : Type} : DataW H → Nat
  | .lit (.string bytes) => bytes.length + 1
  | .lit _ => 1
  | .nil => 1
  | .ptr d => uptoBulk d + 1
  | .slice elems spare => uptoBulkAll elems + uptoBulkAll spare + 1
  | .agg parts => uptoBulkAll parts + 1
  | .iface _ d => uptoBulk d + 1
  | .map entries => uptoBulkEntries entries + 1
  | .held _ => 1
def uptoBulkAll {H : Type} : List (DataW H) → Nat
  | [] => 0
  | d :: r => uptoBulk d + uptoBulkAll r
def uptoBulkEntries {H : Type} : List (Lit × DataW H) → Nat
  | [] => 0
  | x :: r => uptoBulkEntry x + uptoBulkEntries r
def uptoBulkEntry {H : Type} : Lit × DataW H → Nat
  | (.string bytes, d) => bytes.length + uptoBulk d + 1
  | (_, d) => uptoBulk d + 1
 end
def uptoSmall : (H : Type) → List (DataW H) → Bool := fun _ ds => decide (uptoBulkAll ds ≤ 1048576)
def OpenSpec.upto (s : _root_.Go.ChangeSpec) : _root_.Go.OpenSpec := { _root_.Go.OpenSpec.ofChange s with cond := some uptoSmall }

/-- 'tagcachelaw40.BusFulls', WHERE WHAT IT READS IS OF BULK AT MOST 1048576: true; the input reads as it did. -/
def busFullsUptoRow : OpenClaim := { program := "ytgmokaflgdmekaagreat", sum := "964834bb44754e087c85756ec8885d1d477865f1c2e1df6bf8379edd8b36e054", func := "tagcache/tagcachelaw40.BusFulls", spec := "busFulls", inPlace := ["slices.overlaps[int]", "slices.overlaps[*tagcache/trie.node]"], unfollowed := true, recurses := true, apart := false, narrowed := true }
def BusFullsUptoSaid : Prop := busFullsUptoRow.holds Tryz.pinned (OpenSpec.upto busFullsSpec)

/-- 'tagcachelaw40.BusHubs', WHERE WHAT IT READS IS OF BULK AT MOST 1048576: true; the input reads as it did. -/
def busHubsUptoRow : OpenClaim := { program := "ytgmokaflgdmekaagreat", sum := "964834bb44754e087c85756ec8885d1d477865f1c2e1df6bf8379edd8b36e054", func := "tagcache/tagcachelaw40.BusHubs", spec := "busHubs", inPlace := ["slices.overlaps[int]", "slices.overlaps[*tagcache/trie.node]"], unfollowed := true, recurses := true, apart := false, narrowed := true }
def BusHubsUptoSaid : Prop := busHubsUptoRow.holds Tryz.pinned (OpenSpec.upto busHubsSpec)

end Rows
end Go.Proofs.YtgmokaflgdmekaaGreat
