/-
  No cell of these rows narrows 'for every input' (looked for: loops, veiled, ifaces, maps, wideKeys, modest, calm, conditions, laid).
  DERIVED. THE GIVEN ROWS OF THIS SEAT. 4 by the template 'for every input the law returns true; each argument reads behind the call as it read before'; 0 by the template 'total and deterministic' (their statements: YtoloaehmppcjoaaGreatTotals.lean).
  GIVEN WITH THE SEED: the statements are not yours to turn. If you find one false, say at which input.
  Laid BY PROGRAM, IN A SANDBOX (cutbox-rows.mjs): the forced cells as the released guide's own fill.sh prints them over the translation 91233d6cbe39cc8f… (all of the seat's roots in one cut). By AI agents, Wed Nov 11 2026. No macro, syntax, notation, axiom, sorry.
-/
import Derived.Test.YtoloaehmppcjoaaGreatChecked
import GoSem.Claim
import GoSem.ClaimJoined
import GoSem.ClaimMapViews
import Derived.JoinedTies
import Derived.KernelRfl
namespace Go.Proofs.YtoloaehmppcjoaaGreat
/- THE CELL 'sum', in the pinned program and in every row, IS THE sha256 OF THE DUMP (.gsa) THAT YtoloaehmppcjoaaGreatProg.lean LOADS. Nothing in Lean hashes anything: it is a label: what it is worth is what the hold of that sum in a sandbox is worth. -/
noncomputable def Tryz.pinned : Pinned := { name := "ytoloaehmppcjoaagreat", sum := "91233d6cbe39cc8fc077cf8f1cfc1f54017f714d0fedd568599ccea9001354bf", checked := Tryz.checked }
namespace Rows
def none {H : Type} : Left H := { results := [], args := [] }

/-- 'tagcachelaw40.BusHolds': WHATEVER THE INPUT: true; the input reads as it did. -/
def busHoldsSpec : ChangeSpec := { name := "busHolds", fn := fun _ => fun
  | [d1, d2, d3] => { results := [.lit (.bool true)], args := [d1, d2, d3] }
  | _ => none }
def busHoldsRow : OpenClaim := { program := "ytoloaehmppcjoaagreat", sum := "91233d6cbe39cc8fc077cf8f1cfc1f54017f714d0fedd568599ccea9001354bf", func := "tagcache/tagcachelaw40.BusHolds", spec := "busHolds", inPlace := ["slices.overlaps[int]", "slices.overlaps[*tagcache/trie.node]", "maps.clone"], unfollowed := true, recurses := true, apart := false }
def BusHoldsSaid : Prop := busHoldsRow.holds Tryz.pinned (OpenSpec.ofChange busHoldsSpec)

/-- ITS FALSE NEIGHBOUR: 'it returns false'. Refute it at one input. -/
def busHoldsWrong : ChangeSpec := { name := "busHolds", fn := fun _ => fun
  | [d1, d2, d3] => { results := [.lit (.bool false)], args := [d1, d2, d3] }
  | _ => none }
def BusHoldsWrongFalsely : Prop := busHoldsRow.holds Tryz.pinned (OpenSpec.ofChange busHoldsWrong)

/-- 'tagcachelaw41.ClusterAhead': WHATEVER THE INPUT: true; the input reads as it did. -/
def clusterAheadSpec : ChangeSpec := { name := "clusterAhead", fn := fun _ => fun
  | [d] => { results := [.lit (.bool true)], args := [d] }
  | _ => none }
def clusterAheadRow : OpenClaim := { program := "ytoloaehmppcjoaagreat", sum := "91233d6cbe39cc8fc077cf8f1cfc1f54017f714d0fedd568599ccea9001354bf", func := "tagcache/tagcachelaw41.ClusterAhead", spec := "clusterAhead", inPlace := ["slices.overlaps[int]", "slices.overlaps[*tagcache/trie.node]"], unfollowed := true, recurses := true, apart := false }
def ClusterAheadSaid : Prop := clusterAheadRow.holds Tryz.pinned (OpenSpec.ofChange clusterAheadSpec)

/-- ITS FALSE NEIGHBOUR: 'it returns false'. Refute it at one input. -/
def clusterAheadWrong : ChangeSpec := { name := "clusterAhead", fn := fun _ => fun
  | [d] => { results := [.lit (.bool false)], args := [d] }
  | _ => none }
def ClusterAheadWrongFalsely : Prop := clusterAheadRow.holds Tryz.pinned (OpenSpec.ofChange clusterAheadWrong)

/-- 'tagcachelaw41.ClusterHolds': WHATEVER THE INPUT: true; the input reads as it did. -/
def clusterHoldsSpec : ChangeSpec := { name := "clusterHolds", fn := fun _ => fun
  | [d1, d2, d3] => { results := [.lit (.bool true)], args := [d1, d2, d3] }
  | _ => none }
def clusterHoldsRow : OpenClaim := { program := "ytoloaehmppcjoaagreat", sum := "91233d6cbe39cc8fc077cf8f1cfc1f54017f714d0fedd568599ccea9001354bf", func := "tagcache/tagcachelaw41.ClusterHolds", spec := "clusterHolds", inPlace := ["slices.overlaps[int]", "slices.overlaps[*tagcache/trie.node]"], unfollowed := true, recurses := true, apart := false }
def ClusterHoldsSaid : Prop := clusterHoldsRow.holds Tryz.pinned (OpenSpec.ofChange clusterHoldsSpec)

/-- ITS FALSE NEIGHBOUR: 'it returns false'. Refute it at one input. -/
def clusterHoldsWrong : ChangeSpec := { name := "clusterHolds", fn := fun _ => fun
  | [d1, d2, d3] => { results := [.lit (.bool false)], args := [d1, d2, d3] }
  | _ => none }
def ClusterHoldsWrongFalsely : Prop := clusterHoldsRow.holds Tryz.pinned (OpenSpec.ofChange clusterHoldsWrong)

/-- 'tagcachelaw41.ClusterPlays': WHATEVER THE INPUT: true; the input reads as it did. -/
def clusterPlaysSpec : ChangeSpec := { name := "clusterPlays", fn := fun _ => fun
  | [d1, d2, d3] => { results := [.lit (.bool true)], args := [d1, d2, d3] }
  | _ => none }
def clusterPlaysRow : OpenClaim := { program := "ytoloaehmppcjoaagreat", sum := "91233d6cbe39cc8fc077cf8f1cfc1f54017f714d0fedd568599ccea9001354bf", func := "tagcache/tagcachelaw41.ClusterPlays", spec := "clusterPlays", inPlace := ["slices.overlaps[int]", "slices.overlaps[*tagcache/trie.node]", "maps.clone"], unfollowed := true, recurses := true, apart := false }
def ClusterPlaysSaid : Prop := clusterPlaysRow.holds Tryz.pinned (OpenSpec.ofChange clusterPlaysSpec)

/-- ITS FALSE NEIGHBOUR: 'it returns false'. Refute it at one input. -/
def clusterPlaysWrong : ChangeSpec := { name := "clusterPlays", fn := fun _ => fun
  | [d1, d2, d3] => { results := [.lit (.bool false)], args := [d1, d2, d3] }
  | _ => none }
def ClusterPlaysWrongFalsely : Prop := clusterPlaysRow.holds Tryz.pinned (OpenSpec.ofChange clusterPlaysWrong)

/- THE SECOND FORM. 'bulk': how many values and letters a reading holds, each counted each time it is reached (what is shared counts as often as it is met; a slice's spare places count too). A statement '..UptoSaid' is the law's where the arguments, and the package variables that the reading takes, are together of bulk at most 1048576: NARROWER than '..Said'. Prove '..Said' where nothing that the law and all that it calls make is longer than what came in: it says more and counts as full. Else prove '..UptoSaid'. A law counts once. -/
mutual
def uptoBulk {H : Type} : DataW H → Nat
  | .lit (.string bytes) => bytes.length + 1
  | .lit _ => 1
  | .nil => 1
  | .ptr d => uptoBulk d + 1
  | .slice elems spare => uptoBulkAll elems + uptoBulkAll spare + 1
  | .agg parts => uptoBulkAll parts + 1
  | .iface _ d => uptoBulk d + 1
  | .map entries => uptoBulkEntries entries + 1
  | .held _ => 1
def uptoBulkAll {H : Type} : List (DataW H) → Nat
  | [] => 0
  | d :: r => uptoBulk d + uptoBulkAll r
def uptoBulkEntries {H : Type} : List (Lit × DataW H) → Nat
  | [] => 0
  | x :: r => uptoBulkEntry x + uptoBulkEntries r
def uptoBulkEntry {H : Type} : Lit × DataW H → Nat
  | (.string bytes, d) => bytes.length + uptoBulk d + 1
  | (_, d) => uptoBulk d + 1
 end
def uptoSmall : (H : Type) → List (DataW H) → Bool := fun _ ds => decide (uptoBulkAll ds ≤ 1048576)
def OpenSpec.upto (s : _root_.Go.ChangeSpec) : _root_.Go.OpenSpec := { _root_.Go.OpenSpec.ofChange s with cond := some uptoSmall }

/-- 'tagcachelaw40.BusHolds', WHERE WHAT IT READS IS OF BULK AT MOST 1048576: true; the input reads as it did. -/
def busHoldsUptoRow : OpenClaim := { program := "ytoloaehmppcjoaagreat", sum := "91233d6cbe39cc8fc077cf8f1cfc1f54017f714d0fedd568599ccea9001354bf", func := "tagcache/tagcachelaw40.BusHolds", spec := "busHolds", inPlace := ["slices.overlaps[int]", "slices.overlaps[*tagcache/trie.node]", "maps.clone"], unfollowed := true, recurses := true, apart := false, narrowed := true }
def BusHoldsUptoSaid : Prop := busHoldsUptoRow.holds Tryz.pinned (OpenSpec.upto busHoldsSpec)

/-- 'tagcachelaw41.ClusterAhead', WHERE WHAT IT READS IS OF BULK AT MOST 1048576: true; the input reads as it did. -/
def clusterAheadUptoRow : OpenClaim := { program := "ytoloaehmppcjoaagreat", sum := "91233d6cbe39cc8fc077cf8f1cfc1f54017f714d0fedd568599ccea9001354bf", func := "tagcache/tagcachelaw41.ClusterAhead", spec := "clusterAhead", inPlace := ["slices.overlaps[int]", "slices.overlaps[*tagcache/trie.node]"], unfollowed := true, recurses := true, apart := false, narrowed := true }
def ClusterAheadUptoSaid : Prop := clusterAheadUptoRow.holds Tryz.pinned (OpenSpec.upto clusterAheadSpec)

/-- 'tagcachelaw41.ClusterHolds', WHERE WHAT IT READS IS OF BULK AT MOST 1048576: true; the input reads as it did. -/
def clusterHoldsUptoRow : OpenClaim := { program := "ytoloaehmppcjoaagreat", sum := "91233d6cbe39cc8fc077cf8f1cfc1f54017f714d0fedd568599ccea9001354bf", func := "tagcache/tagcachelaw41.ClusterHolds", spec := "clusterHolds", inPlace := ["slices.overlaps[int]", "slices.overlaps[*tagcache/trie.node]"], unfollowed := true, recurses := true, apart := false, narrowed := true }
def ClusterHoldsUptoSaid : Prop := clusterHoldsUptoRow.holds Tryz.pinned (OpenSpec.upto clusterHoldsSpec)

/-- 'tagcachelaw41.ClusterPlays', WHERE WHAT IT READS IS OF BULK AT MOST 1048576: true; the input reads as it did. -/
def clusterPlaysUptoRow : OpenClaim := { program := "ytoloaehmppcjoaagreat", sum := "91233d6cbe39cc8fc077cf8f1cfc1f54017f714d0fedd568599ccea9001354bf", func := "tagcache/tagcachelaw41.ClusterPlays", spec := "clusterPlays", inPlace := ["slices.overlaps[int]", "slices.overlaps[*tagcache/trie.node]", "maps.clone"], unfollowed := true, recurses := true, apart := false, narrowed := true }
def ClusterPlaysUptoSaid : Prop := clusterPlaysUptoRow.holds Tryz.pinned (OpenSpec.upto clusterPlaysSpec)

end Rows
end Go.Proofs.YtoloaehmppcjoaaGreat
