/-
  No cell of these rows narrows 'for every input' (looked for: loops, veiled, ifaces, maps, wideKeys, modest, calm, conditions, laid).
  DERIVED. THE GIVEN ROWS OF THIS SEAT. 3 by the template 'for every input the law returns true; each argument reads behind the call as it read before'; 0 by the template 'total and deterministic' (their statements: YtmjjlhnddokppaaGreatTotals.lean).
  GIVEN WITH THE SEED: the statements are not yours to turn. If you find one false, say at which input.
  Laid BY PROGRAM, IN A SANDBOX (cutbox-rows.mjs): the forced cells as the released guide's own fill.sh prints them over the translation 1a63e48f949c2100… (all of the seat's roots in one cut). By AI agents, Wed Nov 11 2026. No macro, syntax, notation, axiom, sorry.
-/
import Derived.Test.YtmjjlhnddokppaaGreatChecked
import GoSem.Claim
import GoSem.ClaimJoined
import GoSem.ClaimMapViews
import Derived.JoinedTies
import Derived.KernelRfl
namespace Go.Proofs.YtmjjlhnddokppaaGreat
/- THE CELL 'sum', in the pinned program and in every row, IS THE sha256 OF THE DUMP (.gsa) THAT YtmjjlhnddokppaaGreatProg.lean LOADS. Nothing in Lean hashes anything: it is a label: what it is worth is what the hold of that sum in a sandbox is worth. -/
noncomputable def Tryz.pinned : Pinned := { name := "ytmjjlhnddokppaagreat", sum := "1a63e48f949c210092a7b725e88ab7e6f1b9094e503670712bfccf81b60c6bec", checked := Tryz.checked }
namespace Rows
def none {H : Type} : Left H := { results := [], args := [] }

/-- 'tagcachelaw24.EngineNew': WHATEVER THE INPUT: true; the input reads as it did. -/
def engineNewSpec : ChangeSpec := { name := "engineNew", fn := fun _ => fun
  | [d] => { results := [.lit (.bool true)], args := [d] }
  | _ => none }
def engineNewRow : OpenClaim := { program := "ytmjjlhnddokppaagreat", sum := "1a63e48f949c210092a7b725e88ab7e6f1b9094e503670712bfccf81b60c6bec", func := "tagcache/tagcachelaw24.EngineNew", spec := "engineNew", inPlace := ["slices.overlaps[int]", "slices.overlaps[*tagcache/trie.node]"], unfollowed := true, recurses := true, apart := false }
def EngineNewSaid : Prop := engineNewRow.holds Tryz.pinned (OpenSpec.ofChange engineNewSpec)

/-- ITS FALSE NEIGHBOUR: 'it returns false'. Refute it at one input. -/
def engineNewWrong : ChangeSpec := { name := "engineNew", fn := fun _ => fun
  | [d] => { results := [.lit (.bool false)], args := [d] }
  | _ => none }
def EngineNewWrongFalsely : Prop := engineNewRow.holds Tryz.pinned (OpenSpec.ofChange engineNewWrong)

/-- 'tagcachelaw24.EngineNil': WHATEVER THE INPUT: true; the input reads as it did. -/
def engineNilSpec : ChangeSpec := { name := "engineNil", fn := fun _ => fun
  | [d1, d2, d3] => { results := [.lit (.bool true)], args := [d1, d2, d3] }
  | _ => none }
def engineNilRow : OpenClaim := { program := "ytmjjlhnddokppaagreat", sum := "1a63e48f949c210092a7b725e88ab7e6f1b9094e503670712bfccf81b60c6bec", func := "tagcache/tagcachelaw24.EngineNil", spec := "engineNil", inPlace := ["slices.overlaps[int]", "slices.overlaps[*tagcache/trie.node]", "maps.clone"], unfollowed := true, recurses := true, apart := false }
def EngineNilSaid : Prop := engineNilRow.holds Tryz.pinned (OpenSpec.ofChange engineNilSpec)

/-- ITS FALSE NEIGHBOUR: 'it returns false'. Refute it at one input. -/
def engineNilWrong : ChangeSpec := { name := "engineNil", fn := fun _ => fun
  | [d1, d2, d3] => { results := [.lit (.bool false)], args := [d1, d2, d3] }
  | _ => none }
def EngineNilWrongFalsely : Prop := engineNilRow.holds Tryz.pinned (OpenSpec.ofChange engineNilWrong)

/-- 'tagcachelaw43.CoalesceNone': WHATEVER THE INPUT: true; the input reads as it did. -/
def coalesceNoneSpec : ChangeSpec := { name := "coalesceNone", fn := fun _ => fun
  | [d] => { results := [.lit (.bool true)], args := [d] }
  | _ => none }
def coalesceNoneRow : OpenClaim := { program := "ytmjjlhnddokppaagreat", sum := "1a63e48f949c210092a7b725e88ab7e6f1b9094e503670712bfccf81b60c6bec", func := "tagcache/tagcachelaw43.CoalesceNone", spec := "coalesceNone", inPlace := ["slices.overlaps[int]", "slices.overlaps[*tagcache/trie.node]", "maps.clone"], unfollowed := true, recurses := true, apart := false }
def CoalesceNoneSaid : Prop := coalesceNoneRow.holds Tryz.pinned (OpenSpec.ofChange coalesceNoneSpec)

/-- ITS FALSE NEIGHBOUR: 'it returns false'. Refute it at one input. -/
def coalesceNoneWrong : ChangeSpec := { name := "coalesceNone", fn := fun _ => fun
  | [d] => { results := [.lit (.bool false)], args := [d] }
  | _ => none }
def CoalesceNoneWrongFalsely : Prop := coalesceNoneRow.holds Tryz.pinned (OpenSpec.ofChange coalesceNoneWrong)

/- THE SECOND FORM. 'bulk': how many values and letters a reading holds, each counted each time it is reached (what is shared counts as often as it is met; a slice's spare places count too). A statement '..UptoSaid' is the law's where the arguments, and the package variables that the reading takes, are together of bulk at most 1048576: NARROWER than '..Said'. Prove '..Said' where nothing that the law and all that it calls make is longer than what came in: it says more and counts as full. Else prove '..UptoSaid'. A law counts once. -/
mutual
def uptoBulk {H : Type} : DataW H → Nat
  | .lit (.string bytes) => bytes.length + 1
  | .lit _ => 1
  | .nil => 1
  | .ptr d => uptoBulk d + 1
  | .slice elems spare => uptoBulkAll elems + uptoBulkAll spare + 1
  | .agg parts => uptoBulkAll parts + 1
  | .iface _ d => uptoBulk d + 1
  | .map entries => uptoBulkEntries entries + 1
  | .held _ => 1
def uptoBulkAll {H : Type} : List (DataW H) → Nat
  | [] => 0
  | d :: r => uptoBulk d + uptoBulkAll r
def uptoBulkEntries {H : Type} : List (Lit × DataW H) → Nat
  | [] => 0
  | x :: r => uptoBulkEntry x + uptoBulkEntries r
def uptoBulkEntry {H : Type} : Lit × DataW H → Nat
  | (.string bytes, d) => bytes.length + uptoBulk d + 1
  | (_, d) => uptoBulk d + 1
 end
def uptoSmall : (H : Type) → List (DataW H) → Bool := fun _ ds => decide (uptoBulkAll ds ≤ 1048576)
def OpenSpec.upto (s : _root_.Go.ChangeSpec) : _root_.Go.OpenSpec := { _root_.Go.OpenSpec.ofChange s with cond := some uptoSmall }

/-- 'tagcachelaw24.EngineNew', WHERE WHAT IT READS IS OF BULK AT MOST 1048576: true; the input reads as it did. -/
def engineNewUptoRow : OpenClaim := { program := "ytmjjlhnddokppaagreat", sum := "1a63e48f949c210092a7b725e88ab7e6f1b9094e503670712bfccf81b60c6bec", func := "tagcache/tagcachelaw24.EngineNew", spec := "engineNew", inPlace := ["slices.overlaps[int]", "slices.overlaps[*tagcache/trie.node]"], unfollowed := true, recurses := true, apart := false, narrowed := true }
def EngineNewUptoSaid : Prop := engineNewUptoRow.holds Tryz.pinned (OpenSpec.upto engineNewSpec)

/-- 'tagcachelaw24.EngineNil', WHERE WHAT IT READS IS OF BULK AT MOST 1048576: true; the input reads as it did. -/
def engineNilUptoRow : OpenClaim := { program := "ytmjjlhnddokppaagreat", sum := "1a63e48f949c210092a7b725e88ab7e6f1b9094e503670712bfccf81b60c6bec", func := "tagcache/tagcachelaw24.EngineNil", spec := "engineNil", inPlace := ["slices.overlaps[int]", "slices.overlaps[*tagcache/trie.node]", "maps.clone"], unfollowed := true, recurses := true, apart := false, narrowed := true }
def EngineNilUptoSaid : Prop := engineNilUptoRow.holds Tryz.pinned (OpenSpec.upto engineNilSpec)

/-- 'tagcachelaw43.CoalesceNone', WHERE WHAT IT READS IS OF BULK AT MOST 1048576: true; the input reads as it did. -/
def coalesceNoneUptoRow : OpenClaim := { program := "ytmjjlhnddokppaagreat", sum := "1a63e48f949c210092a7b725e88ab7e6f1b9094e503670712bfccf81b60c6bec", func := "tagcache/tagcachelaw43.CoalesceNone", spec := "coalesceNone", inPlace := ["slices.overlaps[int]", "slices.overlaps[*tagcache/trie.node]", "maps.clone"], unfollowed := true, recurses := true, apart := false, narrowed := true }
def CoalesceNoneUptoSaid : Prop := coalesceNoneUptoRow.holds Tryz.pinned (OpenSpec.upto coalesceNoneSpec)

end Rows
end Go.Proofs.YtmjjlhnddokppaaGreat
