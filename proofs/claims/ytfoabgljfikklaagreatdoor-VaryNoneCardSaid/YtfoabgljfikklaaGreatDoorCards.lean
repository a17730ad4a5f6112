/-
  DERIVED. GIVEN WITH THE SEED: THE CARDS: each row of YtfoabgljfikklaaGreatDoorRows.lean that lists a variable, with what it lists TIED to the program's text (the seventh form; the later family's looks); each row that meets fmt, with fmt's text TOLD by the authors' own Lean function (tested against real Go, not proved from fmt's source: count such statements apart). THE CARD IS WHAT COUNTS. Prove the row's statement (the work); the ties are given (YtfoabgljfikklaaGreatDoorTie.lean); close each card by the builder's one call (the guide's Derived/Test/ToyasCard.lean, 'card_holds'). Laid BY PROGRAM, IN A SANDBOX (cutbox-door.mjs). By AI agents, Wed Nov 11 2026. No macro, syntax, notation, axiom, sorry.
-/
import Derived.Test.YtfoabgljfikklaaGreatDoorRows
import GoSem.ClaimSeven
namespace Go.Proofs.YtfoabgljfikklaaGreatDoor
namespace Rows

/-- THE TIED CARD OF 'tagcachelaw44.VaryKeys'. -/
def varyKeysCard : Claim7 := { stood := { row := varyKeysRow, standIns := [], harness := (true, "b6f0e5456b1073a266c3419eef861e16d37c55a376c4a9722882e9b70092a54c"), looks := true }, kinds := [], alts := [], laidByText := true, laidKinds := [.data, .pinned], laidTests := true, laidLooks := .later }
def VaryKeysCardSaid : Prop := Claim7.holds Tryz.pinned (.plain (OpenSpec.ofChange varyKeysSpec)) varyKeysCard

/-- THE TIED CARD OF 'tagcachelaw44.VaryNone'. -/
def varyNoneCard : Claim7 := { stood := { row := varyNoneRow, standIns := [], harness := (true, "b6f0e5456b1073a266c3419eef861e16d37c55a376c4a9722882e9b70092a54c"), looks := true }, kinds := [], alts := [], laidByText := true, laidKinds := [.data, .pinned], laidTests := true, laidLooks := .later }
def VaryNoneCardSaid : Prop := Claim7.holds Tryz.pinned (.plain (OpenSpec.ofChange varyNoneSpec)) varyNoneCard

/-- THE SECOND FORM's CARD OF 'tagcachelaw44.VaryKeys'. -/
def varyKeysUptoCard : Claim7 := { stood := { row := varyKeysUptoRow, standIns := [], harness := (true, "b6f0e5456b1073a266c3419eef861e16d37c55a376c4a9722882e9b70092a54c"), looks := true }, kinds := [], alts := [], laidByText := true, laidKinds := [.data, .pinned], laidTests := true, laidLooks := .later }
def VaryKeysUptoCardSaid : Prop := Claim7.holds Tryz.pinned (.plain (OpenSpec.upto varyKeysSpec)) varyKeysUptoCard

/-- THE SECOND FORM's CARD OF 'tagcachelaw44.VaryNone'. -/
def varyNoneUptoCard : Claim7 := { stood := { row := varyNoneUptoRow, standIns := [], harness := (true, "b6f0e5456b1073a266c3419eef861e16d37c55a376c4a9722882e9b70092a54c"), looks := true }, kinds := [], alts := [], laidByText := true, laidKinds := [.data, .pinned], laidTests := true, laidLooks := .later }
def VaryNoneUptoCardSaid : Prop := Claim7.holds Tryz.pinned (.plain (OpenSpec.upto varyNoneSpec)) varyNoneUptoCard
end Rows
end Go.Proofs.YtfoabgljfikklaaGreatDoor
