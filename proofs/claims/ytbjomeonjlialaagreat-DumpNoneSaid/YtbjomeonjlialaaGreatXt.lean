/-
  What calls of the library are told from outside. No condition.
-/
import Derived.Test.YtbjomeonjlialaaGreatFb
import Derived.Test.YtbjomeonjlialaaGreatLayc
namespace Go.Proofs.YtbjomeonjlialaaGreat.V
def extAll : CallA := extClones
theorem extAll_ok [Sig] (lo : Nat) : CallOK Tryz.prog lo extAll := extClones_ok lo
end Go.Proofs.YtbjomeonjlialaaGreat.V
