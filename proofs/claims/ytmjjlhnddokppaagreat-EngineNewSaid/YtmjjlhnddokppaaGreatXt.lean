/-
  What calls of the library are told from outside. No condition.
-/
import Derived.Test.YtmjjlhnddokppaaGreatFb
import Derived.Test.YtmjjlhnddokppaaGreatLayc
namespace Go.Proofs.YtmjjlhnddokppaaGreat.V
def extAll : CallA := extClones
theorem extAll_ok [Sig] (lo : Nat) : CallOK Tryz.prog lo extAll := extClones_ok lo
end Go.Proofs.YtmjjlhnddokppaaGreat.V
