/-
  What calls of the library are told from outside. No condition.
-/
import Derived.Test.YtlgkghmkkohadaaGreatFb
import Derived.Test.YtlgkghmkkohadaaGreatLayc
import Derived.Test.YtlgkghmkkohadaaGreatLayso
namespace Go.Proofs.YtlgkghmkkohadaaGreat.V
def extAll : CallA := orExt (extClones) (extSortedKeys)
theorem extAll_ok [Sig] (lo : Nat) : CallOK Tryz.prog lo extAll := orExt_ok (extClones_ok lo) (extSortedKeys_ok lo)
end Go.Proofs.YtlgkghmkkohadaaGreat.V
