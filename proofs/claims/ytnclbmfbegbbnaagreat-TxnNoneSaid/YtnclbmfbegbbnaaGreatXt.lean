/-
  What calls of the library are told from outside. No condition.
-/
import Derived.Test.YtnclbmfbegbbnaaGreatFb
import Derived.Test.YtnclbmfbegbbnaaGreatLayc
import Derived.Test.YtnclbmfbegbbnaaGreatLayio
namespace Go.Proofs.YtnclbmfbegbbnaaGreat.V
def extAll : CallA := orExt (extClones) (extSortedKeysI)
theorem extAll_ok [Sig] (lo : Nat) : CallOK Tryz.prog lo extAll := orExt_ok (extClones_ok lo) (extSortedKeysI_ok lo)
end Go.Proofs.YtnclbmfbegbbnaaGreat.V
