/- What is compared cell by cell: printed by a program of ours. -/
import Derived.Test.YtmaclfmobhhclaaEvEq
import Derived.Test.YtmaclfmobhhclaaShXSinesOf
import Derived.Test.YtmaclfmobhhclaaProg
namespace Go.Proofs.Ytmaclfmobhhclaa
open Go Go.Ev Go.Sh Go.Proofs

def eqs : TypeId → Nat → Bool := eqTab []
theorem eqs_ok : EqOK Try.prog eqs := eqTab_ok (by kernel_rfl)

end Go.Proofs.Ytmaclfmobhhclaa
