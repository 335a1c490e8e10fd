/- What is compared cell by cell: printed by a program of ours. -/
import Derived.Test.YtjekmhinmcniaaaEvEq
import Derived.Test.YtjekmhinmcniaaaShLPairs
import Derived.Test.YtjekmhinmcniaaaProg
namespace Go.Proofs.Ytjekmhinmcniaaa
open Go Go.Ev Go.Sh Go.Proofs

def eqs : TypeId → Nat → Bool := eqTab [(26, 2)]
theorem eqs_ok : EqOK Try.prog eqs := eqTab_ok (by kernel_rfl)

end Go.Proofs.Ytjekmhinmcniaaa
