/- What FractionOf tells of a list of numbers: a plain function. -/
import Derived.Test.YthjehhoafmnmkaaEvSig
import Derived.RowKit
namespace Go.Ev
open Go.RowKit
variable {α : Type}
def inBb (n low high : Int) : Bool := decide (low ≤ n) && decide (n ≤ high)
end Go.Ev
