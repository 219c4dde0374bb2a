/- The tables of packages that this seat's texts read. -/
import GoSem.Claim
import Derived.Shelf.Strconv.Itoa3
namespace Go.Ev
open Go
def tabs : List (Nat × (Array Value → Prop)) := [(3, fun c => c = (Lib.pow10Tab.map fun z => Value.int .u64 z).toArray)]
end Go.Ev
