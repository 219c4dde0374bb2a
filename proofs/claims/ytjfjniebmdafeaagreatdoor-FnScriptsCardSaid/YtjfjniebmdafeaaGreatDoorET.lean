/- The variables of packages that this seat's texts read: two tables by their cells, two errors and a number by their form. -/
import GoSem.Claim
import Derived.Shelf.Strconv.Itoa3
import Derived.Lib.Space
namespace Go.Ev
open Go
def isErr (c:Array Value):Prop:= ∃ t p,c= #[.iface t p]
def isNum (c:Array Value):Prop:= ∃ m,c[0]? =some (.int .i64 m)
def tabs:List (Nat×(Array Value→Prop)):=[(3,fun c=>c=(Lib.pow10Tab.map fun z=>Value.int .u64 z).toArray),(0,fun c=>c=(Lib.asciiSpaceTab.map fun z=>Value.int .u8 z).toArray),(6,isErr),(7,isErr),(2,isNum)]
end Go.Ev
