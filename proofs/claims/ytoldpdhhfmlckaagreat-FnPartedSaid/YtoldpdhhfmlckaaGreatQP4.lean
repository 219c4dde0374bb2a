/- What the program's functions compute, and plain facts of it (part 4). No condition beyond those that each theorem states. -/
import Derived.Test.YtoldpdhhfmlckaaGreatQP3
set_option linter.unusedVariables false
set_option linter.unusedSimpArgs false
section
namespace Go.Proofs.YtoldpdhhfmlckaaGreat
open Go.Ev
def qse (x0 x1 : Int) (z2 : Bool) (l3 : List (Int × Int × Int)) (z4 : Bool) (l5 : List Int) (z6 : Bool) (l7 : List Int) (z8 : Bool) (l9 : List Int) (x10 x11 x12 x13 x14 x15 x16 x17 x18 x19 x20 x21 x22 x23 x24 x25 x26 : Int) (z27 : Bool) (l28 : List (Int × Int × Int)) (z29 : Bool) (l30 : List Int) (z31 : Bool) (l32 : List Int) (z33 : Bool) (l34 : List Int) (x35 x36 x37 x38 x39 x40 x41 x42 x43 x44 x45 x46 x47 x48 x49 x50 x51 : Int) : St := ⟨fill 49 [(1, (.int .i64 (x0))), (4, (.ptr 4 (0) (0))), (6, (.ptr 9 (0) (0))), (7, (.int .i64 (x1)))], [], [(.arr true (z2) (.r3 (l3))), (.arr true (z4) (.ints .i64 (l5))), (.arr true (z6) (.ints .i64 (l7))), (.arr true (z8) (.ints .i64 (l9))), (.box true [(.int .i64 (x10)), (.sl 0 none), (.sl 1 none), (.sl 2 none), (.sl 3 none), (.int .i64 (x11)), (.int .i64 (x12)), (.int .i64 (x13)), (.int .i64 (x14)), (.int .i64 (x15)), (.int .i64 (x16)), (.int .i64 (x17)), (.int .i64 (x18)), (.int .i64 (x19)), (.int .i64 (x20)), (.int .i64 (x21)), (.int .i64 (x22)), (.int .i64 (x23)), (.int .i64 (x24)), (.int .i64 (x25)), (.int .i64 (x26))]), (.arr true (z27) (.r3 (l28))), (.arr true (z29) (.ints .i64 (l30))), (.arr true (z31) (.ints .i64 (l32))), (.arr true (z33) (.ints .i64 (l34))), (.box true [(.int .i64 (x35)), (.sl 5 none), (.sl 6 none), (.sl 7 none), (.sl 8 none), (.int .i64 (x36)), (.int .i64 (x37)), (.int .i64 (x38)), (.int .i64 (x39)), (.int .i64 (x40)), (.int .i64 (x41)), (.int .i64 (x42)), (.int .i64 (x43)), (.int .i64 (x44)), (.int .i64 (x45)), (.int .i64 (x46)), (.int .i64 (x47)), (.int .i64 (x48)), (.int .i64 (x49)), (.int .i64 (x50)), (.int .i64 (x51))])]⟩
theorem qir (k : Nat) (a0 : Int) (a1z : Bool) (a1 : List (Int × Int × Int)) (a2z : Bool) (a2 : List Int) (a3z : Bool) (a3 : List Int) (a4z : Bool) (a4 : List Int) (a5 a6 a7 a8 a9 a10 a11 a12 a13 a14 a15 a16 a17 a18 a19 a20 b : Int) : go (k + 1) spec_Advance [(.agg [(.int .i64 (a0)), (.arr false (a1z) (.r3 (a1))), (.arr false (a2z) (.ints .i64 (a2))), (.arr false (a3z) (.ints .i64 (a3))), (.arr false (a4z) (.ints .i64 (a4))), (.int .i64 (a5)), (.int .i64 (a6)), (.int .i64 (a7)), (.int .i64 (a8)), (.int .i64 (a9)), (.int .i64 (a10)), (.int .i64 (a11)), (.int .i64 (a12)), (.int .i64 (a13)), (.int .i64 (a14)), (.int .i64 (a15)), (.int .i64 (a16)), (.int .i64 (a17)), (.int .i64 (a18)), (.int .i64 (a19)), (.int .i64 (a20))]), (.int .i64 (b))] =
 (go k spec_l36Copy [(.agg [(.int .i64 (a0)), (.arr false (a1z) (.r3 (a1))), (.arr false (a2z) (.ints .i64 (a2))), (.arr false (a3z) (.ints .i64 (a3))), (.arr false (a4z) (.ints .i64 (a4))), (.int .i64 (a5)), (.int .i64 (a6)), (.int .i64 (a7)), (.int .i64 (a8)), (.int .i64 (a9)), (.int .i64 (a10)), (.int .i64 (a11)), (.int .i64 (a12)), (.int .i64 (a13)), (.int .i64 (a14)), (.int .i64 (a15)), (.int .i64 (a16)), (.int .i64 (a17)), (.int .i64 (a18)), (.int .i64 (a19)), (.int .i64 (a20))])]).bind fun r0 =>
 (go k spec_WorldOk [(.agg [(.int .i64 (a0)), (.arr false (a1z) (.r3 (a1))), (.arr false (a2z) (.ints .i64 (a2))), (.arr false (a3z) (.ints .i64 (a3))), (.arr false (a4z) (.ints .i64 (a4))), (.int .i64 (a5)), (.int .i64 (a6)), (.int .i64 (a7)), (.int .i64 (a8)), (.int .i64 (a9)), (.int .i64 (a10)), (.int .i64 (a11)), (.int .i64 (a12)), (.int .i64 (a13)), (.int .i64 (a14)), (.int .i64 (a15)), (.int .i64 (a16)), (.int .i64 (a17)), (.int .i64 (a18)), (.int .i64 (a19)), (.int .i64 (a20))])]).bind fun r1 =>
 cond (!bit (nth r1 0))
 (some [(.agg [(.int .i64 (D.toInt (D.cell 0 (nth r0 0)))), (.arr true (D.nil (D.cell 1 (nth r0 0))) (.r3 (D.r3 (D.cell 1 (nth r0 0))))), (.arr true (D.nil (D.cell 2 (nth r0 0))) (.ints .i64 (D.ints (D.cell 2 (nth r0 0))))), (.arr true (D.nil (D.cell 3 (nth r0 0))) (.ints .i64 (D.ints (D.cell 3 (nth r0 0))))), (.arr true (D.nil (D.cell 4 (nth r0 0))) (.ints .i64 (D.ints (D.cell 4 (nth r0 0))))), (.int .i64 (D.toInt (D.cell 5 (nth r0 0)))), (.int .i64 (D.toInt (D.cell 6 (nth r0 0)))), (.int .i64 (D.toInt (D.cell 7 (nth r0 0)))), (.int .i64 (D.toInt (D.cell 8 (nth r0 0)))), (.int .i64 (D.toInt (D.cell 9 (nth r0 0)))), (.int .i64 (D.toInt (D.cell 10 (nth r0 0)))), (.int .i64 (D.toInt (D.cell 11 (nth r0 0)))), (.int .i64 (D.toInt (D.cell (12 : Nat) (nth r0 0)))), (.int .i64 (D.toInt (D.cell (13 : Nat) (nth r0 0)))), (.int .i64 (D.toInt (D.cell (14 : Nat) (nth r0 0)))), (.int .i64 (D.toInt (D.cell (15 : Nat) (nth r0 0)))), (.int .i64 (D.toInt (D.cell (16 : Nat) (nth r0 0)))), (.int .i64 (D.toInt (D.cell (17 : Nat) (nth r0 0)))), (.int .i64 (D.toInt (D.cell (18 : Nat) (nth r0 0)))), (.int .i64 (D.toInt (D.cell (19 : Nat) (nth r0 0)))), (.int .i64 (D.toInt (D.cell (20 : Nat) (nth r0 0))))]), (.bool (false))])
 ((go k spec_l01In [(.int .i64 (b)), (.int .i64 (0 : Int)), (.int .i64 ((100 : Int)))]).bind fun r2 =>
 cond (!bit (nth r2 0))
 (some [(.agg [(.int .i64 (D.toInt (D.cell 0 (nth r0 0)))), (.arr true (D.nil (D.cell 1 (nth r0 0))) (.r3 (D.r3 (D.cell 1 (nth r0 0))))), (.arr true (D.nil (D.cell 2 (nth r0 0))) (.ints .i64 (D.ints (D.cell 2 (nth r0 0))))), (.arr true (D.nil (D.cell 3 (nth r0 0))) (.ints .i64 (D.ints (D.cell 3 (nth r0 0))))), (.arr true (D.nil (D.cell 4 (nth r0 0))) (.ints .i64 (D.ints (D.cell 4 (nth r0 0))))), (.int .i64 (D.toInt (D.cell 5 (nth r0 0)))), (.int .i64 (D.toInt (D.cell 6 (nth r0 0)))), (.int .i64 (D.toInt (D.cell 7 (nth r0 0)))), (.int .i64 (D.toInt (D.cell 8 (nth r0 0)))), (.int .i64 (D.toInt (D.cell 9 (nth r0 0)))), (.int .i64 (D.toInt (D.cell 10 (nth r0 0)))), (.int .i64 (D.toInt (D.cell 11 (nth r0 0)))), (.int .i64 (D.toInt (D.cell (12 : Nat) (nth r0 0)))), (.int .i64 (D.toInt (D.cell (13 : Nat) (nth r0 0)))), (.int .i64 (D.toInt (D.cell (14 : Nat) (nth r0 0)))), (.int .i64 (D.toInt (D.cell (15 : Nat) (nth r0 0)))), (.int .i64 (D.toInt (D.cell (16 : Nat) (nth r0 0)))), (.int .i64 (D.toInt (D.cell (17 : Nat) (nth r0 0)))), (.int .i64 (D.toInt (D.cell (18 : Nat) (nth r0 0)))), (.int .i64 (D.toInt (D.cell (19 : Nat) (nth r0 0)))), (.int .i64 (D.toInt (D.cell (20 : Nat) (nth r0 0))))]), (.bool (false))])
 (lp k spec_Advance [] [] 5 k (qse b (0 : Int) true ([]) true ([]) true ([]) true ([]) (0 : Int) (0 : Int) (0 : Int) (0 : Int) (0 : Int) (0 : Int) (0 : Int) (0 : Int) (0 : Int) (0 : Int) (0 : Int) (0 : Int) (0 : Int) (0 : Int) (0 : Int) (0 : Int) (0 : Int) (D.nil (D.cell 1 (nth r0 0))) (D.r3 (D.cell 1 (nth r0 0))) (D.nil (D.cell 2 (nth r0 0))) (D.ints (D.cell 2 (nth r0 0))) (D.nil (D.cell 3 (nth r0 0))) (D.ints (D.cell 3 (nth r0 0))) (D.nil (D.cell 4 (nth r0 0))) (D.ints (D.cell 4 (nth r0 0))) (D.toInt (D.cell 0 (nth r0 0))) (D.toInt (D.cell 5 (nth r0 0))) (D.toInt (D.cell 6 (nth r0 0))) (D.toInt (D.cell 7 (nth r0 0))) (D.toInt (D.cell 8 (nth r0 0))) (D.toInt (D.cell 9 (nth r0 0))) (D.toInt (D.cell 10 (nth r0 0))) (D.toInt (D.cell 11 (nth r0 0))) (D.toInt (D.cell (12 : Nat) (nth r0 0))) (D.toInt (D.cell (13 : Nat) (nth r0 0))) (D.toInt (D.cell (14 : Nat) (nth r0 0))) (D.toInt (D.cell (15 : Nat) (nth r0 0))) (D.toInt (D.cell (16 : Nat) (nth r0 0))) (D.toInt (D.cell (17 : Nat) (nth r0 0))) (D.toInt (D.cell (18 : Nat) (nth r0 0))) (D.toInt (D.cell (19 : Nat) (nth r0 0))) (D.toInt (D.cell (20 : Nat) (nth r0 0)))))) := by kernel_rfl
theorem qmk (k n : Nat) (fu : List (Nat × Nat)) (x0 x1 : Int) (z2 : Bool) (l3 : List (Int × Int × Int)) (z4 : Bool) (l5 : List Int) (z6 : Bool) (l7 : List Int) (z8 : Bool) (l9 : List Int) (x10 x11 x12 x13 x14 x15 x16 x17 x18 x19 x20 x21 x22 x23 x24 x25 x26 : Int) (z27 : Bool) (l28 : List (Int × Int × Int)) (z29 : Bool) (l30 : List Int) (z31 : Bool) (l32 : List Int) (z33 : Bool) (l34 : List Int) (x35 x36 x37 x38 x39 x40 x41 x42 x43 x44 x45 x46 x47 x48 x49 x50 x51 : Int) : lp k spec_Advance [] fu 5 (n + 1) (qse x0 x1 z2 l3 z4 l5 z6 l7 z8 l9 x10 x11 x12 x13 x14 x15 x16 x17 x18 x19 x20 x21 x22 x23 x24 x25 x26 z27 l28 z29 l30 z31 l32 z33 l34 x35 x36 x37 x38 x39 x40 x41 x42 x43 x44 x45 x46 x47 x48 x49 x50 x51) =
 cond (decide (x1 < x0))
 ((go k spec_l18Macro [(.agg [(.int .i64 (x35)), (.arr false (z27) (.r3 (l28))), (.arr false (z29) (.ints .i64 (l30))), (.arr false (z31) (.ints .i64 (l32))), (.arr false (z33) (.ints .i64 (l34)))]), (.agg [(.int .i64 (x36)), (.int .i64 (x37)), (.int .i64 (x38)), (.int .i64 (x39)), (.int .i64 (x40)), (.int .i64 (x41)), (.int .i64 (x42)), (.int .i64 (x43)), (.int .i64 (x44))]), (.int .i64 (x45))]).bind fun r0 =>
 (go k spec_LedgerAdd [(.agg [(.int .i64 (x46)), (.int .i64 (x47)), (.int .i64 (x48)), (.int .i64 (x49))]), (.agg [(.int .i64 (D.toInt (D.cell 0 (nth r0 1)))), (.int .i64 (D.toInt (D.cell 1 (nth r0 1)))), (.int .i64 (D.toInt (D.cell 2 (nth r0 1)))), (.int .i64 (D.toInt (D.cell 3 (nth r0 1))))])]).bind fun r1 =>
 lp k spec_Advance [] fu 5 n (qse x0 (IntKind.wrap .i64 (x1 + (1 : Int))) z2 l3 z4 l5 z6 l7 z8 l9 x10 x11 x12 x13 x14 x15 x16 x17 x18 x19 x20 x21 x22 x23 x24 x25 x26 (D.nil (D.cell 1 (nth r0 0))) (D.r3 (D.cell 1 (nth r0 0))) (D.nil (D.cell 2 (nth r0 0))) (D.ints (D.cell 2 (nth r0 0))) (D.nil (D.cell 3 (nth r0 0))) (D.ints (D.cell 3 (nth r0 0))) (D.nil (D.cell 4 (nth r0 0))) (D.ints (D.cell 4 (nth r0 0))) (D.toInt (D.cell 0 (nth r0 0))) x36 x37 x38 x39 x40 x41 x42 x43 x44 (IntKind.wrap .i64 (x45 + (1 : Int))) (D.toInt (D.cell 0 (nth r1 0))) (D.toInt (D.cell 1 (nth r1 0))) (D.toInt (D.cell 2 (nth r1 0))) (D.toInt (D.cell 3 (nth r1 0))) x50 x51))
 ((go k spec_l36Copy [(.agg [(.int .i64 (x35)), (.arr false (z27) (.r3 (l28))), (.arr false (z29) (.ints .i64 (l30))), (.arr false (z31) (.ints .i64 (l32))), (.arr false (z33) (.ints .i64 (l34))), (.int .i64 (x36)), (.int .i64 (x37)), (.int .i64 (x38)), (.int .i64 (x39)), (.int .i64 (x40)), (.int .i64 (x41)), (.int .i64 (x42)), (.int .i64 (x43)), (.int .i64 (x44)), (.int .i64 (x45)), (.int .i64 (x46)), (.int .i64 (x47)), (.int .i64 (x48)), (.int .i64 (x49)), (.int .i64 (x50)), (.int .i64 (x51))])]).bind fun r2 =>
 some [(.agg [(.int .i64 (D.toInt (D.cell 0 (nth r2 0)))), (.arr true (D.nil (D.cell 1 (nth r2 0))) (.r3 (D.r3 (D.cell 1 (nth r2 0))))), (.arr true (D.nil (D.cell 2 (nth r2 0))) (.ints .i64 (D.ints (D.cell 2 (nth r2 0))))), (.arr true (D.nil (D.cell 3 (nth r2 0))) (.ints .i64 (D.ints (D.cell 3 (nth r2 0))))), (.arr true (D.nil (D.cell 4 (nth r2 0))) (.ints .i64 (D.ints (D.cell 4 (nth r2 0))))), (.int .i64 (D.toInt (D.cell 5 (nth r2 0)))), (.int .i64 (D.toInt (D.cell 6 (nth r2 0)))), (.int .i64 (D.toInt (D.cell 7 (nth r2 0)))), (.int .i64 (D.toInt (D.cell 8 (nth r2 0)))), (.int .i64 (D.toInt (D.cell 9 (nth r2 0)))), (.int .i64 (D.toInt (D.cell 10 (nth r2 0)))), (.int .i64 (D.toInt (D.cell 11 (nth r2 0)))), (.int .i64 (D.toInt (D.cell (12 : Nat) (nth r2 0)))), (.int .i64 (D.toInt (D.cell (13 : Nat) (nth r2 0)))), (.int .i64 (D.toInt (D.cell (14 : Nat) (nth r2 0)))), (.int .i64 (D.toInt (D.cell (15 : Nat) (nth r2 0)))), (.int .i64 (D.toInt (D.cell (16 : Nat) (nth r2 0)))), (.int .i64 (D.toInt (D.cell (17 : Nat) (nth r2 0)))), (.int .i64 (D.toInt (D.cell (18 : Nat) (nth r2 0)))), (.int .i64 (D.toInt (D.cell (19 : Nat) (nth r2 0)))), (.int .i64 (D.toInt (D.cell (20 : Nat) (nth r2 0))))]), (.bool (true))]) := by kernel_rfl
def qrp (x0 x1 : Int) (z2 : Bool) (l3 : List (Int × Int × Int)) (z4 : Bool) (l5 : List Int) (z6 : Bool) (l7 : List Int) (z8 : Bool) (l9 : List Int) (x10 x11 x12 x13 x14 x15 x16 x17 x18 x19 x20 x21 x22 x23 x24 x25 x26 : Int) (z27 : Bool) (l28 : List (Int × Int × Int)) (z29 : Bool) (l30 : List Int) (z31 : Bool) (l32 : List Int) (z33 : Bool) (l34 : List Int) (x35 x36 x37 x38 x39 x40 x41 x42 x43 x44 x45 x46 x47 x48 x49 x50 x51 : Int) : St := ⟨fill 37 [(4, (.ptr 4 (0) (0))), (6, (.ptr 9 (0) (0))), (18, (.int .i64 (x0))), (19, (.int .i64 (x1)))], [], [(.arr true (z2) (.r3 (l3))), (.arr true (z4) (.ints .i64 (l5))), (.arr true (z6) (.ints .i64 (l7))), (.arr true (z8) (.ints .i64 (l9))), (.box true [(.int .i64 (x10)), (.sl 0 none), (.sl 1 none), (.sl 2 none), (.sl 3 none), (.int .i64 (x11)), (.int .i64 (x12)), (.int .i64 (x13)), (.int .i64 (x14)), (.int .i64 (x15)), (.int .i64 (x16)), (.int .i64 (x17)), (.int .i64 (x18)), (.int .i64 (x19)), (.int .i64 (x20)), (.int .i64 (x21)), (.int .i64 (x22)), (.int .i64 (x23)), (.int .i64 (x24)), (.int .i64 (x25)), (.int .i64 (x26))]), (.arr true (z27) (.r3 (l28))), (.arr true (z29) (.ints .i64 (l30))), (.arr true (z31) (.ints .i64 (l32))), (.arr true (z33) (.ints .i64 (l34))), (.box true [(.int .i64 (x35)), (.sl 5 none), (.sl 6 none), (.sl 7 none), (.sl 8 none), (.int .i64 (x36)), (.int .i64 (x37)), (.int .i64 (x38)), (.int .i64 (x39)), (.int .i64 (x40)), (.int .i64 (x41)), (.int .i64 (x42)), (.int .i64 (x43)), (.int .i64 (x44)), (.int .i64 (x45)), (.int .i64 (x46)), (.int .i64 (x47)), (.int .i64 (x48)), (.int .i64 (x49)), (.int .i64 (x50)), (.int .i64 (x51))])]⟩
theorem qgp (k : Nat) (a0 : Int) (a1z : Bool) (a1 : List (Int × Int × Int)) (a2z : Bool) (a2 : List Int) (a3z : Bool) (a3 : List Int) (a4z : Bool) (a4 : List Int) (a5 a6 a7 a8 a9 a10 a11 a12 a13 a14 a15 a16 a17 a18 a19 a20 b : Int) : go (k + 1) impl_Advance [(.agg [(.int .i64 (a0)), (.arr false (a1z) (.r3 (a1))), (.arr false (a2z) (.ints .i64 (a2))), (.arr false (a3z) (.ints .i64 (a3))), (.arr false (a4z) (.ints .i64 (a4))), (.int .i64 (a5)), (.int .i64 (a6)), (.int .i64 (a7)), (.int .i64 (a8)), (.int .i64 (a9)), (.int .i64 (a10)), (.int .i64 (a11)), (.int .i64 (a12)), (.int .i64 (a13)), (.int .i64 (a14)), (.int .i64 (a15)), (.int .i64 (a16)), (.int .i64 (a17)), (.int .i64 (a18)), (.int .i64 (a19)), (.int .i64 (a20))]), (.int .i64 (b))] =
 (go k impl_copyWorld [(.agg [(.int .i64 (a0)), (.arr false (a1z) (.r3 (a1))), (.arr false (a2z) (.ints .i64 (a2))), (.arr false (a3z) (.ints .i64 (a3))), (.arr false (a4z) (.ints .i64 (a4))), (.int .i64 (a5)), (.int .i64 (a6)), (.int .i64 (a7)), (.int .i64 (a8)), (.int .i64 (a9)), (.int .i64 (a10)), (.int .i64 (a11)), (.int .i64 (a12)), (.int .i64 (a13)), (.int .i64 (a14)), (.int .i64 (a15)), (.int .i64 (a16)), (.int .i64 (a17)), (.int .i64 (a18)), (.int .i64 (a19)), (.int .i64 (a20))])]).bind fun r0 =>
 (go k impl_WorldOk [(.agg [(.int .i64 (a0)), (.arr false (a1z) (.r3 (a1))), (.arr false (a2z) (.ints .i64 (a2))), (.arr false (a3z) (.ints .i64 (a3))), (.arr false (a4z) (.ints .i64 (a4))), (.int .i64 (a5)), (.int .i64 (a6)), (.int .i64 (a7)), (.int .i64 (a8)), (.int .i64 (a9)), (.int .i64 (a10)), (.int .i64 (a11)), (.int .i64 (a12)), (.int .i64 (a13)), (.int .i64 (a14)), (.int .i64 (a15)), (.int .i64 (a16)), (.int .i64 (a17)), (.int .i64 (a18)), (.int .i64 (a19)), (.int .i64 (a20))])]).bind fun r1 =>
 cond (!bit (nth r1 0))
 (some [(.agg [(.int .i64 (D.toInt (D.cell 0 (nth r0 0)))), (.arr true (D.nil (D.cell 1 (nth r0 0))) (.r3 (D.r3 (D.cell 1 (nth r0 0))))), (.arr true (D.nil (D.cell 2 (nth r0 0))) (.ints .i64 (D.ints (D.cell 2 (nth r0 0))))), (.arr true (D.nil (D.cell 3 (nth r0 0))) (.ints .i64 (D.ints (D.cell 3 (nth r0 0))))), (.arr true (D.nil (D.cell 4 (nth r0 0))) (.ints .i64 (D.ints (D.cell 4 (nth r0 0))))), (.int .i64 (D.toInt (D.cell 5 (nth r0 0)))), (.int .i64 (D.toInt (D.cell 6 (nth r0 0)))), (.int .i64 (D.toInt (D.cell 7 (nth r0 0)))), (.int .i64 (D.toInt (D.cell 8 (nth r0 0)))), (.int .i64 (D.toInt (D.cell 9 (nth r0 0)))), (.int .i64 (D.toInt (D.cell 10 (nth r0 0)))), (.int .i64 (D.toInt (D.cell 11 (nth r0 0)))), (.int .i64 (D.toInt (D.cell (12 : Nat) (nth r0 0)))), (.int .i64 (D.toInt (D.cell (13 : Nat) (nth r0 0)))), (.int .i64 (D.toInt (D.cell (14 : Nat) (nth r0 0)))), (.int .i64 (D.toInt (D.cell (15 : Nat) (nth r0 0)))), (.int .i64 (D.toInt (D.cell (16 : Nat) (nth r0 0)))), (.int .i64 (D.toInt (D.cell (17 : Nat) (nth r0 0)))), (.int .i64 (D.toInt (D.cell (18 : Nat) (nth r0 0)))), (.int .i64 (D.toInt (D.cell (19 : Nat) (nth r0 0)))), (.int .i64 (D.toInt (D.cell (20 : Nat) (nth r0 0))))]), (.bool (false))])
 ((go k impl_within [(.int .i64 (b)), (.int .i64 (0 : Int)), (.int .i64 ((100 : Int)))]).bind fun r2 =>
 cond (!bit (nth r2 0))
 (some [(.agg [(.int .i64 (D.toInt (D.cell 0 (nth r0 0)))), (.arr true (D.nil (D.cell 1 (nth r0 0))) (.r3 (D.r3 (D.cell 1 (nth r0 0))))), (.arr true (D.nil (D.cell 2 (nth r0 0))) (.ints .i64 (D.ints (D.cell 2 (nth r0 0))))), (.arr true (D.nil (D.cell 3 (nth r0 0))) (.ints .i64 (D.ints (D.cell 3 (nth r0 0))))), (.arr true (D.nil (D.cell 4 (nth r0 0))) (.ints .i64 (D.ints (D.cell 4 (nth r0 0))))), (.int .i64 (D.toInt (D.cell 5 (nth r0 0)))), (.int .i64 (D.toInt (D.cell 6 (nth r0 0)))), (.int .i64 (D.toInt (D.cell 7 (nth r0 0)))), (.int .i64 (D.toInt (D.cell 8 (nth r0 0)))), (.int .i64 (D.toInt (D.cell 9 (nth r0 0)))), (.int .i64 (D.toInt (D.cell 10 (nth r0 0)))), (.int .i64 (D.toInt (D.cell 11 (nth r0 0)))), (.int .i64 (D.toInt (D.cell (12 : Nat) (nth r0 0)))), (.int .i64 (D.toInt (D.cell (13 : Nat) (nth r0 0)))), (.int .i64 (D.toInt (D.cell (14 : Nat) (nth r0 0)))), (.int .i64 (D.toInt (D.cell (15 : Nat) (nth r0 0)))), (.int .i64 (D.toInt (D.cell (16 : Nat) (nth r0 0)))), (.int .i64 (D.toInt (D.cell (17 : Nat) (nth r0 0)))), (.int .i64 (D.toInt (D.cell (18 : Nat) (nth r0 0)))), (.int .i64 (D.toInt (D.cell (19 : Nat) (nth r0 0)))), (.int .i64 (D.toInt (D.cell (20 : Nat) (nth r0 0))))]), (.bool (false))])
 (lp k impl_Advance [] [] 5 k (qrp b (0 : Int) true ([]) true ([]) true ([]) true ([]) (0 : Int) (0 : Int) (0 : Int) (0 : Int) (0 : Int) (0 : Int) (0 : Int) (0 : Int) (0 : Int) (0 : Int) (0 : Int) (0 : Int) (0 : Int) (0 : Int) (0 : Int) (0 : Int) (0 : Int) (D.nil (D.cell 1 (nth r0 0))) (D.r3 (D.cell 1 (nth r0 0))) (D.nil (D.cell 2 (nth r0 0))) (D.ints (D.cell 2 (nth r0 0))) (D.nil (D.cell 3 (nth r0 0))) (D.ints (D.cell 3 (nth r0 0))) (D.nil (D.cell 4 (nth r0 0))) (D.ints (D.cell 4 (nth r0 0))) (D.toInt (D.cell 0 (nth r0 0))) (D.toInt (D.cell 5 (nth r0 0))) (D.toInt (D.cell 6 (nth r0 0))) (D.toInt (D.cell 7 (nth r0 0))) (D.toInt (D.cell 8 (nth r0 0))) (D.toInt (D.cell 9 (nth r0 0))) (D.toInt (D.cell 10 (nth r0 0))) (D.toInt (D.cell 11 (nth r0 0))) (D.toInt (D.cell (12 : Nat) (nth r0 0))) (D.toInt (D.cell (13 : Nat) (nth r0 0))) (D.toInt (D.cell (14 : Nat) (nth r0 0))) (D.toInt (D.cell (15 : Nat) (nth r0 0))) (D.toInt (D.cell (16 : Nat) (nth r0 0))) (D.toInt (D.cell (17 : Nat) (nth r0 0))) (D.toInt (D.cell (18 : Nat) (nth r0 0))) (D.toInt (D.cell (19 : Nat) (nth r0 0))) (D.toInt (D.cell (20 : Nat) (nth r0 0)))))) := by kernel_rfl
theorem qlv (k n : Nat) (fu : List (Nat × Nat)) (x0 x1 : Int) (z2 : Bool) (l3 : List (Int × Int × Int)) (z4 : Bool) (l5 : List Int) (z6 : Bool) (l7 : List Int) (z8 : Bool) (l9 : List Int) (x10 x11 x12 x13 x14 x15 x16 x17 x18 x19 x20 x21 x22 x23 x24 x25 x26 : Int) (z27 : Bool) (l28 : List (Int × Int × Int)) (z29 : Bool) (l30 : List Int) (z31 : Bool) (l32 : List Int) (z33 : Bool) (l34 : List Int) (x35 x36 x37 x38 x39 x40 x41 x42 x43 x44 x45 x46 x47 x48 x49 x50 x51 : Int) : lp k impl_Advance [] fu 5 (n + 1) (qrp x0 x1 z2 l3 z4 l5 z6 l7 z8 l9 x10 x11 x12 x13 x14 x15 x16 x17 x18 x19 x20 x21 x22 x23 x24 x25 x26 z27 l28 z29 l30 z31 l32 z33 l34 x35 x36 x37 x38 x39 x40 x41 x42 x43 x44 x45 x46 x47 x48 x49 x50 x51) =
 cond (decide (x1 < x0))
 ((go k impl_State_runMacro [(.ptr true [(.int .i64 (x35)), (.arr true (z27) (.r3 (l28))), (.arr true (z29) (.ints .i64 (l30))), (.arr true (z31) (.ints .i64 (l32))), (.arr true (z33) (.ints .i64 (l34)))]), (.agg [(.int .i64 (x36)), (.int .i64 (x37)), (.int .i64 (x38)), (.int .i64 (x39)), (.int .i64 (x40)), (.int .i64 (x41)), (.int .i64 (x42)), (.int .i64 (x43)), (.int .i64 (x44))]), (.int .i64 (x45))]).bind fun r0 =>
 (go k impl_LedgerAdd [(.agg [(.int .i64 (x46)), (.int .i64 (x47)), (.int .i64 (x48)), (.int .i64 (x49))]), (.agg [(.int .i64 (D.toInt (D.cell 0 (nth r0 0)))), (.int .i64 (D.toInt (D.cell 1 (nth r0 0)))), (.int .i64 (D.toInt (D.cell 2 (nth r0 0)))), (.int .i64 (D.toInt (D.cell 3 (nth r0 0))))])]).bind fun r1 =>
 lp k impl_Advance [] fu 5 n (qrp x0 (IntKind.wrap .i64 (x1 + (1 : Int))) z2 l3 z4 l5 z6 l7 z8 l9 x10 x11 x12 x13 x14 x15 x16 x17 x18 x19 x20 x21 x22 x23 x24 x25 x26 (D.nil (D.cell 1 (nth r0 1))) (D.r3 (D.cell 1 (nth r0 1))) (D.nil (D.cell 2 (nth r0 1))) (D.ints (D.cell 2 (nth r0 1))) (D.nil (D.cell 3 (nth r0 1))) (D.ints (D.cell 3 (nth r0 1))) (D.nil (D.cell 4 (nth r0 1))) (D.ints (D.cell 4 (nth r0 1))) (D.toInt (D.cell 0 (nth r0 1))) x36 x37 x38 x39 x40 x41 x42 x43 x44 (IntKind.wrap .i64 (x45 + (1 : Int))) (D.toInt (D.cell 0 (nth r1 0))) (D.toInt (D.cell 1 (nth r1 0))) (D.toInt (D.cell 2 (nth r1 0))) (D.toInt (D.cell 3 (nth r1 0))) x50 x51))
 (some [(.agg [(.int .i64 (x35)), (.arr true (z27) (.r3 (l28))), (.arr true (z29) (.ints .i64 (l30))), (.arr true (z31) (.ints .i64 (l32))), (.arr true (z33) (.ints .i64 (l34))), (.int .i64 (x36)), (.int .i64 (x37)), (.int .i64 (x38)), (.int .i64 (x39)), (.int .i64 (x40)), (.int .i64 (x41)), (.int .i64 (x42)), (.int .i64 (x43)), (.int .i64 (x44)), (.int .i64 (x45)), (.int .i64 (x46)), (.int .i64 (x47)), (.int .i64 (x48)), (.int .i64 (x49)), (.int .i64 (x50)), (.int .i64 (x51))]), (.bool (true))]) := by kernel_rfl

end Go.Proofs.YtoldpdhhfmlckaaGreat
end
section
namespace Go.Proofs.YtoldpdhhfmlckaaGreat
open Go.Ev
set_option maxRecDepth 20000
structure Wd where
  r : Int
  s : S3
  b : List Int
  p : Pl
  k : Int
  ld : Ld
  f : Int
  g : Int
abbrev wdR (w : Wd) : D := .agg [.int .i64 (w.r), .arr false false (.r3 (w.s.1)), .arr false false (.ints .i64 (w.s.2.1)), .arr false false (.ints .i64 (w.s.2.2)), .arr false false (.ints .i64 (w.b)), .int .i64 (w.p.bi), .int .i64 (w.p.bs), .int .i64 (w.p.bo), .int .i64 (w.p.rain), .int .i64 (w.p.loss), .int .i64 (w.p.dec), .int .i64 (w.p.high), .int .i64 (w.p.low), .int .i64 (w.p.every), .int .i64 (w.k), .int .i64 (w.ld.mi), .int .i64 (w.ld.mo), .int .i64 (w.ld.ti), .int .i64 (w.ld.ou), .int .i64 (w.f), .int .i64 (w.g)]
abbrev wdO (w : Wd) : D := .agg [.int .i64 (w.r), .arr true false (.r3 (w.s.1)), .arr true false (.ints .i64 (w.s.2.1)), .arr true false (.ints .i64 (w.s.2.2)), .arr true false (.ints .i64 (w.b)), .int .i64 (w.p.bi), .int .i64 (w.p.bs), .int .i64 (w.p.bo), .int .i64 (w.p.rain), .int .i64 (w.p.loss), .int .i64 (w.p.dec), .int .i64 (w.p.high), .int .i64 (w.p.low), .int .i64 (w.p.every), .int .i64 (w.k), .int .i64 (w.ld.mi), .int .i64 (w.ld.mo), .int .i64 (w.ld.ti), .int .i64 (w.ld.ou), .int .i64 (w.f), .int .i64 (w.g)]
def wdOk (w : Wd) : Bool := qvr w.r w.s.1 w.s.2.1 w.s.2.2 w.b w.p.bi w.p.bs w.p.bo w.p.rain w.p.loss w.p.dec w.p.high w.p.low w.p.every w.k w.ld.mi w.ld.mo w.ld.ti w.ld.ou w.f w.g
structure Sml (w : Wd) : Prop where
  h1 : (w.s.1.length : Int) ≤ 1048576
  h2 : (w.s.2.1.length : Int) ≤ 1048576
  h3 : (w.s.2.2.length : Int) ≤ 1048576
  h4 : (w.b.length : Int) ≤ 1048576
structure LdB (l : Ld) (B : Int) : Prop where
  mi : 0 ≤ l.mi ∧ l.mi ≤ B
  mo : 0 ≤ l.mo ∧ l.mo ≤ B
  ti : 0 ≤ l.ti ∧ l.ti ≤ B
  ou : 0 ≤ l.ou ∧ l.ou ≤ B
theorem qqn {p : Pl} (h : qqo p.bi p.bs p.bo p.rain p.loss p.dec p.high p.low p.every = true) : PlF p := by
  simp only [qqo, qbc, Bool.and_eq_true, qle] at h
  exact ⟨by omega, by omega, by omega, by omega, by omega, by omega, by omega, by omega, by omega⟩
structure WdF (w : Wd) : Prop where
  F : StF w.r w.s.1 w.s.2.1 w.s.2.2 w.b
  P : PlF w.p
  k : 0 ≤ w.k ∧ w.k ≤ 100000
  L : LdB w.ld 1000000000000000
  f : isum w.s.2.1 - w.ld.mi + w.ld.mo = w.f
  g : isum w.s.2.2 - w.ld.ti + w.ld.ou = w.g
theorem wdF {w : Wd} (h : wdOk w = true) : WdF w := by
  unfold wdOk qvr qnh at h
  simp only [Bool.and_eq_true, decide_eq_true_eq] at h
  obtain ⟨h1, h2, h3, ⟨h4, h5, h6, h7⟩, h8, h9⟩ := h
  exact ⟨stF.1 h1, qqn h2, qle.1 h3, ⟨qle.1 h4, qle.1 h5, qle.1 h6, qle.1 h7⟩, h8, h9⟩
theorem StF.sml {w : Wd} (F : StF w.r w.s.1 w.s.2.1 w.s.2.2 w.b) : Sml w := by
  have := F.len; have := F.ml; have := F.tl; have := F.bl; have := F.rr
  exact ⟨by omega, by omega, by omega, by omega⟩
def Wd.next (w : Wd) : Wd := { w with s := (mac w.p w.b w.k w.s).1, k := w.k + 1, ld := w.ld.add (mac w.p w.b w.k w.s).2 }
def advN : Nat → Wd → Wd
  | 0, w => w
  | n + 1, w => advN n w.next
structure Adv (w : Wd) (i : Nat) : Prop where
  F : StF w.r w.s.1 w.s.2.1 w.s.2.2 w.b
  P : PlF w.p
  k : 0 ≤ w.k ∧ w.k ≤ 100000 + i
  L : LdB w.ld (1000000000000000 + 40000000000 * i)
theorem Adv.next {w : Wd} {i : Nat} (A : Adv w i) : Adv w.next (i + 1) := by
  have h := qo9 (s := w.s) A.F A.P w.k
  have a := A.k; have l := A.L; have q := h.2
  have l1 := l.mi; have l2 := l.mo; have l3 := l.ti; have l4 := l.ou
  have q1 := q.mi; have q2 := q.mo; have q3 := q.ti; have q4 := q.ou
  refine ⟨h.1, A.P, ?_, ⟨?_, ?_, ?_, ?_⟩⟩
  · show 0 ≤ w.k + 1 ∧ w.k + 1 ≤ _; omega
  · show 0 ≤ w.ld.mi + _ ∧ w.ld.mi + _ ≤ _; omega
  · show 0 ≤ w.ld.mo + _ ∧ w.ld.mo + _ ≤ _; omega
  · show 0 ≤ w.ld.ti + _ ∧ w.ld.ti + _ ≤ _; omega
  · show 0 ≤ w.ld.ou + _ ∧ w.ld.ou + _ ≤ _; omega
theorem qau : ∀ (n : Nat) (w : Wd) (i : Nat), Adv w i → Adv (advN n w) (i + n)
  | 0, w, i, A => A
  | n + 1, w, i, A => by have := qau n w.next (i + 1) A.next; rw [show i + 1 + n = i + (n + 1) by omega] at this; exact this
theorem qcd (k : Nat) (hk : 2000000 ≤ k) (w : Wd) (h : Sml w) : go (k + 4) impl_copyWorld [wdR w] = some [wdO w] := qcc k hk _ _ _ _ _ _ _ _ _ _ _ _ _ _ _ _ _ _ _ _ _ h.h1 h.h2 h.h3 h.h4
theorem qe9 (k : Nat) (hk : 2000000 ≤ k) (w : Wd) (h : Sml w) : go (k + 3) spec_l36Copy [wdR w] = some [wdO w] := qe8 k hk _ _ _ _ _ _ _ _ _ _ _ _ _ _ _ _ _ _ _ _ _ _ _ _ _ h.h1 h.h2 h.h3 h.h4
theorem qb3 (k : Nat) (hk : 2000000 ≤ k) (w : Wd) (h : Sml w) : go (k + 9) impl_WorldOk [wdR w] = some [.bool (wdOk w)] := qb2 k hk _ _ _ _ _ _ _ _ _ _ _ _ _ _ _ _ _ _ _ _ _ _ _ _ _ h.h1 h.h4
theorem qd9 (k : Nat) (hk : 2000000 ≤ k) (w : Wd) (h : Sml w) : go (k + 8) spec_WorldOk [wdR w] = some [.bool (wdOk w)] := qd8 k hk _ _ _ _ _ _ _ _ _ _ _ _ _ _ _ _ _ _ _ _ _ _ _ _ _ h.h1 h.h4
set_option maxHeartbeats 1000000 in
theorem qny (k : Nat) (hk : 2000000 ≤ k) (fu : List (Nat × Nat)) (c : Int) (hc : c ≤ 100) (z2 : Bool) (l3 : List Cell) (z4 : Bool) (l5 : List Int) (z6 : Bool) (l7 : List Int) (z8 : Bool) (l9 : List Int) (x10 x11 x12 x13 x14 x15 x16 x17 x18 x19 x20 x21 x22 x23 x24 x25 x26 : Int) : ∀ (N n i : Nat) (w : Wd), (i : Int) + n = c → n < N → Adv w i →
    lp (k + 11) impl_Advance [] fu 5 (N) (qrp c (i : Int) z2 l3 z4 l5 z6 l7 z8 l9 x10 x11 x12 x13 x14 x15 x16 x17 x18 x19 x20 x21 x22 x23 x24 x25 x26 false w.s.1 false w.s.2.1 false w.s.2.2 false w.b w.r w.p.bi w.p.bs w.p.bo w.p.rain w.p.loss w.p.dec w.p.high w.p.low w.p.every w.k w.ld.mi w.ld.mo w.ld.ti w.ld.ou w.f w.g) = some [wdO (advN n w), .bool true]
  | 0, n, i, w, hi, hN, A => by omega
  | N + 1, 0, i, w, hi, hN, A => by
    rw [qlv]
    simp (disch := omega) only [dF, qfg, qvt, qga]; rfl
  | N + 1, n + 1, i, w, hi, hN, A => by
    rw [qlv]
    have a := A.k; have l := A.L
    have h := (qo9 (s := w.s) A.F A.P w.k).2
    have l1 := l.mi; have l2 := l.mo; have l3' := l.ti; have l4 := l.ou
    have q1 := h.mi; have q2 := h.mo; have q3 := h.ti; have q4 := h.ou
    have eM := qc0 k (by omega) w.r w.s w.b A.F w.p A.P w.k (by omega)
    have eL := qbo (k + 10) w.ld (mac w.p w.b w.k w.s).2 (by omega) (by omega) (by omega) (by omega)
    have IH := qny k hk fu c hc z2 l3 z4 l5 z6 l7 z8 l9 x10 x11 x12 x13 x14 x15 x16 x17 x18 x19 x20 x21 x22 x23 x24 x25 x26 N n (i + 1) w.next (by omega) (by omega) A.next
    rw [show advN (n + 1) w = advN n w.next from rfl]
    simp only [Wd.next] at IH ⊢
    simp (disch := omega) only [dT, eM, qfg, qvt, qa6, nth0, qfi, qu2, qfj, qfu, qfw, eL, nth1, qq1, qp3, qqu, qq2, qlg, qq3, qq4, qq0, IH, qgc]
set_option maxHeartbeats 1000000 in
theorem qoj (k : Nat) (hk : 2000000 ≤ k) (fu : List (Nat × Nat)) (c : Int) (hc : c ≤ 100) (z2 : Bool) (l3 : List Cell) (z4 : Bool) (l5 : List Int) (z6 : Bool) (l7 : List Int) (z8 : Bool) (l9 : List Int) (x10 x11 x12 x13 x14 x15 x16 x17 x18 x19 x20 x21 x22 x23 x24 x25 x26 : Int) : ∀ (N n i : Nat) (w : Wd), (i : Int) + n = c → n < N → Adv w i →
    lp (k + 8) spec_Advance [] fu 5 (N) (qse c (i : Int) z2 l3 z4 l5 z6 l7 z8 l9 x10 x11 x12 x13 x14 x15 x16 x17 x18 x19 x20 x21 x22 x23 x24 x25 x26 false w.s.1 false w.s.2.1 false w.s.2.2 false w.b w.r w.p.bi w.p.bs w.p.bo w.p.rain w.p.loss w.p.dec w.p.high w.p.low w.p.every w.k w.ld.mi w.ld.mo w.ld.ti w.ld.ou w.f w.g) = some [wdO (advN n w), .bool true]
  | 0, n, i, w, hi, hN, A => by omega
  | N + 1, 0, i, w, hi, hN, A => by
    rw [qmk]
    have eC := qe9 (k + 5) (by omega) w A.F.sml
    simp (disch := omega) only [dF, qfg, qvt, eC, qa6, nth0, qfi, qu2, qfj, qp3, qqu, qfu, qlg, qfw, qfx, qfy, qfz, qf0, qf1, qf2, qfk, qfl, qfm, qfn, qfo, qfp, qfq, qfr, qfs, qft, qfv, qga]
    rfl
  | N + 1, n + 1, i, w, hi, hN, A => by
    rw [qmk]
    have a := A.k; have l := A.L
    have h := (qo9 (s := w.s) A.F A.P w.k).2
    have l1 := l.mi; have l2 := l.mo; have l3' := l.ti; have l4 := l.ou
    have q1 := h.mi; have q2 := h.mo; have q3 := h.ti; have q4 := h.ou
    have eM := qe5 k (by omega) w.r w.s w.b A.F w.p A.P w.k (by omega)
    have eL := qdx (k + 7) w.ld (mac w.p w.b w.k w.s).2 (by omega) (by omega) (by omega) (by omega)
    have IH := qoj k hk fu c hc z2 l3 z4 l5 z6 l7 z8 l9 x10 x11 x12 x13 x14 x15 x16 x17 x18 x19 x20 x21 x22 x23 x24 x25 x26 N n (i + 1) w.next (by omega) (by omega) A.next
    rw [show advN (n + 1) w = advN n w.next from rfl]
    simp only [Wd.next] at IH ⊢
    simp (disch := omega) only [dT, eM, qfg, qvt, qa6, nth1, qfi, qu2, qfj, qfu, qfw, eL, nth0, qp3, qqu, qlg, qfx, IH, qgc]
def qax (w : Wd) (n : Int) : Bool := wdOk w && inR n 0 100
def adv (w : Wd) (n : Int) : Wd := cond (qax w n) (advN n.toNat w) w
theorem WdF.adv {w : Wd} (h : WdF w) : Adv w 0 := ⟨h.F, h.P, by have := h.k; omega, ⟨by have := h.L.mi; omega, by have := h.L.mo; omega, by have := h.L.ti; omega, by have := h.L.ou; omega⟩⟩
theorem qbg (k : Nat) (hk : 2000000 ≤ k) (w : Wd) (n : Int) (h : Sml w) : go (k + 12) impl_Advance [wdR w, .int .i64 n] = some [wdO (adv w n), .bool (qax w n)] := by
  rw [qgp]
  have eC := qcd (k + 7) (by omega) w h
  have eO := qb3 (k + 2) (by omega) w h
  unfold adv qax
  cases g : wdOk w
  · rw [g] at eO
    simp (disch := omega) only [eC, eO, bit, qa6, nth0, qu1, Bool.not_false, qgc, qfi, qu2, qfj, qp3, qqu, qfu, qlg, qfw, qfx, qfy, qfz, qf0, qf1, qf2, qfk, qfl, qfm, qfn, qfo, qfp, qfq, qfr, qfs, qft, qfv, Bool.false_and, qga]
  rw [g] at eO
  cases g2 : inR n 0 100
  · simp (disch := omega) only [eC, eO, bit, qc8, g2, qa6, nth0, qu1, Bool.not_false, qgc, Bool.not_true, qga, qfi, qu2, qfj, qp3, qqu, qfu, qlg, qfw, qfx, qfy, qfz, qf0, qf1, qf2, qfk, qfl, qfm, qfn, qfo, qfp, qfq, qfr, qfs, qft, qfv, Bool.and_false]
  have b := qle.1 g2
  have e := qny k hk [] n b.2 true [] true [] true [] true [] 0 0 0 0 0 0 0 0 0 0 0 0 0 0 0 0 0 (k + 11) n.toNat 0 w (by omega) (by omega) (wdF g).adv
  rw [show ((0 : Nat) : Int) = 0 from rfl] at e
  simp (disch := omega) only [eC, eO, bit, qc8, g2, qa6, nth0, qu1, Bool.not_true, qga, qfj, qp3, qqu, qfu, qlg, qfw, qfx, qfi, qu2, qfy, qfz, qf0, qf1, qf2, qfk, qfl, qfm, qfn, qfo, qfp, qfq, qfr, qfs, qft, qfv, Bool.and_true, qgc]
  exact e
theorem qdi (k : Nat) (hk : 2000000 ≤ k) (w : Wd) (n : Int) (h : Sml w) : go (k + 9) spec_Advance [wdR w, .int .i64 n] = some [wdO (adv w n), .bool (qax w n)] := by
  rw [qir]
  have eC := qe9 (k + 5) (by omega) w h
  have eO := qd9 k (by omega) w h
  unfold adv qax
  cases g : wdOk w
  · rw [g] at eO
    simp (disch := omega) only [eC, eO, bit, qa6, nth0, qu1, Bool.not_false, qgc, qfi, qu2, qfj, qp3, qqu, qfu, qlg, qfw, qfx, qfy, qfz, qf0, qf1, qf2, qfk, qfl, qfm, qfn, qfo, qfp, qfq, qfr, qfs, qft, qfv, Bool.false_and, qga]
  rw [g] at eO
  cases g2 : inR n 0 100
  · simp (disch := omega) only [eC, eO, bit, qee, g2, qa6, nth0, qu1, Bool.not_false, qgc, Bool.not_true, qga, qfi, qu2, qfj, qp3, qqu, qfu, qlg, qfw, qfx, qfy, qfz, qf0, qf1, qf2, qfk, qfl, qfm, qfn, qfo, qfp, qfq, qfr, qfs, qft, qfv, Bool.and_false]
  have b := qle.1 g2
  have e := qoj k hk [] n b.2 true [] true [] true [] true [] 0 0 0 0 0 0 0 0 0 0 0 0 0 0 0 0 0 (k + 8) n.toNat 0 w (by omega) (by omega) (wdF g).adv
  rw [show ((0 : Nat) : Int) = 0 from rfl] at e
  simp (disch := omega) only [eC, eO, bit, qee, g2, qa6, nth0, qu1, Bool.not_true, qga, qfj, qp3, qqu, qfu, qlg, qfw, qfx, qfi, qu2, qfy, qfz, qf0, qf1, qf2, qfk, qfl, qfm, qfn, qfo, qfp, qfq, qfr, qfs, qft, qfv, Bool.and_true, qgc]
  exact e
end Go.Proofs.YtoldpdhhfmlckaaGreat
end
section
namespace Go.Proofs.YtoldpdhhfmlckaaGreat
open Go.Ev
def qru (x0 x1 : Int) (z2 : Bool) (l3 : List (Int × Int × Int)) (z4 : Bool) (l5 : List Int) (z6 : Bool) (l7 : List Int) (z8 : Bool) (l9 : List Int) (x10 x11 x12 x13 x14 x15 x16 x17 x18 x19 x20 x21 x22 x23 x24 x25 x26 : Int) (z27 : Bool) (l28 : List (Int × Int × Int)) (z29 : Bool) (l30 : List Int) (z31 : Bool) (l32 : List Int) (z33 : Bool) (l34 : List Int) (x35 x36 x37 x38 x39 x40 x41 x42 x43 x44 x45 x46 x47 x48 x49 x50 x51 : Int) : St := ⟨fill 44 [(3, (.ptr 4 (0) (0))), (4, (.ptr 9 (0) (0))), (22, (.int .i64 (x0))), (23, (.int .i64 (x1)))], [], [(.arr false (z2) (.r3 (l3))), (.arr false (z4) (.ints .i64 (l5))), (.arr false (z6) (.ints .i64 (l7))), (.arr false (z8) (.ints .i64 (l9))), (.box true [(.int .i64 (x10)), (.sl 0 none), (.sl 1 none), (.sl 2 none), (.sl 3 none), (.int .i64 (x11)), (.int .i64 (x12)), (.int .i64 (x13)), (.int .i64 (x14)), (.int .i64 (x15)), (.int .i64 (x16)), (.int .i64 (x17)), (.int .i64 (x18)), (.int .i64 (x19)), (.int .i64 (x20)), (.int .i64 (x21)), (.int .i64 (x22)), (.int .i64 (x23)), (.int .i64 (x24)), (.int .i64 (x25)), (.int .i64 (x26))]), (.arr false (z27) (.r3 (l28))), (.arr false (z29) (.ints .i64 (l30))), (.arr false (z31) (.ints .i64 (l32))), (.arr false (z33) (.ints .i64 (l34))), (.box true [(.int .i64 (x35)), (.sl 5 none), (.sl 6 none), (.sl 7 none), (.sl 8 none), (.int .i64 (x36)), (.int .i64 (x37)), (.int .i64 (x38)), (.int .i64 (x39)), (.int .i64 (x40)), (.int .i64 (x41)), (.int .i64 (x42)), (.int .i64 (x43)), (.int .i64 (x44)), (.int .i64 (x45)), (.int .i64 (x46)), (.int .i64 (x47)), (.int .i64 (x48)), (.int .i64 (x49)), (.int .i64 (x50)), (.int .i64 (x51))])]⟩
def qrv (x0 x1 : Int) (z2 : Bool) (l3 : List (Int × Int × Int)) (z4 : Bool) (l5 : List Int) (z6 : Bool) (l7 : List Int) (z8 : Bool) (l9 : List Int) (x10 x11 x12 x13 x14 x15 x16 x17 x18 x19 x20 x21 x22 x23 x24 x25 x26 : Int) (z27 : Bool) (l28 : List (Int × Int × Int)) (z29 : Bool) (l30 : List Int) (z31 : Bool) (l32 : List Int) (z33 : Bool) (l34 : List Int) (x35 x36 x37 x38 x39 x40 x41 x42 x43 x44 x45 x46 x47 x48 x49 x50 x51 : Int) : St := ⟨fill 44 [(3, (.ptr 4 (0) (0))), (4, (.ptr 9 (0) (0))), (22, (.int .i64 (x0))), (23, (.int .i64 (x1)))], [], [(.arr true (z2) (.r3 (l3))), (.arr true (z4) (.ints .i64 (l5))), (.arr true (z6) (.ints .i64 (l7))), (.arr true (z8) (.ints .i64 (l9))), (.box true [(.int .i64 (x10)), (.sl 0 none), (.sl 1 none), (.sl 2 none), (.sl 3 none), (.int .i64 (x11)), (.int .i64 (x12)), (.int .i64 (x13)), (.int .i64 (x14)), (.int .i64 (x15)), (.int .i64 (x16)), (.int .i64 (x17)), (.int .i64 (x18)), (.int .i64 (x19)), (.int .i64 (x20)), (.int .i64 (x21)), (.int .i64 (x22)), (.int .i64 (x23)), (.int .i64 (x24)), (.int .i64 (x25)), (.int .i64 (x26))]), (.arr true (z27) (.r3 (l28))), (.arr true (z29) (.ints .i64 (l30))), (.arr true (z31) (.ints .i64 (l32))), (.arr true (z33) (.ints .i64 (l34))), (.box true [(.int .i64 (x35)), (.sl 5 none), (.sl 6 none), (.sl 7 none), (.sl 8 none), (.int .i64 (x36)), (.int .i64 (x37)), (.int .i64 (x38)), (.int .i64 (x39)), (.int .i64 (x40)), (.int .i64 (x41)), (.int .i64 (x42)), (.int .i64 (x43)), (.int .i64 (x44)), (.int .i64 (x45)), (.int .i64 (x46)), (.int .i64 (x47)), (.int .i64 (x48)), (.int .i64 (x49)), (.int .i64 (x50)), (.int .i64 (x51))])]⟩
theorem qha (k : Nat) (a0 : Int) (a1z : Bool) (a1 : List (Int × Int × Int)) (a2z : Bool) (a2 : List Int) (a3z : Bool) (a3 : List Int) (a4z : Bool) (a4 : List Int) (a5 a6 a7 a8 a9 a10 a11 a12 a13 a14 a15 a16 a17 a18 a19 a20 b0 : Int) (b1z : Bool) (b1 : List (Int × Int × Int)) (b2z : Bool) (b2 : List Int) (b3z : Bool) (b3 : List Int) (b4z : Bool) (b4 : List Int) (b5 b6 b7 b8 b9 b10 b11 b12 b13 b14 b15 b16 b17 b18 b19 b20 c : Int) : go (k + 1) impl_PartAt [(.agg [(.int .i64 (a0)), (.arr false (a1z) (.r3 (a1))), (.arr false (a2z) (.ints .i64 (a2))), (.arr false (a3z) (.ints .i64 (a3))), (.arr false (a4z) (.ints .i64 (a4))), (.int .i64 (a5)), (.int .i64 (a6)), (.int .i64 (a7)), (.int .i64 (a8)), (.int .i64 (a9)), (.int .i64 (a10)), (.int .i64 (a11)), (.int .i64 (a12)), (.int .i64 (a13)), (.int .i64 (a14)), (.int .i64 (a15)), (.int .i64 (a16)), (.int .i64 (a17)), (.int .i64 (a18)), (.int .i64 (a19)), (.int .i64 (a20))]), (.agg [(.int .i64 (b0)), (.arr false (b1z) (.r3 (b1))), (.arr false (b2z) (.ints .i64 (b2))), (.arr false (b3z) (.ints .i64 (b3))), (.arr false (b4z) (.ints .i64 (b4))), (.int .i64 (b5)), (.int .i64 (b6)), (.int .i64 (b7)), (.int .i64 (b8)), (.int .i64 (b9)), (.int .i64 (b10)), (.int .i64 (b11)), (.int .i64 (b12)), (.int .i64 (b13)), (.int .i64 (b14)), (.int .i64 (b15)), (.int .i64 (b16)), (.int .i64 (b17)), (.int .i64 (b18)), (.int .i64 (b19)), (.int .i64 (b20))]), (.int .i64 (c))] =
 (go k impl_WorldOk [(.agg [(.int .i64 (a0)), (.arr false (a1z) (.r3 (a1))), (.arr false (a2z) (.ints .i64 (a2))), (.arr false (a3z) (.ints .i64 (a3))), (.arr false (a4z) (.ints .i64 (a4))), (.int .i64 (a5)), (.int .i64 (a6)), (.int .i64 (a7)), (.int .i64 (a8)), (.int .i64 (a9)), (.int .i64 (a10)), (.int .i64 (a11)), (.int .i64 (a12)), (.int .i64 (a13)), (.int .i64 (a14)), (.int .i64 (a15)), (.int .i64 (a16)), (.int .i64 (a17)), (.int .i64 (a18)), (.int .i64 (a19)), (.int .i64 (a20))])]).bind fun r0 =>
 cond (!bit (nth r0 0))
 (some [(.int .i64 ((-2 : Int)))])
 ((go k impl_WorldOk [(.agg [(.int .i64 (b0)), (.arr false (b1z) (.r3 (b1))), (.arr false (b2z) (.ints .i64 (b2))), (.arr false (b3z) (.ints .i64 (b3))), (.arr false (b4z) (.ints .i64 (b4))), (.int .i64 (b5)), (.int .i64 (b6)), (.int .i64 (b7)), (.int .i64 (b8)), (.int .i64 (b9)), (.int .i64 (b10)), (.int .i64 (b11)), (.int .i64 (b12)), (.int .i64 (b13)), (.int .i64 (b14)), (.int .i64 (b15)), (.int .i64 (b16)), (.int .i64 (b17)), (.int .i64 (b18)), (.int .i64 (b19)), (.int .i64 (b20))])]).bind fun r1 =>
 cond (!bit (nth r1 0))
 (some [(.int .i64 ((-2 : Int)))])
 ((go k impl_within [(.int .i64 (c)), (.int .i64 (0 : Int)), (.int .i64 ((100 : Int)))]).bind fun r2 =>
 cond (!bit (nth r2 0))
 (some [(.int .i64 ((-2 : Int)))])
 (lp k impl_PartAt [] [] 4 k (qru (IntKind.wrap .i64 (c + (1 : Int))) (0 : Int) a1z a1 a2z a2 a3z a3 a4z a4 a0 a5 a6 a7 a8 a9 a10 a11 a12 a13 a14 a15 a16 a17 a18 a19 a20 b1z b1 b2z b2 b3z b3 b4z b4 b0 b5 b6 b7 b8 b9 b10 b11 b12 b13 b14 b15 b16 b17 b18 b19 b20)))) := by kernel_rfl
theorem ql0 (k n : Nat) (fu : List (Nat × Nat)) (x0 x1 : Int) (z2 : Bool) (l3 : List (Int × Int × Int)) (z4 : Bool) (l5 : List Int) (z6 : Bool) (l7 : List Int) (z8 : Bool) (l9 : List Int) (x10 x11 x12 x13 x14 x15 x16 x17 x18 x19 x20 x21 x22 x23 x24 x25 x26 : Int) (z27 : Bool) (l28 : List (Int × Int × Int)) (z29 : Bool) (l30 : List Int) (z31 : Bool) (l32 : List Int) (z33 : Bool) (l34 : List Int) (x35 x36 x37 x38 x39 x40 x41 x42 x43 x44 x45 x46 x47 x48 x49 x50 x51 : Int) : lp k impl_PartAt [] fu 4 (n + 1) (qru x0 x1 z2 l3 z4 l5 z6 l7 z8 l9 x10 x11 x12 x13 x14 x15 x16 x17 x18 x19 x20 x21 x22 x23 x24 x25 x26 z27 l28 z29 l30 z31 l32 z33 l34 x35 x36 x37 x38 x39 x40 x41 x42 x43 x44 x45 x46 x47 x48 x49 x50 x51) =
 cond (decide (x1 < x0))
 ((go k impl_SameState [(.agg [(.int .i64 (x10)), (.arr false (z2) (.r3 (l3))), (.arr false (z4) (.ints .i64 (l5))), (.arr false (z6) (.ints .i64 (l7))), (.arr false (z8) (.ints .i64 (l9)))]), (.agg [(.int .i64 (x35)), (.arr false (z27) (.r3 (l28))), (.arr false (z29) (.ints .i64 (l30))), (.arr false (z31) (.ints .i64 (l32))), (.arr false (z33) (.ints .i64 (l34)))])]).bind fun r0 =>
 cond (!bit (nth r0 0))
 (some [(.int .i64 (x1))])
 ((go k impl_Advance [(.agg [(.int .i64 (x10)), (.arr false (z2) (.r3 (l3))), (.arr false (z4) (.ints .i64 (l5))), (.arr false (z6) (.ints .i64 (l7))), (.arr false (z8) (.ints .i64 (l9))), (.int .i64 (x11)), (.int .i64 (x12)), (.int .i64 (x13)), (.int .i64 (x14)), (.int .i64 (x15)), (.int .i64 (x16)), (.int .i64 (x17)), (.int .i64 (x18)), (.int .i64 (x19)), (.int .i64 (x20)), (.int .i64 (x21)), (.int .i64 (x22)), (.int .i64 (x23)), (.int .i64 (x24)), (.int .i64 (x25)), (.int .i64 (x26))]), (.int .i64 ((1 : Int)))]).bind fun r1 =>
 (go k impl_Advance [(.agg [(.int .i64 (x35)), (.arr false (z27) (.r3 (l28))), (.arr false (z29) (.ints .i64 (l30))), (.arr false (z31) (.ints .i64 (l32))), (.arr false (z33) (.ints .i64 (l34))), (.int .i64 (x36)), (.int .i64 (x37)), (.int .i64 (x38)), (.int .i64 (x39)), (.int .i64 (x40)), (.int .i64 (x41)), (.int .i64 (x42)), (.int .i64 (x43)), (.int .i64 (x44)), (.int .i64 (x45)), (.int .i64 (x46)), (.int .i64 (x47)), (.int .i64 (x48)), (.int .i64 (x49)), (.int .i64 (x50)), (.int .i64 (x51))]), (.int .i64 ((1 : Int)))]).bind fun r2 =>
 lp k impl_PartAt [] fu 4 n (qrv x0 (IntKind.wrap .i64 (x1 + (1 : Int))) (D.nil (D.cell 1 (nth r1 0))) (D.r3 (D.cell 1 (nth r1 0))) (D.nil (D.cell 2 (nth r1 0))) (D.ints (D.cell 2 (nth r1 0))) (D.nil (D.cell 3 (nth r1 0))) (D.ints (D.cell 3 (nth r1 0))) (D.nil (D.cell 4 (nth r1 0))) (D.ints (D.cell 4 (nth r1 0))) (D.toInt (D.cell 0 (nth r1 0))) (D.toInt (D.cell 5 (nth r1 0))) (D.toInt (D.cell 6 (nth r1 0))) (D.toInt (D.cell 7 (nth r1 0))) (D.toInt (D.cell 8 (nth r1 0))) (D.toInt (D.cell 9 (nth r1 0))) (D.toInt (D.cell 10 (nth r1 0))) (D.toInt (D.cell 11 (nth r1 0))) (D.toInt (D.cell (12 : Nat) (nth r1 0))) (D.toInt (D.cell (13 : Nat) (nth r1 0))) (D.toInt (D.cell (14 : Nat) (nth r1 0))) (D.toInt (D.cell (15 : Nat) (nth r1 0))) (D.toInt (D.cell (16 : Nat) (nth r1 0))) (D.toInt (D.cell (17 : Nat) (nth r1 0))) (D.toInt (D.cell (18 : Nat) (nth r1 0))) (D.toInt (D.cell (19 : Nat) (nth r1 0))) (D.toInt (D.cell (20 : Nat) (nth r1 0))) (D.nil (D.cell 1 (nth r2 0))) (D.r3 (D.cell 1 (nth r2 0))) (D.nil (D.cell 2 (nth r2 0))) (D.ints (D.cell 2 (nth r2 0))) (D.nil (D.cell 3 (nth r2 0))) (D.ints (D.cell 3 (nth r2 0))) (D.nil (D.cell 4 (nth r2 0))) (D.ints (D.cell 4 (nth r2 0))) (D.toInt (D.cell 0 (nth r2 0))) (D.toInt (D.cell 5 (nth r2 0))) (D.toInt (D.cell 6 (nth r2 0))) (D.toInt (D.cell 7 (nth r2 0))) (D.toInt (D.cell 8 (nth r2 0))) (D.toInt (D.cell 9 (nth r2 0))) (D.toInt (D.cell 10 (nth r2 0))) (D.toInt (D.cell 11 (nth r2 0))) (D.toInt (D.cell (12 : Nat) (nth r2 0))) (D.toInt (D.cell (13 : Nat) (nth r2 0))) (D.toInt (D.cell (14 : Nat) (nth r2 0))) (D.toInt (D.cell (15 : Nat) (nth r2 0))) (D.toInt (D.cell (16 : Nat) (nth r2 0))) (D.toInt (D.cell (17 : Nat) (nth r2 0))) (D.toInt (D.cell (18 : Nat) (nth r2 0))) (D.toInt (D.cell (19 : Nat) (nth r2 0))) (D.toInt (D.cell (20 : Nat) (nth r2 0))))))
 (some [(.int .i64 ((-1 : Int)))]) := by kernel_rfl
theorem ql1 (k n : Nat) (fu : List (Nat × Nat)) (x0 x1 : Int) (z2 : Bool) (l3 : List (Int × Int × Int)) (z4 : Bool) (l5 : List Int) (z6 : Bool) (l7 : List Int) (z8 : Bool) (l9 : List Int) (x10 x11 x12 x13 x14 x15 x16 x17 x18 x19 x20 x21 x22 x23 x24 x25 x26 : Int) (z27 : Bool) (l28 : List (Int × Int × Int)) (z29 : Bool) (l30 : List Int) (z31 : Bool) (l32 : List Int) (z33 : Bool) (l34 : List Int) (x35 x36 x37 x38 x39 x40 x41 x42 x43 x44 x45 x46 x47 x48 x49 x50 x51 : Int) : lp k impl_PartAt [] fu 4 (n + 1) (qrv x0 x1 z2 l3 z4 l5 z6 l7 z8 l9 x10 x11 x12 x13 x14 x15 x16 x17 x18 x19 x20 x21 x22 x23 x24 x25 x26 z27 l28 z29 l30 z31 l32 z33 l34 x35 x36 x37 x38 x39 x40 x41 x42 x43 x44 x45 x46 x47 x48 x49 x50 x51) =
 cond (decide (x1 < x0))
 ((go k impl_SameState [(.agg [(.int .i64 (x10)), (.arr false (z2) (.r3 (l3))), (.arr false (z4) (.ints .i64 (l5))), (.arr false (z6) (.ints .i64 (l7))), (.arr false (z8) (.ints .i64 (l9)))]), (.agg [(.int .i64 (x35)), (.arr false (z27) (.r3 (l28))), (.arr false (z29) (.ints .i64 (l30))), (.arr false (z31) (.ints .i64 (l32))), (.arr false (z33) (.ints .i64 (l34)))])]).bind fun r0 =>
 cond (!bit (nth r0 0))
 (some [(.int .i64 (x1))])
 ((go k impl_Advance [(.agg [(.int .i64 (x10)), (.arr false (z2) (.r3 (l3))), (.arr false (z4) (.ints .i64 (l5))), (.arr false (z6) (.ints .i64 (l7))), (.arr false (z8) (.ints .i64 (l9))), (.int .i64 (x11)), (.int .i64 (x12)), (.int .i64 (x13)), (.int .i64 (x14)), (.int .i64 (x15)), (.int .i64 (x16)), (.int .i64 (x17)), (.int .i64 (x18)), (.int .i64 (x19)), (.int .i64 (x20)), (.int .i64 (x21)), (.int .i64 (x22)), (.int .i64 (x23)), (.int .i64 (x24)), (.int .i64 (x25)), (.int .i64 (x26))]), (.int .i64 ((1 : Int)))]).bind fun r1 =>
 (go k impl_Advance [(.agg [(.int .i64 (x35)), (.arr false (z27) (.r3 (l28))), (.arr false (z29) (.ints .i64 (l30))), (.arr false (z31) (.ints .i64 (l32))), (.arr false (z33) (.ints .i64 (l34))), (.int .i64 (x36)), (.int .i64 (x37)), (.int .i64 (x38)), (.int .i64 (x39)), (.int .i64 (x40)), (.int .i64 (x41)), (.int .i64 (x42)), (.int .i64 (x43)), (.int .i64 (x44)), (.int .i64 (x45)), (.int .i64 (x46)), (.int .i64 (x47)), (.int .i64 (x48)), (.int .i64 (x49)), (.int .i64 (x50)), (.int .i64 (x51))]), (.int .i64 ((1 : Int)))]).bind fun r2 =>
 lp k impl_PartAt [] fu 4 n (qrv x0 (IntKind.wrap .i64 (x1 + (1 : Int))) (D.nil (D.cell 1 (nth r1 0))) (D.r3 (D.cell 1 (nth r1 0))) (D.nil (D.cell 2 (nth r1 0))) (D.ints (D.cell 2 (nth r1 0))) (D.nil (D.cell 3 (nth r1 0))) (D.ints (D.cell 3 (nth r1 0))) (D.nil (D.cell 4 (nth r1 0))) (D.ints (D.cell 4 (nth r1 0))) (D.toInt (D.cell 0 (nth r1 0))) (D.toInt (D.cell 5 (nth r1 0))) (D.toInt (D.cell 6 (nth r1 0))) (D.toInt (D.cell 7 (nth r1 0))) (D.toInt (D.cell 8 (nth r1 0))) (D.toInt (D.cell 9 (nth r1 0))) (D.toInt (D.cell 10 (nth r1 0))) (D.toInt (D.cell 11 (nth r1 0))) (D.toInt (D.cell (12 : Nat) (nth r1 0))) (D.toInt (D.cell (13 : Nat) (nth r1 0))) (D.toInt (D.cell (14 : Nat) (nth r1 0))) (D.toInt (D.cell (15 : Nat) (nth r1 0))) (D.toInt (D.cell (16 : Nat) (nth r1 0))) (D.toInt (D.cell (17 : Nat) (nth r1 0))) (D.toInt (D.cell (18 : Nat) (nth r1 0))) (D.toInt (D.cell (19 : Nat) (nth r1 0))) (D.toInt (D.cell (20 : Nat) (nth r1 0))) (D.nil (D.cell 1 (nth r2 0))) (D.r3 (D.cell 1 (nth r2 0))) (D.nil (D.cell 2 (nth r2 0))) (D.ints (D.cell 2 (nth r2 0))) (D.nil (D.cell 3 (nth r2 0))) (D.ints (D.cell 3 (nth r2 0))) (D.nil (D.cell 4 (nth r2 0))) (D.ints (D.cell 4 (nth r2 0))) (D.toInt (D.cell 0 (nth r2 0))) (D.toInt (D.cell 5 (nth r2 0))) (D.toInt (D.cell 6 (nth r2 0))) (D.toInt (D.cell 7 (nth r2 0))) (D.toInt (D.cell 8 (nth r2 0))) (D.toInt (D.cell 9 (nth r2 0))) (D.toInt (D.cell 10 (nth r2 0))) (D.toInt (D.cell 11 (nth r2 0))) (D.toInt (D.cell (12 : Nat) (nth r2 0))) (D.toInt (D.cell (13 : Nat) (nth r2 0))) (D.toInt (D.cell (14 : Nat) (nth r2 0))) (D.toInt (D.cell (15 : Nat) (nth r2 0))) (D.toInt (D.cell (16 : Nat) (nth r2 0))) (D.toInt (D.cell (17 : Nat) (nth r2 0))) (D.toInt (D.cell (18 : Nat) (nth r2 0))) (D.toInt (D.cell (19 : Nat) (nth r2 0))) (D.toInt (D.cell (20 : Nat) (nth r2 0))))))
 (some [(.int .i64 ((-1 : Int)))]) := by kernel_rfl

end Go.Proofs.YtoldpdhhfmlckaaGreat
end
section
namespace Go.Proofs.YtoldpdhhfmlckaaGreat
open Go.Ev
set_option maxRecDepth 20000
def qgn (w : Wd) (p m h : Int) : Bool := qgk w.r w.s.1 w.s.2.1 w.s.2.2 w.b w.p.bi w.p.bs w.p.bo w.p.rain w.p.loss w.p.dec w.p.high w.p.low w.p.every w.k w.ld.mi w.ld.mo w.ld.ti w.ld.ou w.f w.g p m h
def drp1 (w : Wd) (p m h : Int) : Wd := { w with s := (w.s.1, w.s.2.1.set (qnb w.r w.s.1 p).toNat (w.s.2.1.getD (qnb w.r w.s.1 p).toNat 0 + m), w.s.2.2.set (qnb w.r w.s.1 p).toNat (w.s.2.2.getD (qnb w.r w.s.1 p).toNat 0 + m * h)), ld := { w.ld with mi := w.ld.mi + m, ti := w.ld.ti + m * h } }
def drp (w : Wd) (p m h : Int) : Wd := cond (qgn w p m h) (drp1 w p m h) w
theorem qdq (k : Nat) (hk : 2000000 ≤ k) (w : Wd) (p m h : Int) (S : Sml w) : go (k + 9) spec_Drop [wdR w, .int .i64 p, .int .i64 m, .int .i64 h] = some [wdO (drp w p m h), .bool (qgn w p m h)] := by
  have e := qdp k hk w.r false w.s.1 false w.s.2.1 false w.s.2.2 false w.b w.p.bi w.p.bs w.p.bo w.p.rain w.p.loss w.p.dec w.p.high w.p.low w.p.every w.k w.ld.mi w.ld.mo w.ld.ti w.ld.ou w.f w.g p m h S.h1 S.h2 S.h3 S.h4
  refine e.trans ?_
  unfold drp
  cases g : qgn w p m h
  · unfold qgn at g; rw [g]; rfl
  · unfold qgn at g; rw [g]; rfl
end Go.Proofs.YtoldpdhhfmlckaaGreat
end
section
namespace Go.Proofs.YtoldpdhhfmlckaaGreat
open Go.Ev
set_option maxRecDepth 20000
theorem qaz {w : Wd} (h : Sml w) (n : Int) : Sml (adv w n) := by
  unfold adv
  cases g : qax w n
  · exact h
  · simp only [qax, Bool.and_eq_true] at g
    exact ((qau n.toNat w 0 (wdF g.1).adv).F).sml
def samW (a b : Wd) : Bool := qs8 a.r b.r a.s.1 b.s.1 a.s.2.1 a.s.2.2 a.b b.s.2.1 b.s.2.2 b.b
def prtN : Nat → Int → Wd → Wd → Int
  | 0, i, a, b => -1
  | n + 1, i, a, b => cond (samW a b) (prtN n (i + 1) (adv a 1) (adv b 1)) i
set_option maxHeartbeats 2000000 in
theorem qn0 (k : Nat) (hk : 2000000 ≤ k) (fu : List (Nat × Nat)) (c : Int) (hc : 0 ≤ c ∧ c ≤ 100) : ∀ (N n i : Nat) (a b : Wd), (i : Int) + n = c + 1 → n < N → Sml a → Sml b →
    lp (k + 12) impl_PartAt [] fu 4 (N) (qrv (c + 1) (i : Int) false a.s.1 false a.s.2.1 false a.s.2.2 false a.b a.r a.p.bi a.p.bs a.p.bo a.p.rain a.p.loss a.p.dec a.p.high a.p.low a.p.every a.k a.ld.mi a.ld.mo a.ld.ti a.ld.ou a.f a.g false b.s.1 false b.s.2.1 false b.s.2.2 false b.b b.r b.p.bi b.p.bs b.p.bo b.p.rain b.p.loss b.p.dec b.p.high b.p.low b.p.every b.k b.ld.mi b.ld.mo b.ld.ti b.ld.ou b.f b.g) = some [.int .i64 (prtN n i a b)]
  | 0, n, i, a, b, hi, hN, S, T => by omega
  | N + 1, 0, i, a, b, hi, hN, S, T => by
    rw [ql1]
    simp (disch := omega) only [dF, bit, qfg, qvt, qga]; rfl
  | N + 1, n + 1, i, a, b, hi, hN, S, T => by
    rw [ql1]
    have eS := qbv (k + 9) (by omega) a.r false a.s.1 false a.s.2.1 false a.s.2.2 false a.b b.r false b.s.1 false b.s.2.1 false b.s.2.2 false b.b S.h1 S.h2 S.h3 S.h4
    rw [show qs8 a.r b.r a.s.1 b.s.1 a.s.2.1 a.s.2.2 a.b b.s.2.1 b.s.2.2 b.b = samW a b from rfl] at eS
    unfold prtN
    cases g : samW a b
    · rw [g] at eS
      simp (disch := omega) only [dT, eS, bit, qfg, qvt, qa6, nth0, qu1, Bool.not_false, qgc, qga]
    rw [g] at eS
    have eA := qbg k (by omega) a 1 S
    have eB := qbg k (by omega) b 1 T
    have IH := qn0 k hk fu c hc N n (i + 1) (adv a 1) (adv b 1) (by omega) (by omega) (qaz S 1) (qaz T 1)
    rw [show ((i + 1 : Nat) : Int) = (i : Int) + 1 from rfl] at IH
    simp (disch := omega) only [dT, eS, bit, eA, eB, qfg, qvt, qa6, nth0, qfj, qp3, qqu, qfu, qlg, qfw, qfx, qfi, qu2, qfy, qfz, qf0, qf1, qf2, qfk, qfl, qfm, qfn, qfo, qfp, qfq, qfr, qfs, qft, qfv, qu1, Bool.not_true, qga, qgc]
    exact IH
theorem qbs (k : Nat) (hk : 2000000 ≤ k) (a b : Wd) (c : Int) (S : Sml a) (T : Sml b) : go (k + 13) impl_PartAt [wdR a, wdR b, .int .i64 c] = some [.int .i64 (cond (wdOk a && (wdOk b && inR c 0 100)) (prtN (c.toNat + 1) 0 a b) (-2))] := by
  rw [qha]
  have eO := qb3 (k + 3) (by omega) a S
  have eP := qb3 (k + 3) (by omega) b T
  cases g : wdOk a
  · rw [g] at eO; simp (disch := omega) only [eO, bit, qa6, nth0, qu1, Bool.not_false, qgc, Bool.false_and, qga]
  rw [g] at eO
  cases g2 : wdOk b
  · rw [g2] at eP; simp (disch := omega) only [eO, bit, eP, qa6, nth0, qu1, Bool.not_false, qgc, Bool.not_true, qga, Bool.false_and, Bool.and_false]
  rw [g2] at eP
  cases g3 : inR c 0 100
  · simp (disch := omega) only [eO, bit, eP, qc8, g3, qa6, nth0, qu1, Bool.not_false, qgc, Bool.not_true, qga, Bool.and_false]
  have bc := qle.1 g3
  simp (disch := omega) only [eO, bit, eP, qc8, g3, qvt, qa6, nth0, qu1, Bool.not_true, qga, Bool.and_true, qgc]
  have e := ql0 (k + 12) (k + 12 - 1) [] (c + 1) 0 false a.s.1 false a.s.2.1 false a.s.2.2 false a.b a.r a.p.bi a.p.bs a.p.bo a.p.rain a.p.loss a.p.dec a.p.high a.p.low a.p.every a.k a.ld.mi a.ld.mo a.ld.ti a.ld.ou a.f a.g false b.s.1 false b.s.2.1 false b.s.2.2 false b.b b.r b.p.bi b.p.bs b.p.bo b.p.rain b.p.loss b.p.dec b.p.high b.p.low b.p.every b.k b.ld.mi b.ld.mo b.ld.ti b.ld.ou b.f b.g
  rw [show k + 12 - 1 + 1 = k + 12 by omega] at e
  refine e.trans ?_
  have eS := qbv (k + 9) (by omega) a.r false a.s.1 false a.s.2.1 false a.s.2.2 false a.b b.r false b.s.1 false b.s.2.1 false b.s.2.2 false b.b S.h1 S.h2 S.h3 S.h4
  rw [show qs8 a.r b.r a.s.1 b.s.1 a.s.2.1 a.s.2.2 a.b b.s.2.1 b.s.2.2 b.b = samW a b from rfl] at eS
  unfold prtN
  cases q : samW a b
  · rw [q] at eS
    simp (disch := omega) only [dT, eS, bit, qvt, qa6, nth0, qu1, Bool.not_false, qgc, qga]
  rw [q] at eS
  have eA := qbg k (by omega) a 1 S
  have eB := qbg k (by omega) b 1 T
  have IH := qn0 k hk [] c bc (k + 12 - 1) c.toNat 1 (adv a 1) (adv b 1) (by omega) (by omega) (qaz S 1) (qaz T 1)
  rw [show ((1 : Nat) : Int) = 0 + 1 from rfl] at IH
  simp (disch := omega) only [dT, eS, bit, eA, eB, qvt, qa6, nth0, qfj, qp3, qqu, qfu, qlg, qfw, qfx, qfi, qu2, qfy, qfz, qf0, qf1, qf2, qfk, qfl, qfm, qfn, qfo, qfp, qfq, qfr, qfs, qft, qfv, qu1, Bool.not_true, qga, qgc]
  exact IH
end Go.Proofs.YtoldpdhhfmlckaaGreat
end
section
namespace Go.Proofs.YtoldpdhhfmlckaaGreat
open Go.Ev
theorem qik (k : Nat) (az : Bool) (a : List Int) : go (k + 1) laws_big [(.arr false (az) (.ints IntKind.u8 (a)))] =
 some [(.bool (decide ((1048576 : Int) < nI (List.length a))))] := by kernel_rfl
theorem qkh (k : Nat) (v0 : Bool) (v1 : List Int) (v2 v3 : Int) : go (k + 1) spec_l18Plan [(.ptr true [(.arr false (v0) (.ints IntKind.u8 (v1))), (.int .i64 (v2)), (.int .i64 (v3))])] =
 (go k spec_l13Border [(.ptr true [(.arr false (v0) (.ints IntKind.u8 (v1))), (.int .i64 (v2)), (.int .i64 (v3))])]).bind fun r0 =>
 (go k spec_l01Below [(.ptr true [(.arr false (v0) (.ints IntKind.u8 (v1))), (.int .i64 (D.toInt (D.cell 1 (nth r0 1)))), (.int .i64 (D.toInt (D.cell 2 (nth r0 1))))]), (.int .i64 ((2 : Int)))]).bind fun r1 =>
 (go k spec_l01Below [(.ptr true [(.arr false (v0) (.ints IntKind.u8 (v1))), (.int .i64 (D.toInt (D.cell 1 (nth r1 1)))), (.int .i64 (D.toInt (D.cell 2 (nth r1 1))))]), (.int .i64 ((900 : Int)))]).bind fun r2 =>
 (go k spec_l01Below [(.ptr true [(.arr false (v0) (.ints IntKind.u8 (v1))), (.int .i64 (D.toInt (D.cell 1 (nth r2 1)))), (.int .i64 (D.toInt (D.cell 2 (nth r2 1))))]), (.int .i64 ((2 : Int)))]).bind fun r3 =>
 (go k spec_l01Below [(.ptr true [(.arr false (v0) (.ints IntKind.u8 (v1))), (.int .i64 (D.toInt (D.cell 1 (nth r3 1)))), (.int .i64 (D.toInt (D.cell 2 (nth r3 1))))]), (.int .i64 ((400 : Int)))]).bind fun r4 =>
 (go k spec_l01Below [(.ptr true [(.arr false (v0) (.ints IntKind.u8 (v1))), (.int .i64 (D.toInt (D.cell 1 (nth r4 1)))), (.int .i64 (D.toInt (D.cell 2 (nth r4 1))))]), (.int .i64 ((2 : Int)))]).bind fun r5 =>
 (go k spec_l01Below [(.ptr true [(.arr false (v0) (.ints IntKind.u8 (v1))), (.int .i64 (D.toInt (D.cell 1 (nth r5 1)))), (.int .i64 (D.toInt (D.cell 2 (nth r5 1))))]), (.int .i64 ((200 : Int)))]).bind fun r6 =>
 (go k spec_l01Below [(.ptr true [(.arr false (v0) (.ints IntKind.u8 (v1))), (.int .i64 (D.toInt (D.cell 1 (nth r6 1)))), (.int .i64 (D.toInt (D.cell 2 (nth r6 1))))]), (.int .i64 ((4000 : Int)))]).bind fun r7 =>
 (go k spec_l01Below [(.ptr true [(.arr false (v0) (.ints IntKind.u8 (v1))), (.int .i64 (D.toInt (D.cell 1 (nth r7 1)))), (.int .i64 (D.toInt (D.cell 2 (nth r7 1))))]), (.int .i64 ((300 : Int)))]).bind fun r8 =>
 (go k spec_l01Below [(.ptr true [(.arr false (v0) (.ints IntKind.u8 (v1))), (.int .i64 (D.toInt (D.cell 1 (nth r8 1)))), (.int .i64 (D.toInt (D.cell 2 (nth r8 1))))]), (.int .i64 ((3 : Int)))]).bind fun r9 =>
 some [(.agg [(.int .i64 (D.toInt (D.cell 0 (nth r0 0)))), (.int .i64 (D.toInt (D.cell 1 (nth r0 0)))), (.int .i64 (D.toInt (D.cell 2 (nth r0 0)))), (.int .i64 (IntKind.wrap .i64 (D.toInt (nth r1 0) * D.toInt (nth r2 0)))), (.int .i64 (IntKind.wrap .i64 (D.toInt (nth r3 0) * D.toInt (nth r4 0)))), (.int .i64 (IntKind.wrap .i64 (D.toInt (nth r5 0) * D.toInt (nth r6 0)))), (.int .i64 (IntKind.wrap .i64 ((200 : Int) + D.toInt (nth r7 0)))), (.int .i64 (D.toInt (nth r8 0))), (.int .i64 (D.toInt (nth r9 0)))]), (.ptr true [(.arr false (v0) (.ints IntKind.u8 (v1))), (.int .i64 (D.toInt (D.cell 1 (nth r9 1)))), (.int .i64 (D.toInt (D.cell 2 (nth r9 1))))])] := by kernel_rfl
theorem qj8 (k : Nat) (v0 : Bool) (v1 : List Int) (v2 v3 : Int) : go (k + 1) spec_l13Border [(.ptr true [(.arr false (v0) (.ints IntKind.u8 (v1))), (.int .i64 (v2)), (.int .i64 (v3))])] =
 (go k spec_l01Below [(.ptr true [(.arr false (v0) (.ints IntKind.u8 (v1))), (.int .i64 (v2)), (.int .i64 (v3))]), (.int .i64 ((2 : Int)))]).bind fun r0 =>
 (go k spec_l01Below [(.ptr true [(.arr false (v0) (.ints IntKind.u8 (v1))), (.int .i64 (D.toInt (D.cell 1 (nth r0 1)))), (.int .i64 (D.toInt (D.cell 2 (nth r0 1))))]), (.int .i64 ((3000 : Int)))]).bind fun r1 =>
 (go k spec_l01Below [(.ptr true [(.arr false (v0) (.ints IntKind.u8 (v1))), (.int .i64 (D.toInt (D.cell 1 (nth r1 1)))), (.int .i64 (D.toInt (D.cell 2 (nth r1 1))))]), (.int .i64 ((1001 : Int)))]).bind fun r2 =>
 (go k spec_l01Below [(.ptr true [(.arr false (v0) (.ints IntKind.u8 (v1))), (.int .i64 (D.toInt (D.cell 1 (nth r2 1)))), (.int .i64 (D.toInt (D.cell 2 (nth r2 1))))]), (.int .i64 ((2 : Int)))]).bind fun r3 =>
 (go k spec_l01Below [(.ptr true [(.arr false (v0) (.ints IntKind.u8 (v1))), (.int .i64 (D.toInt (D.cell 1 (nth r3 1)))), (.int .i64 (D.toInt (D.cell 2 (nth r3 1))))]), (.int .i64 ((251 : Int)))]).bind fun r4 =>
 some [(.agg [(.int .i64 (IntKind.wrap .i64 (D.toInt (nth r0 0) * D.toInt (nth r1 0)))), (.int .i64 (D.toInt (nth r2 0))), (.int .i64 (IntKind.wrap .i64 (D.toInt (nth r3 0) * D.toInt (nth r4 0))))]), (.ptr true [(.arr false (v0) (.ints IntKind.u8 (v1))), (.int .i64 (D.toInt (D.cell 1 (nth r4 1)))), (.int .i64 (D.toInt (D.cell 2 (nth r4 1))))])] := by kernel_rfl
def qs4 (x0 : Int) (z1 : Bool) (l2 : List Int) (x3 x4 : Int) (z5 : Bool) (l6 : List (Int × Int × Int)) (z7 : Bool) (l8 : List Int) (z9 : Bool) (l10 : List Int) (z11 : Bool) (l12 : List Int) (x13 x14 x15 x16 x17 x18 x19 x20 x21 x22 x23 x24 x25 x26 x27 x28 x29 : Int) (z30 : Bool) (l31 : List (Int × Int × Int)) (z32 : Bool) (l33 : List Int) (z34 : Bool) (l35 : List Int) (z36 : Bool) (l37 : List Int) (x38 x39 x40 x41 x42 x43 x44 x45 x46 x47 x48 x49 x50 x51 x52 x53 x54 : Int) : St := ⟨fill 38 [(0, (.ptr 1 (0) (0))), (2, (.ptr 6 (0) (0))), (3, (.ptr 11 (0) (0))), (5, (.int .i64 (x0)))], [(.ptr 1 (0) (0)), (.sl 0 none)], [(.arr false (z1) (.ints IntKind.u8 (l2))), (.box true [(.sl 0 none), (.int .i64 (x3)), (.int .i64 (x4))]), (.arr true (z5) (.r3 (l6))), (.arr true (z7) (.ints .i64 (l8))), (.arr true (z9) (.ints .i64 (l10))), (.arr true (z11) (.ints .i64 (l12))), (.box true [(.int .i64 (x13)), (.sl 2 none), (.sl 3 none), (.sl 4 none), (.sl 5 none), (.int .i64 (x14)), (.int .i64 (x15)), (.int .i64 (x16)), (.int .i64 (x17)), (.int .i64 (x18)), (.int .i64 (x19)), (.int .i64 (x20)), (.int .i64 (x21)), (.int .i64 (x22)), (.int .i64 (x23)), (.int .i64 (x24)), (.int .i64 (x25)), (.int .i64 (x26)), (.int .i64 (x27)), (.int .i64 (x28)), (.int .i64 (x29))]), (.arr true (z30) (.r3 (l31))), (.arr true (z32) (.ints .i64 (l33))), (.arr true (z34) (.ints .i64 (l35))), (.arr true (z36) (.ints .i64 (l37))), (.box true [(.int .i64 (x38)), (.sl 7 none), (.sl 8 none), (.sl 9 none), (.sl 10 none), (.int .i64 (x39)), (.int .i64 (x40)), (.int .i64 (x41)), (.int .i64 (x42)), (.int .i64 (x43)), (.int .i64 (x44)), (.int .i64 (x45)), (.int .i64 (x46)), (.int .i64 (x47)), (.int .i64 (x48)), (.int .i64 (x49)), (.int .i64 (x50)), (.int .i64 (x51)), (.int .i64 (x52)), (.int .i64 (x53)), (.int .i64 (x54))])]⟩
theorem qkk (k : Nat) (v0 : Bool) (v1 : List Int) (v2 v3 : Int) : go (k + 1) spec_l36World [(.ptr true [(.arr false (v0) (.ints IntKind.u8 (v1))), (.int .i64 (v2)), (.int .i64 (v3))])] =
 (go k spec_l07State [(.ptr true [(.arr false (v0) (.ints IntKind.u8 (v1))), (.int .i64 (v2)), (.int .i64 (v3))])]).bind fun r0 =>
 (go k spec_l18Plan [(.ptr true [(.arr false (v0) (.ints IntKind.u8 (v1))), (.int .i64 (D.toInt (D.cell 1 (nth r0 1)))), (.int .i64 (D.toInt (D.cell 2 (nth r0 1))))])]).bind fun r1 =>
 (go k spec_WorldNew [(.agg [(.int .i64 (D.toInt (D.cell 0 (nth r0 0)))), (.arr false (D.nil (D.cell 1 (nth r0 0))) (.r3 (D.r3 (D.cell 1 (nth r0 0))))), (.arr false (D.nil (D.cell 2 (nth r0 0))) (.ints .i64 (D.ints (D.cell 2 (nth r0 0))))), (.arr false (D.nil (D.cell 3 (nth r0 0))) (.ints .i64 (D.ints (D.cell 3 (nth r0 0))))), (.arr false (D.nil (D.cell 4 (nth r0 0))) (.ints .i64 (D.ints (D.cell 4 (nth r0 0)))))]), (.agg [(.int .i64 (D.toInt (D.cell 0 (nth r1 0)))), (.int .i64 (D.toInt (D.cell 1 (nth r1 0)))), (.int .i64 (D.toInt (D.cell 2 (nth r1 0)))), (.int .i64 (D.toInt (D.cell 3 (nth r1 0)))), (.int .i64 (D.toInt (D.cell 4 (nth r1 0)))), (.int .i64 (D.toInt (D.cell 5 (nth r1 0)))), (.int .i64 (D.toInt (D.cell 6 (nth r1 0)))), (.int .i64 (D.toInt (D.cell 7 (nth r1 0)))), (.int .i64 (D.toInt (D.cell 8 (nth r1 0))))])]).bind fun r2 =>
 lp k spec_l36World [(.ptr true [(.arr false (v0) (.ints IntKind.u8 (v1))), (.int .i64 (v2)), (.int .i64 (v3))])] [] 3 k (qs4 (0 : Int) v0 v1 (D.toInt (D.cell 1 (nth r1 1))) (D.toInt (D.cell 2 (nth r1 1))) true ([]) true ([]) true ([]) true ([]) (0 : Int) (0 : Int) (0 : Int) (0 : Int) (0 : Int) (0 : Int) (0 : Int) (0 : Int) (0 : Int) (0 : Int) (0 : Int) (0 : Int) (0 : Int) (0 : Int) (0 : Int) (0 : Int) (0 : Int) (D.nil (D.cell 1 (nth r2 0))) (D.r3 (D.cell 1 (nth r2 0))) (D.nil (D.cell 2 (nth r2 0))) (D.ints (D.cell 2 (nth r2 0))) (D.nil (D.cell 3 (nth r2 0))) (D.ints (D.cell 3 (nth r2 0))) (D.nil (D.cell 4 (nth r2 0))) (D.ints (D.cell 4 (nth r2 0))) (D.toInt (D.cell 0 (nth r2 0))) (D.toInt (D.cell 5 (nth r2 0))) (D.toInt (D.cell 6 (nth r2 0))) (D.toInt (D.cell 7 (nth r2 0))) (D.toInt (D.cell 8 (nth r2 0))) (D.toInt (D.cell 9 (nth r2 0))) (D.toInt (D.cell 10 (nth r2 0))) (D.toInt (D.cell 11 (nth r2 0))) (D.toInt (D.cell (12 : Nat) (nth r2 0))) (D.toInt (D.cell (13 : Nat) (nth r2 0))) (D.toInt (D.cell (14 : Nat) (nth r2 0))) (D.toInt (D.cell (15 : Nat) (nth r2 0))) (D.toInt (D.cell (16 : Nat) (nth r2 0))) (D.toInt (D.cell (17 : Nat) (nth r2 0))) (D.toInt (D.cell (18 : Nat) (nth r2 0))) (D.toInt (D.cell (19 : Nat) (nth r2 0))) (D.toInt (D.cell (20 : Nat) (nth r2 0)))) := by kernel_rfl
theorem qna (k n : Nat) (fu : List (Nat × Nat)) (v0 : Bool) (v1 : List Int) (v2 v3 x0 : Int) (z1 : Bool) (l2 : List Int) (x3 x4 : Int) (z5 : Bool) (l6 : List (Int × Int × Int)) (z7 : Bool) (l8 : List Int) (z9 : Bool) (l10 : List Int) (z11 : Bool) (l12 : List Int) (x13 x14 x15 x16 x17 x18 x19 x20 x21 x22 x23 x24 x25 x26 x27 x28 x29 : Int) (z30 : Bool) (l31 : List (Int × Int × Int)) (z32 : Bool) (l33 : List Int) (z34 : Bool) (l35 : List Int) (z36 : Bool) (l37 : List Int) (x38 x39 x40 x41 x42 x43 x44 x45 x46 x47 x48 x49 x50 x51 x52 x53 x54 : Int) : lp k spec_l36World [(.ptr true [(.arr false (v0) (.ints IntKind.u8 (v1))), (.int .i64 (v2)), (.int .i64 (v3))])] fu 3 (n + 1) (qs4 x0 z1 l2 x3 x4 z5 l6 z7 l8 z9 l10 z11 l12 x13 x14 x15 x16 x17 x18 x19 x20 x21 x22 x23 x24 x25 x26 x27 x28 x29 z30 l31 z32 l33 z34 l35 z36 l37 x38 x39 x40 x41 x42 x43 x44 x45 x46 x47 x48 x49 x50 x51 x52 x53 x54) =
 (go k spec_l01Below [(.ptr true [(.arr false (z1) (.ints IntKind.u8 (l2))), (.int .i64 (x3)), (.int .i64 (x4))]), (.int .i64 ((3 : Int)))]).bind fun r0 =>
 cond (decide (x0 < D.toInt (nth r0 0)))
 ((go k spec_Advance [(.agg [(.int .i64 (x38)), (.arr false (z30) (.r3 (l31))), (.arr false (z32) (.ints .i64 (l33))), (.arr false (z34) (.ints .i64 (l35))), (.arr false (z36) (.ints .i64 (l37))), (.int .i64 (x39)), (.int .i64 (x40)), (.int .i64 (x41)), (.int .i64 (x42)), (.int .i64 (x43)), (.int .i64 (x44)), (.int .i64 (x45)), (.int .i64 (x46)), (.int .i64 (x47)), (.int .i64 (x48)), (.int .i64 (x49)), (.int .i64 (x50)), (.int .i64 (x51)), (.int .i64 (x52)), (.int .i64 (x53)), (.int .i64 (x54))]), (.int .i64 ((1 : Int)))]).bind fun r1 =>
 (go k spec_l01Below [(.ptr true [(.arr false (z1) (.ints IntKind.u8 (l2))), (.int .i64 (D.toInt (D.cell 1 (nth r0 1)))), (.int .i64 (D.toInt (D.cell 2 (nth r0 1))))]), (.int .i64 ((40 : Int)))]).bind fun r2 =>
 (go k spec_l01Below [(.ptr true [(.arr false (z1) (.ints IntKind.u8 (l2))), (.int .i64 (D.toInt (D.cell 1 (nth r2 1)))), (.int .i64 (D.toInt (D.cell 2 (nth r2 1))))]), (.int .i64 ((900 : Int)))]).bind fun r3 =>
 (go k spec_l01Below [(.ptr true [(.arr false (z1) (.ints IntKind.u8 (l2))), (.int .i64 (D.toInt (D.cell 1 (nth r3 1)))), (.int .i64 (D.toInt (D.cell 2 (nth r3 1))))]), (.int .i64 ((1001 : Int)))]).bind fun r4 =>
 (go k spec_Drop [(.agg [(.int .i64 (D.toInt (D.cell 0 (nth r1 0)))), (.arr false (D.nil (D.cell 1 (nth r1 0))) (.r3 (D.r3 (D.cell 1 (nth r1 0))))), (.arr false (D.nil (D.cell 2 (nth r1 0))) (.ints .i64 (D.ints (D.cell 2 (nth r1 0))))), (.arr false (D.nil (D.cell 3 (nth r1 0))) (.ints .i64 (D.ints (D.cell 3 (nth r1 0))))), (.arr false (D.nil (D.cell 4 (nth r1 0))) (.ints .i64 (D.ints (D.cell 4 (nth r1 0))))), (.int .i64 (D.toInt (D.cell 5 (nth r1 0)))), (.int .i64 (D.toInt (D.cell 6 (nth r1 0)))), (.int .i64 (D.toInt (D.cell 7 (nth r1 0)))), (.int .i64 (D.toInt (D.cell 8 (nth r1 0)))), (.int .i64 (D.toInt (D.cell 9 (nth r1 0)))), (.int .i64 (D.toInt (D.cell 10 (nth r1 0)))), (.int .i64 (D.toInt (D.cell 11 (nth r1 0)))), (.int .i64 (D.toInt (D.cell (12 : Nat) (nth r1 0)))), (.int .i64 (D.toInt (D.cell (13 : Nat) (nth r1 0)))), (.int .i64 (D.toInt (D.cell (14 : Nat) (nth r1 0)))), (.int .i64 (D.toInt (D.cell (15 : Nat) (nth r1 0)))), (.int .i64 (D.toInt (D.cell (16 : Nat) (nth r1 0)))), (.int .i64 (D.toInt (D.cell (17 : Nat) (nth r1 0)))), (.int .i64 (D.toInt (D.cell (18 : Nat) (nth r1 0)))), (.int .i64 (D.toInt (D.cell (19 : Nat) (nth r1 0)))), (.int .i64 (D.toInt (D.cell (20 : Nat) (nth r1 0))))]), (.int .i64 (D.toInt (nth r2 0))), (.int .i64 (IntKind.wrap .i64 ((1 : Int) + D.toInt (nth r3 0)))), (.int .i64 (D.toInt (nth r4 0)))]).bind fun r5 =>
 lp k spec_l36World [(.ptr true [(.arr false (v0) (.ints IntKind.u8 (v1))), (.int .i64 (v2)), (.int .i64 (v3))])] fu 3 n (qs4 (IntKind.wrap .i64 (x0 + (1 : Int))) z1 l2 (D.toInt (D.cell 1 (nth r4 1))) (D.toInt (D.cell 2 (nth r4 1))) z5 l6 z7 l8 z9 l10 z11 l12 x13 x14 x15 x16 x17 x18 x19 x20 x21 x22 x23 x24 x25 x26 x27 x28 x29 (D.nil (D.cell 1 (nth r5 0))) (D.r3 (D.cell 1 (nth r5 0))) (D.nil (D.cell 2 (nth r5 0))) (D.ints (D.cell 2 (nth r5 0))) (D.nil (D.cell 3 (nth r5 0))) (D.ints (D.cell 3 (nth r5 0))) (D.nil (D.cell 4 (nth r5 0))) (D.ints (D.cell 4 (nth r5 0))) (D.toInt (D.cell 0 (nth r5 0))) (D.toInt (D.cell 5 (nth r5 0))) (D.toInt (D.cell 6 (nth r5 0))) (D.toInt (D.cell 7 (nth r5 0))) (D.toInt (D.cell 8 (nth r5 0))) (D.toInt (D.cell 9 (nth r5 0))) (D.toInt (D.cell 10 (nth r5 0))) (D.toInt (D.cell 11 (nth r5 0))) (D.toInt (D.cell (12 : Nat) (nth r5 0))) (D.toInt (D.cell (13 : Nat) (nth r5 0))) (D.toInt (D.cell (14 : Nat) (nth r5 0))) (D.toInt (D.cell (15 : Nat) (nth r5 0))) (D.toInt (D.cell (16 : Nat) (nth r5 0))) (D.toInt (D.cell (17 : Nat) (nth r5 0))) (D.toInt (D.cell (18 : Nat) (nth r5 0))) (D.toInt (D.cell (19 : Nat) (nth r5 0))) (D.toInt (D.cell (20 : Nat) (nth r5 0)))))
 (some [(.agg [(.int .i64 (x38)), (.arr true (z30) (.r3 (l31))), (.arr true (z32) (.ints .i64 (l33))), (.arr true (z34) (.ints .i64 (l35))), (.arr true (z36) (.ints .i64 (l37))), (.int .i64 (x39)), (.int .i64 (x40)), (.int .i64 (x41)), (.int .i64 (x42)), (.int .i64 (x43)), (.int .i64 (x44)), (.int .i64 (x45)), (.int .i64 (x46)), (.int .i64 (x47)), (.int .i64 (x48)), (.int .i64 (x49)), (.int .i64 (x50)), (.int .i64 (x51)), (.int .i64 (x52)), (.int .i64 (x53)), (.int .i64 (x54))]), (.ptr true [(.arr false (z1) (.ints IntKind.u8 (l2))), (.int .i64 (D.toInt (D.cell 1 (nth r0 1)))), (.int .i64 (D.toInt (D.cell 2 (nth r0 1))))])]) := by kernel_rfl
def qsi (x0 x1 : Int) (z2 : Bool) (l3 : List Int) (z4 : Bool) (l5 : List (Int × Int × Int)) (z6 : Bool) (l7 : List Int) (z8 : Bool) (l9 : List Int) (z10 : Bool) (l11 : List Int) (x12 x13 x14 x15 x16 x17 x18 x19 x20 x21 x22 x23 x24 x25 x26 x27 x28 : Int) : St := ⟨fill 32 [(0, (.sl 0 none)), (3, (.int .i64 (x0))), (4, (.int .i64 (x1)))], [(.sl 0 none), .un, (.ptr 5 (0) (0)), (.sl 0 none), .un, .un], [(.arr false (z2) (.ints IntKind.u8 (l3))), (.arr true (z4) (.r3 (l5))), (.arr true (z6) (.ints .i64 (l7))), (.arr true (z8) (.ints .i64 (l9))), (.arr true (z10) (.ints .i64 (l11))), (.box true [(.int .i64 (x12)), (.sl 1 none), (.sl 2 none), (.sl 3 none), (.sl 4 none), (.int .i64 (x13)), (.int .i64 (x14)), (.int .i64 (x15)), (.int .i64 (x16)), (.int .i64 (x17)), (.int .i64 (x18)), (.int .i64 (x19)), (.int .i64 (x20)), (.int .i64 (x21)), (.int .i64 (x22)), (.int .i64 (x23)), (.int .i64 (x24)), (.int .i64 (x25)), (.int .i64 (x26)), (.int .i64 (x27)), (.int .i64 (x28))])]⟩
theorem qix (k : Nat) (az : Bool) (a : List Int) : go (k + 1) spec_DrawWorld [(.arr false (az) (.ints IntKind.u8 (a)))] =
 lp k spec_DrawWorld [] [] 7800003 k (qsi (IntKind.wrap .i64 ((98231 : Int) + nI (List.length a))) (0 : Int) az a true ([]) true ([]) true ([]) true ([]) (0 : Int) (0 : Int) (0 : Int) (0 : Int) (0 : Int) (0 : Int) (0 : Int) (0 : Int) (0 : Int) (0 : Int) (0 : Int) (0 : Int) (0 : Int) (0 : Int) (0 : Int) (0 : Int) (0 : Int)) := by kernel_rfl
theorem qmo (k n : Nat) (fu : List (Nat × Nat)) (x0 x1 : Int) (z2 : Bool) (l3 : List Int) (z4 : Bool) (l5 : List (Int × Int × Int)) (z6 : Bool) (l7 : List Int) (z8 : Bool) (l9 : List Int) (z10 : Bool) (l11 : List Int) (x12 x13 x14 x15 x16 x17 x18 x19 x20 x21 x22 x23 x24 x25 x26 x27 x28 : Int) : lp k spec_DrawWorld [] fu 7800003 (n + 1) (qsi x0 x1 z2 l3 z4 l5 z6 l7 z8 l9 z10 l11 x12 x13 x14 x15 x16 x17 x18 x19 x20 x21 x22 x23 x24 x25 x26 x27 x28) =
 cond (decide (x1 < nI (List.length l3)))
 (cond (decide (x1 < (4000 : Int)))
 (cond (decide ((0 : Int) ≤ x1) && decide (x1 < nI (List.length l3)))
 (lp k spec_DrawWorld [] fu 7800003 n (qsi (bitN BinOp.and .i64 (IntKind.wrap .i64 (IntKind.wrap .i64 (IntKind.wrap .i64 (x0 * (131 : Int)) + IntKind.wrap .i64 (List.getD l3 (Int.toNat x1) (0 : Int))) + (7 : Int))) (1073741823 : Int)) (IntKind.wrap .i64 (x1 + (1 : Int))) z2 l3 z4 l5 z6 l7 z8 l9 z10 l11 x12 x13 x14 x15 x16 x17 x18 x19 x20 x21 x22 x23 x24 x25 x26 x27 x28))
 (none))
 ((go k spec_l36World [(.ptr true [(.arr false (z2) (.ints IntKind.u8 (l3))), (.int .i64 (0 : Int)), (.int .i64 (x0))])]).bind fun r0 =>
 some [(.agg [(.int .i64 (D.toInt (D.cell 0 (nth r0 0)))), (.arr true (D.nil (D.cell 1 (nth r0 0))) (.r3 (D.r3 (D.cell 1 (nth r0 0))))), (.arr true (D.nil (D.cell 2 (nth r0 0))) (.ints .i64 (D.ints (D.cell 2 (nth r0 0))))), (.arr true (D.nil (D.cell 3 (nth r0 0))) (.ints .i64 (D.ints (D.cell 3 (nth r0 0))))), (.arr true (D.nil (D.cell 4 (nth r0 0))) (.ints .i64 (D.ints (D.cell 4 (nth r0 0))))), (.int .i64 (D.toInt (D.cell 5 (nth r0 0)))), (.int .i64 (D.toInt (D.cell 6 (nth r0 0)))), (.int .i64 (D.toInt (D.cell 7 (nth r0 0)))), (.int .i64 (D.toInt (D.cell 8 (nth r0 0)))), (.int .i64 (D.toInt (D.cell 9 (nth r0 0)))), (.int .i64 (D.toInt (D.cell 10 (nth r0 0)))), (.int .i64 (D.toInt (D.cell 11 (nth r0 0)))), (.int .i64 (D.toInt (D.cell (12 : Nat) (nth r0 0)))), (.int .i64 (D.toInt (D.cell (13 : Nat) (nth r0 0)))), (.int .i64 (D.toInt (D.cell (14 : Nat) (nth r0 0)))), (.int .i64 (D.toInt (D.cell (15 : Nat) (nth r0 0)))), (.int .i64 (D.toInt (D.cell (16 : Nat) (nth r0 0)))), (.int .i64 (D.toInt (D.cell (17 : Nat) (nth r0 0)))), (.int .i64 (D.toInt (D.cell (18 : Nat) (nth r0 0)))), (.int .i64 (D.toInt (D.cell (19 : Nat) (nth r0 0)))), (.int .i64 (D.toInt (D.cell (20 : Nat) (nth r0 0))))])]))
 ((go k spec_l36World [(.ptr true [(.arr false (z2) (.ints IntKind.u8 (l3))), (.int .i64 (0 : Int)), (.int .i64 (x0))])]).bind fun r1 =>
 some [(.agg [(.int .i64 (D.toInt (D.cell 0 (nth r1 0)))), (.arr true (D.nil (D.cell 1 (nth r1 0))) (.r3 (D.r3 (D.cell 1 (nth r1 0))))), (.arr true (D.nil (D.cell 2 (nth r1 0))) (.ints .i64 (D.ints (D.cell 2 (nth r1 0))))), (.arr true (D.nil (D.cell 3 (nth r1 0))) (.ints .i64 (D.ints (D.cell 3 (nth r1 0))))), (.arr true (D.nil (D.cell 4 (nth r1 0))) (.ints .i64 (D.ints (D.cell 4 (nth r1 0))))), (.int .i64 (D.toInt (D.cell 5 (nth r1 0)))), (.int .i64 (D.toInt (D.cell 6 (nth r1 0)))), (.int .i64 (D.toInt (D.cell 7 (nth r1 0)))), (.int .i64 (D.toInt (D.cell 8 (nth r1 0)))), (.int .i64 (D.toInt (D.cell 9 (nth r1 0)))), (.int .i64 (D.toInt (D.cell 10 (nth r1 0)))), (.int .i64 (D.toInt (D.cell 11 (nth r1 0)))), (.int .i64 (D.toInt (D.cell (12 : Nat) (nth r1 0)))), (.int .i64 (D.toInt (D.cell (13 : Nat) (nth r1 0)))), (.int .i64 (D.toInt (D.cell (14 : Nat) (nth r1 0)))), (.int .i64 (D.toInt (D.cell (15 : Nat) (nth r1 0)))), (.int .i64 (D.toInt (D.cell (16 : Nat) (nth r1 0)))), (.int .i64 (D.toInt (D.cell (17 : Nat) (nth r1 0)))), (.int .i64 (D.toInt (D.cell (18 : Nat) (nth r1 0)))), (.int .i64 (D.toInt (D.cell (19 : Nat) (nth r1 0)))), (.int .i64 (D.toInt (D.cell (20 : Nat) (nth r1 0))))])]) := by kernel_rfl
end Go.Proofs.YtoldpdhhfmlckaaGreat
end
section
namespace Go.Proofs.YtoldpdhhfmlckaaGreat
open Go.Ev
set_option maxRecDepth 20000
structure Good (w : Wd) (K : Nat) : Prop where
  F : StF w.r w.s.1 w.s.2.1 w.s.2.2 w.b
  p : qqo w.p.bi w.p.bs w.p.bo w.p.rain w.p.loss w.p.dec w.p.high w.p.low w.p.every = true
  k : 0 ≤ w.k ∧ w.k ≤ K
  L : LdB w.ld (40000000000 * K)
  f : isum w.s.2.1 - w.ld.mi + w.ld.mo = w.f
  g : isum w.s.2.2 - w.ld.ti + w.ld.ou = w.g
theorem Good.ok {w : Wd} {K : Nat} (G : Good w K) (hK : K ≤ 10000) : wdOk w = true := by
  have a := G.k; have b1 := G.L.mi; have b2 := G.L.mo; have b3 := G.L.ti; have b4 := G.L.ou
  unfold wdOk qvr qnh
  simp only [Bool.and_eq_true, decide_eq_true_eq]
  exact ⟨stF.2 G.F, G.p, qle.2 (by omega), ⟨qle.2 (by omega), qle.2 (by omega), qle.2 (by omega), qle.2 (by omega)⟩, G.f, G.g⟩
theorem Good.mono {w : Wd} {K N : Nat} (G : Good w K) (h : K ≤ N) : Good w N := by
  have a := G.k; have b1 := G.L.mi; have b2 := G.L.mo; have b3 := G.L.ti; have b4 := G.L.ou
  exact ⟨G.F, G.p, by omega, ⟨by omega, by omega, by omega, by omega⟩, G.f, G.g⟩
theorem Good.next {w : Wd} {K : Nat} (G : Good w K) : Good w.next (K + 1) := by
  have h := qo9 (s := w.s) G.F (qqn G.p) w.k
  have a := G.k; have l := G.L; have q := h.2
  have l1 := l.mi; have l2 := l.mo; have l3 := l.ti; have l4 := l.ou
  have q1 := q.mi; have q2 := q.mo; have q3 := q.ti; have q4 := q.ou
  have qm := q.m; have qt := q.t; have ef := G.f; have eg := G.g
  refine ⟨h.1, G.p, ?_, ⟨?_, ?_, ?_, ?_⟩, ?_, ?_⟩
  · show 0 ≤ w.k + 1 ∧ w.k + 1 ≤ _; omega
  · show 0 ≤ w.ld.mi + _ ∧ w.ld.mi + _ ≤ _; omega
  · show 0 ≤ w.ld.mo + _ ∧ w.ld.mo + _ ≤ _; omega
  · show 0 ≤ w.ld.ti + _ ∧ w.ld.ti + _ ≤ _; omega
  · show 0 ≤ w.ld.ou + _ ∧ w.ld.ou + _ ≤ _; omega
  · show isum (mac w.p w.b w.k w.s).1.2.1 - (w.ld.mi + (mac w.p w.b w.k w.s).2.mi) + (w.ld.mo + (mac w.p w.b w.k w.s).2.mo) = w.f
    omega
  · show isum (mac w.p w.b w.k w.s).1.2.2 - (w.ld.ti + (mac w.p w.b w.k w.s).2.ti) + (w.ld.ou + (mac w.p w.b w.k w.s).2.ou) = w.g
    omega
theorem qav : ∀ (n : Nat) (w : Wd) (K : Nat), Good w K → Good (advN n w) (K + n)
  | 0, w, K, G => G
  | n + 1, w, K, G => by have := qav n w.next (K + 1) G.next; rw [show K + 1 + n = K + (n + 1) by omega] at this; exact this
theorem Good.adv {w : Wd} {K : Nat} (G : Good w K) (n : Nat) (i : Int) (h : i ≤ n) : Good (adv w i) (K + n) := by
  unfold Go.Proofs.YtoldpdhhfmlckaaGreat.adv
  cases g : qax w i
  · exact G.mono (by omega)
  · exact (qav i.toNat w K G).mono (by omega)
theorem Good.drp1 {w : Wd} {K : Nat} (G : Good w K) {p m h : Int} (g : qgn w p m h = true) : Good (drp1 w p m h) (K + 1) := by
  unfold qgn qgk at g
  simp only [Bool.and_eq_true, decide_eq_true_eq, qle] at g
  obtain ⟨g1, g2, g3, g4, g5⟩ := g
  have F := G.F
  have lf := qnc w.r w.s.1 p
  obtain ⟨i, hi⟩ : ∃ i : Nat, qnb w.r w.s.1 p = (i : Int) := ⟨(qnb w.r w.s.1 p).toNat, by omega⟩
  have fl := F.len; have ml := F.ml; have tl := F.tl
  have mm := qpy g2.1 g2.2 g3.1 g3.2
  have mh := qlf (a := m) (c := h) (by omega) g3
  have im : i < w.s.2.1.length := by omega
  have it : i < w.s.2.2.length := by omega
  have fi := F.at i
  have e1 : isum (w.s.2.1.set i (w.s.2.1.getD i 0 + m)) = isum w.s.2.1 + m := by rw [qlo _ _ _ im]; omega
  have e2 : isum (w.s.2.2.set i (w.s.2.2.getD i 0 + m * h)) = isum w.s.2.2 + m * h := by rw [qlo _ _ _ it]; omega
  have a := G.k; have b1 := G.L.mi; have b2 := G.L.mo; have b3 := G.L.ti; have b4 := G.L.ou
  have ef := G.f; have eg := G.g
  unfold Go.Proofs.YtoldpdhhfmlckaaGreat.drp1
  rw [hi, Int.toNat_natCast]
  refine ⟨F.mk' (by rw [List.length_set]; exact ml) (by rw [List.length_set]; exact tl) ?_ ?_, G.p, by show 0 ≤ w.k ∧ w.k ≤ _; omega, ⟨?_, ?_, ?_, ?_⟩, ?_, ?_⟩
  · intro j hj
    have fj := F.at j
    show 0 ≤ (w.s.2.1.set i (w.s.2.1.getD i 0 + m)).getD j 0 ∧ 0 ≤ (w.s.2.2.set i (w.s.2.2.getD i 0 + m * h)).getD j 0 ∧ (w.s.2.2.set i (w.s.2.2.getD i 0 + m * h)).getD j 0 ≤ 1000 * (w.s.2.1.set i (w.s.2.1.getD i 0 + m)).getD j 0
    rw [qs9 im, qs9 it]
    by_cases q : i = j
    · rw [if_pos q, if_pos q]; omega
    · rw [if_neg q, if_neg q]; omega
  · show isum (w.s.2.1.set i (w.s.2.1.getD i 0 + m)) ≤ 10000000; omega
  · show 0 ≤ w.ld.mi + m ∧ w.ld.mi + m ≤ _; omega
  · show 0 ≤ w.ld.mo ∧ w.ld.mo ≤ _; omega
  · show 0 ≤ w.ld.ti + m * h ∧ w.ld.ti + m * h ≤ _; omega
  · show 0 ≤ w.ld.ou ∧ w.ld.ou ≤ _; omega
  · show isum (w.s.2.1.set i (w.s.2.1.getD i 0 + m)) - (w.ld.mi + m) + w.ld.mo = w.f; omega
  · show isum (w.s.2.2.set i (w.s.2.2.getD i 0 + m * h)) - (w.ld.ti + m * h) + w.ld.ou = w.g; omega
theorem Good.drp {w : Wd} {K : Nat} (G : Good w K) (p m h : Int) : Good (drp w p m h) (K + 1) := by
  unfold Go.Proofs.YtoldpdhhfmlckaaGreat.drp
  cases g : qgn w p m h
  · exact G.mono (by omega)
  · exact G.drp1 g
structure Fit (w : Wd) (M : Int) : Prop where
  m : isum w.s.2.1 ≤ M
  bi : w.p.bi ≤ 3000
  rain : w.p.rain ≤ 900
theorem qqj {a : Int} (ha : 0 ≤ a ∧ a ≤ 900) (l : List Cell) : ∀ n : Nat, qt9 (part a l) n ≤ 900 * n
  | 0 => by simp [qt9]
  | n + 1 => by
    have := qqj ha l n
    have h := qqk (a := a) (by omega) l n
    simp only [qt9]
    omega
theorem qkw {p : Pl} (P : PlF p) (h1 : p.bi ≤ 3000) (h2 : p.rain ≤ 900) (l : List Cell) (b : List Int) (s : S2) : (flow p l b s).2.mi ≤ 3000 + 900 * l.length := by
  have e1 : (boS p.bi p.bs p.bo s).2.mi ≤ 3000 := by
    have := P.bi
    unfold boS
    split
    · exact h1
    · show (0 : Int) ≤ 3000; decide
  have e2 : ∀ x : S2, (raS p.rain l x).2.mi ≤ 900 * l.length := fun x => by
    unfold raS
    split
    · exact qqj ⟨P.rain.1, h2⟩ l l.length
    · show (0 : Int) ≤ _; omega
  have e2' := e2 (boS p.bi p.bs p.bo s).1
  show (boS p.bi p.bs p.bo s).2.mi + (raS p.rain l (boS p.bi p.bs p.bo s).1).2.mi + 0 + 0 ≤ _
  omega
theorem qpa {p : Pl} (P : PlF p) (h1 : p.bi ≤ 3000) (h2 : p.rain ≤ 900) (b : List Int) (k : Int) (s : S3) : (mac p b k s).2.mi ≤ 3000 + 900 * s.1.length := qkw P h1 h2 s.1 b s.2
theorem Fit.next {w : Wd} {K : Nat} {M : Int} (G : Good w K) (T : Fit w M) : Fit w.next (M + 118200) := by
  have h := (qo9 (s := w.s) G.F (qqn G.p) w.k).2
  have a := qpa (qqn G.p) T.bi T.rain w.b w.k w.s
  have l := G.F.len; have m := T.m
  have q1 := h.m; have q2 := h.mo
  exact ⟨by show isum (mac w.p w.b w.k w.s).1.2.1 ≤ _; omega, T.bi, T.rain⟩
theorem qaw : ∀ (n : Nat) (w : Wd) (K : Nat) (M : Int), Good w K → Fit w M → Fit (advN n w) (M + 118200 * n)
  | 0, w, K, M, G, T => by rw [show M + 118200 * ((0 : Nat) : Int) = M by omega]; exact T
  | n + 1, w, K, M, G, T => by have := qaw n w.next (K + 1) (M + 118200) G.next (T.next G); rw [show M + 118200 + 118200 * (n : Int) = M + 118200 * ((n + 1 : Nat) : Int) by omega] at this; exact this
theorem qgo {w : Wd} {M N : Int} (T : Fit w M) {p m h : Int} (hN : M + m ≤ N ∧ M ≤ N) : Fit (drp w p m h) N := by
  unfold drp
  cases g : qgn w p m h
  · exact ⟨by have := T.m; show isum w.s.2.1 ≤ _; omega, T.bi, T.rain⟩
  · unfold qgn qgk at g
    simp only [Bool.and_eq_true, decide_eq_true_eq, qle] at g
    obtain ⟨g1, g2, g3, g4, g5⟩ := g
    have F := (wdF g1).F
    have lf := qnc w.r w.s.1 p
    have ml := F.ml; have t := T.m
    refine ⟨?_, T.bi, T.rain⟩
    show isum (w.s.2.1.set (qnb w.r w.s.1 p).toNat (w.s.2.1.getD (qnb w.r w.s.1 p).toNat 0 + m)) ≤ _
    rw [qlo _ _ _ (by omega)]
    omega
theorem qay {w : Wd} {K : Nat} (G : Good w K) (hK : K ≤ 10000) (n : Nat) (hn : n ≤ 100) : adv w n = advN n w ∧ qax w n = true := by
  have e : qax w n = true := by unfold qax; rw [G.ok hK, qle.2 (by omega)]; rfl
  exact ⟨by unfold adv; rw [e]; rfl, e⟩
end Go.Proofs.YtoldpdhhfmlckaaGreat
end
section
namespace Go.Proofs.YtoldpdhhfmlckaaGreat
open Go.Ev
set_option maxRecDepth 20000
theorem qc9 (k : Nat) (hk : 2000000 ≤ k) (z : Bool) (l : List Int) : go (k + 1) laws_big [.arr false z (.ints .u8 l)] = some [.bool (decide (1048576 < (l.length : Int)))] := by
  rw [qik]
theorem qpz {u v B : Int} (hu : 0 ≤ u ∧ u < 2) (hv : 0 ≤ v ∧ v < B) : 0 ≤ u * v ∧ u * v < B := by
  have h1 : 0 ≤ u * v := Int.mul_nonneg hu.1 hv.1
  have h2 : u * v ≤ 1 * v := Int.mul_le_mul_of_nonneg_right (by omega) hv.1
  omega
theorem qe1 (k : Nat) (hk : 2000000 ≤ k) (z : Bool) (l : List Int) (i h : Int) (hl : (l.length : Int) ≤ 1048576) (h0 : 0 ≤ i) (h1 : i ≤ l.length) :
    ∃ (b0 b1 b2 i' h' : Int), go (k + 3) spec_l13Border [.ptr true [.arr false (z) (.ints .u8 (l)), .int .i64 (i), .int .i64 (h)]] = some [.agg [.int .i64 b0, .int .i64 b1, .int .i64 b2], .ptr true [.arr false (z) (.ints .u8 (l)), .int .i64 (i'), .int .i64 (h')]] ∧ (0 ≤ i' ∧ i' ≤ l.length) ∧ qbc b0 b1 b2 = true ∧ b0 ≤ 3000 := by
  have e := qj8 (k + 2) z l i h
  obtain ⟨u1, i1, k1, e1, b1, q1, r1⟩ := qec k (by omega) z l i h 2 hl h0 h1 (by omega) (by omega)
  obtain ⟨u2, i2, k2, e2, b2, q2, r2⟩ := qec k (by omega) z l i1 k1 3000 hl q1 r1 (by omega) (by omega)
  obtain ⟨u3, i3, k3, e3, b3, q3, r3⟩ := qec k (by omega) z l i2 k2 1001 hl q2 r2 (by omega) (by omega)
  obtain ⟨u4, i4, k4, e4, b4, q4, r4⟩ := qec k (by omega) z l i3 k3 2 hl q3 r3 (by omega) (by omega)
  obtain ⟨u5, i5, k5, e5, b5, q5, r5⟩ := qec k (by omega) z l i4 k4 251 hl q4 r4 (by omega) (by omega)
  have m1 := qpz b1 b2; have m2 := qpz b4 b5
  simp (disch := omega) only [e1, qa6, nth1, qqs, qu2, qqt, e2, nth0, e3, qvt, e4, e5] at e
  exact ⟨_, _, _, _, _, e, ⟨q5, r5⟩, by simp only [qbc, Bool.and_eq_true, qle]; omega, by omega⟩
structure PlD (p : Pl) : Prop where
  ok : qqo p.bi p.bs p.bo p.rain p.loss p.dec p.high p.low p.every = true
  bi : p.bi ≤ 3000
  rain : p.rain ≤ 900
theorem qe6 (k : Nat) (hk : 2000000 ≤ k) (z : Bool) (l : List Int) (i h : Int) (hl : (l.length : Int) ≤ 1048576) (h0 : 0 ≤ i) (h1 : i ≤ l.length) :
    ∃ (p : Pl) (i' h' : Int), go (k + 4) spec_l18Plan [.ptr true [.arr false (z) (.ints .u8 (l)), .int .i64 (i), .int .i64 (h)]] = some [plD p, .ptr true [.arr false (z) (.ints .u8 (l)), .int .i64 (i'), .int .i64 (h')]] ∧ (0 ≤ i' ∧ i' ≤ l.length) ∧ PlD p := by
  have e := qkh (k + 3) z l i h
  obtain ⟨c0, c1, c2, i1, k1, e1, ⟨q1, r1⟩, hb, hc⟩ := qe1 k (by omega) z l i h hl h0 h1
  obtain ⟨u2, i2, k2, e2, b2, q2, r2⟩ := qec (k + 1) (by omega) z l i1 k1 2 hl q1 r1 (by omega) (by omega)
  obtain ⟨u3, i3, k3, e3, b3, q3, r3⟩ := qec (k + 1) (by omega) z l i2 k2 900 hl q2 r2 (by omega) (by omega)
  obtain ⟨u4, i4, k4, e4, b4, q4, r4⟩ := qec (k + 1) (by omega) z l i3 k3 2 hl q3 r3 (by omega) (by omega)
  obtain ⟨u5, i5, k5, e5, b5, q5, r5⟩ := qec (k + 1) (by omega) z l i4 k4 400 hl q4 r4 (by omega) (by omega)
  obtain ⟨u6, i6, k6, e6, b6, q6, r6⟩ := qec (k + 1) (by omega) z l i5 k5 2 hl q5 r5 (by omega) (by omega)
  obtain ⟨u7, i7, k7, e7, b7, q7, r7⟩ := qec (k + 1) (by omega) z l i6 k6 200 hl q6 r6 (by omega) (by omega)
  obtain ⟨u8, i8, k8, e8, b8, q8, r8⟩ := qec (k + 1) (by omega) z l i7 k7 4000 hl q7 r7 (by omega) (by omega)
  obtain ⟨u9, i9, k9, e9, b9, q9, r9⟩ := qec (k + 1) (by omega) z l i8 k8 300 hl q8 r8 (by omega) (by omega)
  obtain ⟨u10, i10, k10, e10, b10, q10, r10⟩ := qec (k + 1) (by omega) z l i9 k9 3 hl q9 r9 (by omega) (by omega)
  have m1 := qpz b2 b3; have m2 := qpz b4 b5; have m3 := qpz b6 b7
  simp (disch := omega) only [e1, qa6, nth1, qqs, qu2, qqt, e2, nth0, qfi, qfj, qfu, e3, e4, qvt, e5, e6, e7, e8, e9, e10] at e
  refine ⟨⟨c0, c1, c2, u2 * u3, u4 * u5, u6 * u7, 200 + u8, u9, u10⟩, _, _, e, ⟨q10, r10⟩, ⟨?_, hc, by show u2 * u3 ≤ 900; omega⟩⟩
  simp only [qqo, Bool.and_eq_true, qle]; exact ⟨hb, by omega, by omega, by omega, by omega, by omega, by omega⟩
def nwW (r : Int) (l : List Cell) (m t b : List Int) (p : Pl) : Wd := ⟨r, (l, m, t), b, p, 0, ⟨0, 0, 0, 0⟩, isum m, isum t⟩
theorem z0 : (0 : Int) ≤ 0 ∧ (0 : Int) ≤ ((0 : Nat) : Int) := by decide
theorem z0' : (0 : Int) ≤ 0 ∧ (0 : Int) ≤ 40000000000 * ((0 : Nat) : Int) := by decide
theorem qp4 {r : Int} {l : List Cell} {m t b : List Int} (F : StF r l m t b) {p : Pl} (P : PlD p) : Good (nwW r l m t b p) 0 :=
  ⟨F, P.ok, z0, ⟨z0', z0', z0', z0'⟩, by show isum m - 0 + 0 = isum m; omega, by show isum t - 0 + 0 = isum t; omega⟩
theorem qd7 (k : Nat) (hk : 2000000 ≤ k) (r : Int) (l : List Cell) (m t b : List Int) (F : StF r l m t b) (p : Pl) (P : PlD p) :
    go (k + 8) spec_WorldNew [.agg [.int .i64 (r), .arr false (false) (.r3 (l)), .arr false (false) (.ints .i64 (m)), .arr false (false) (.ints .i64 (t)), .arr false (false) (.ints .i64 (b))], plD p] = some [wdO (nwW r l m t b p), .bool true] := by
  have := F.len; have := F.bl; have := F.rr
  have e := qd6 k hk r l m t b p.bi p.bs p.bo p.rain p.loss p.dec p.high p.low p.every (by omega) (by omega)
  rw [stF.2 F, P.ok] at e
  exact e
theorem qo3 (k : Nat) (hk : 2000000 ≤ k) (fu : List (Nat × Nat)) (v0 : Bool) (v1 : List Int) (v2 v3 : Int) (z : Bool) (l : List Int) (hl : (l.length : Int) ≤ 1048576) (z5 : Bool) (l6 : List Cell) (z7 : Bool) (l8 : List Int) (z9 : Bool) (l10 : List Int) (z11 : Bool) (l12 : List Int) (x13 x14 x15 x16 x17 x18 x19 x20 x21 x22 x23 x24 x25 x26 x27 x28 x29 : Int) :
    ∀ (n i : Nat) (j h : Int) (w : Wd), i ≤ 2 → 2 - i < n → 0 ≤ j → j ≤ l.length → Good w (2 * i) → Fit w (2560000 + 119100 * i) →
    ∃ (w' : Wd) (j' h' : Int), lp (k + 11) spec_l36World [(.ptr true [(.arr false (v0) (.ints IntKind.u8 (v1))), (.int .i64 (v2)), (.int .i64 (v3))])] fu 3 (n) (qs4 (i : Int) z l j h z5 l6 z7 l8 z9 l10 z11 l12 x13 x14 x15 x16 x17 x18 x19 x20 x21 x22 x23 x24 x25 x26 x27 x28 x29 false w.s.1 false w.s.2.1 false w.s.2.2 false w.b w.r w.p.bi w.p.bs w.p.bo w.p.rain w.p.loss w.p.dec w.p.high w.p.low w.p.every w.k w.ld.mi w.ld.mo w.ld.ti w.ld.ou w.f w.g) = some [wdO w', .ptr true [.arr false (z) (.ints .u8 (l)), .int .i64 (j'), .int .i64 (h')]] ∧ Good w' 4 ∧ Fit w' 2800000
  | 0, i, j, h, w, hi, hn, h0, h1, G, T => by omega
  | n + 1, i, j, h, w, hi, hn, h0, h1, G, T => by
    have e := qna (k + 11) n fu v0 v1 v2 v3 (i : Int) z l j h z5 l6 z7 l8 z9 l10 z11 l12 x13 x14 x15 x16 x17 x18 x19 x20 x21 x22 x23 x24 x25 x26 x27 x28 x29 false w.s.1 false w.s.2.1 false w.s.2.2 false w.b w.r w.p.bi w.p.bs w.p.bo w.p.rain w.p.loss w.p.dec w.p.high w.p.low w.p.every w.k w.ld.mi w.ld.mo w.ld.ti w.ld.ou w.f w.g
    obtain ⟨u1, i1, k1, e1, b1, q1, r1⟩ := qec (k + 9) (by omega) z l j h 3 hl h0 h1 (by omega) (by omega)
    by_cases g : (i : Int) < u1
    · have S := G.F.sml
      obtain ⟨u2, i2, k2, e2, b2, q2, r2⟩ := qec (k + 9) (by omega) z l i1 k1 40 hl q1 r1 (by omega) (by omega)
      obtain ⟨u3, i3, k3, e3, b3, q3, r3⟩ := qec (k + 9) (by omega) z l i2 k2 900 hl q2 r2 (by omega) (by omega)
      obtain ⟨u4, i4, k4, e4, b4, q4, r4⟩ := qec (k + 9) (by omega) z l i3 k3 1001 hl q3 r3 (by omega) (by omega)
      have eA := qdi (k + 2) (by omega) w 1 S
      have A := qay G (by omega) 1 (by omega)
      have GA := qav 1 w _ G
      have TA := qaw 1 w _ _ G T
      rw [show ((1 : Nat) : Int) = 1 from rfl] at A
      rw [A.1] at eA
      have eD := qdq (k + 2) (by omega) (advN 1 w) u2 (1 + u3) u4 GA.F.sml
      have GD := GA.drp u2 (1 + u3) u4
      have TD : Fit (drp (advN 1 w) u2 (1 + u3) u4) (2560000 + 119100 * (i + 1 : Nat)) := qgo TA (by omega)
      obtain ⟨w', j', h', e5, p5⟩ := qo3 k hk fu v0 v1 v2 v3 z l hl z5 l6 z7 l8 z9 l10 z11 l12 x13 x14 x15 x16 x17 x18 x19 x20 x21 x22 x23 x24 x25 x26 x27 x28 x29 n (i + 1) i4 k4 (drp (advN 1 w) u2 (1 + u3) u4) (by omega) (by omega) q4 r4 (GD.mono (by omega)) TD
      simp (disch := omega) only [e1, eA, qfg, qvt, qa6, nth0, qfi, qu2, qfj, qp3, qqu, qfu, qlg, qfw, qfx, qfy, qfz, qf0, qf1, qf2, qfk, qfl, qfm, qfn, qfo, qfp, qfq, qfr, qfs, qft, qfv, dT, nth1, qqs, qqt, e2, e3, e4, eD, e5, qgc] at e
      exact ⟨w', j', h', e, p5⟩
    · simp (disch := omega) only [e1, qfg, qvt, qa6, nth0, qu2, dF, nth1, qqs, qqt, qga] at e
      exact ⟨w, _, _, e, G.mono (by omega), ⟨by have := T.m; omega, T.bi, T.rain⟩⟩
theorem qfa (k : Nat) (hk : 2000000 ≤ k) (z : Bool) (l : List Int) (i h : Int) (hl : (l.length : Int) ≤ 1048576) (h0 : 0 ≤ i) (h1 : i ≤ l.length) :
    ∃ (w : Wd) (i' h' : Int), go (k + 12) spec_l36World [.ptr true [.arr false (z) (.ints .u8 (l)), .int .i64 (i), .int .i64 (h)]] = some [wdO w, .ptr true [.arr false (z) (.ints .u8 (l)), .int .i64 (i'), .int .i64 (h')]] ∧ Good w 4 ∧ Fit w 2800000 := by
  have e := qkk (k + 11) z l i h
  obtain ⟨r, c, m, t, b, i1, k1, e1, q1, F, r3, sm⟩ := qes k (by omega) z l i h hl h0 h1
  obtain ⟨p, i2, k2, e2, q2, P⟩ := qe6 (k + 7) (by omega) z l i1 k1 hl q1.1 q1.2
  have eN := qd7 (k + 3) (by omega) r c m t b F p P
  obtain ⟨w', j', h', e5, p5⟩ := qo3 k hk [] z l i h z l hl true [] true [] true [] true [] 0 0 0 0 0 0 0 0 0 0 0 0 0 0 0 0 0 (k + 11) 0 i2 k2 (nwW r c m t b p) (by omega) (by omega) q2.1 q2.2 (qp4 F P) ⟨by show isum m ≤ _; omega, P.bi, P.rain⟩
  rw [show ((0 : Nat) : Int) = 0 from rfl] at e5
  unfold nwW at e5 eN
  simp (disch := omega) only [e1, qa6, nth1, qqs, qu2, qqt, e2, nth0, qfi, qfj, qp3, qqu, qfu, qlg, qfw, qfx, qfy, qfz, qf0, qf1, eN, qf2, qfk, qfl, qfm, qfn, qfo, qfp, qfq, qfr, qfs, qft, qfv, e5] at e
  exact ⟨w', j', h', e, p5⟩
theorem qon (k : Nat) (hk : 2000000 ≤ k) (fu : List (Nat × Nat)) (z : Bool) (l : List Int) (hl : (l.length : Int) ≤ 1048576) (z4 : Bool) (l5 : List Cell) (z6 : Bool) (l7 : List Int) (z8 : Bool) (l9 : List Int) (z10 : Bool) (l11 : List Int) (x12 x13 x14 x15 x16 x17 x18 x19 x20 x21 x22 x23 x24 x25 x26 x27 x28 : Int) :
    ∀ (n t : Nat) (h : Int), t ≤ l.length → l.length - t < n →
    ∃ w : Wd, lp (k + 12) spec_DrawWorld [] fu 7800003 (n) (qsi h (t : Int) z l z4 l5 z6 l7 z8 l9 z10 l11 x12 x13 x14 x15 x16 x17 x18 x19 x20 x21 x22 x23 x24 x25 x26 x27 x28) = some [wdO w] ∧ Good w 4 ∧ Fit w 2800000
  | 0, t, h, ht, hn => by omega
  | n + 1, t, h, ht, hn => by
    have e := qmo (k + 12) n fu h (t : Int) z l z4 l5 z6 l7 z8 l9 z10 l11 x12 x13 x14 x15 x16 x17 x18 x19 x20 x21 x22 x23 x24 x25 x26 x27 x28
    obtain ⟨w, i1, h1, e1, p1⟩ := qfa k (by omega) z l 0 h hl (by omega) (by omega)
    by_cases g : t < l.length
    · by_cases g2 : (t : Int) < 4000
      · simp (disch := omega) only [nI, dT, Bool.and_true, Int.toNat_natCast, qfg, qvt, qgc] at e
        obtain ⟨w, e3, p3⟩ := qon k hk fu z l hl z4 l5 z6 l7 z8 l9 z10 l11 x12 x13 x14 x15 x16 x17 x18 x19 x20 x21 x22 x23 x24 x25 x26 x27 x28 n (t + 1) _ (by omega) (by omega)
        exact ⟨w, e.trans e3, p3⟩
      · simp (disch := omega) only [nI, dT, dF, Bool.and_true, Int.toNat_natCast, qfg, qvt, qgc, e1, qa6, nth0, qfi, qu2, qfj, qp3, qqu, qfu, qlg, qfw, qfx, qfy, qfz, qf0, qf1, qf2, qfk, qfl, qfm, qfn, qfo, qfp, qfq, qfr, qfs, qft, qfv, qga] at e
        exact ⟨w, e, p1⟩
    · simp (disch := omega) only [nI, dF, dT, Bool.and_false, Int.toNat_natCast, qfg, qvt, qga, e1, qa6, nth0, qfi, qu2, qfj, qp3, qqu, qfu, qlg, qfw, qfx, qfy, qfz, qf0, qf1, qf2, qfk, qfl, qfm, qfn, qfo, qfp, qfq, qfr, qfs, qft, qfv] at e
      exact ⟨w, e, p1⟩
theorem qdo (k : Nat) (hk : 2000000 ≤ k) (z : Bool) (l : List Int) (hl : (l.length : Int) ≤ 1048576) :
    ∃ w : Wd, go (k + 13) spec_DrawWorld [.arr false z (.ints .u8 l)] = some [wdO w] ∧ Good w 4 ∧ Fit w 2800000 := by
  have e := qix (k + 12) z l
  obtain ⟨w, e3, p3⟩ := qon k hk [] z l hl true [] true [] true [] true [] 0 0 0 0 0 0 0 0 0 0 0 0 0 0 0 0 0 (k + 12) 0 (IntKind.wrap .i64 (98231 + nI l.length)) (by omega) (by omega)
  rw [show ((0 : Nat) : Int) = 0 from rfl] at e3
  exact ⟨w, e.trans e3, p3⟩
end Go.Proofs.YtoldpdhhfmlckaaGreat
end
section
namespace Go.Proofs.YtoldpdhhfmlckaaGreat
open Go.Ev
theorem qng (pos : Int) (l : List Cell) : ∀ (n i : Nat), i + n = l.length → (∃ j, i ≤ j ∧ j < l.length ∧ cst (l.getD j zz3) ≤ pos ∧ pos < cst (l.getD j zz3) + qvl (l.getD j zz3).2.1) → 0 ≤ qne pos l n i
  | 0, i, h, ⟨j, h1, h2, _⟩ => by omega
  | n + 1, i, h, ⟨j, h1, h2, h3, h4⟩ => by
    unfold qne
    cases q : (decide (cst (l.getD i zz3) ≤ pos) && decide (pos < cst (l.getD i zz3) + qvl (l.getD i zz3).2.1))
    · have ne : i ≠ j := fun e => by
        subst e
        rw [dT h3, dT h4] at q
        cases q
      exact qng pos l n (i + 1) (by omega) ⟨j, by omega, h2, h3, h4⟩
    · show (0 : Int) ≤ (i : Int); omega
theorem qpp (r pos : Int) : ∀ (l : List Cell) (p : Int), qpm r p l = true → p ≤ pos → pos < 16 * r → ∃ j, j < l.length ∧ cst (l.getD j zz3) ≤ pos ∧ pos < cst (l.getD j zz3) + qvl (l.getD j zz3).2.1
  | [], p, h, h1, h2 => by
    simp only [qpm, Bool.and_eq_true, decide_eq_true_eq] at h
    omega
  | x :: l, p, h, h1, h2 => by
    simp only [qpm, Bool.and_eq_true, decide_eq_true_eq] at h
    by_cases g : pos < qt0 x.1 x.2.1 x.2.2 + qvl x.2.1
    · exact ⟨0, by simp, by show qt0 x.1 x.2.1 x.2.2 ≤ pos; omega, g⟩
    · obtain ⟨j, j1, j2, j3⟩ := qpp r pos l _ h.2.2 (by omega) h2
      exact ⟨j + 1, by simpa using j1, by simpa using j2, by simpa using j3⟩
theorem qnd {r : Int} {l : List Cell} (h : qpm r 0 l = true) {pos : Int} (h1 : 0 ≤ pos) (h2 : pos < 16 * r) : 0 ≤ qnb r l pos := by
  obtain ⟨j, j1, j2⟩ := qpp r pos l 0 h h1 h2
  unfold qnb
  rw [h, qgc]
  exact qng pos l l.length 0 (by omega) ⟨j, by omega, j1, j2⟩
end Go.Proofs.YtoldpdhhfmlckaaGreat
end
section
namespace Go.Proofs.YtoldpdhhfmlckaaGreat
open Go.Ev
theorem qij (k : Nat) (az : Bool) (a : List Int) : go (k + 1) laws_FnParted [(.arr false (az) (.ints IntKind.u8 (a)))] =
 (go k laws_big [(.arr false (az) (.ints IntKind.u8 (a)))]).bind fun r0 =>
 cond (bit (nth r0 0))
 (some [(.bool (true))])
 ((go k spec_DrawWorld [(.arr false (az) (.ints IntKind.u8 (a)))]).bind fun r1 =>
 (go k spec_DrawPlaces [(.arr false (az) (.ints IntKind.u8 (a)))]).bind fun r2 =>
 cond (decide ((0 : Int) ≤ (0 : Int)) && decide ((0 : Int) < nI (List.length (D.ints (nth r2 0)))))
 ((go k impl_PartAt [(.agg [(.int .i64 (D.toInt (D.cell 0 (nth r1 0)))), (.arr false (D.nil (D.cell 1 (nth r1 0))) (.r3 (D.r3 (D.cell 1 (nth r1 0))))), (.arr false (D.nil (D.cell 2 (nth r1 0))) (.ints .i64 (D.ints (D.cell 2 (nth r1 0))))), (.arr false (D.nil (D.cell 3 (nth r1 0))) (.ints .i64 (D.ints (D.cell 3 (nth r1 0))))), (.arr false (D.nil (D.cell 4 (nth r1 0))) (.ints .i64 (D.ints (D.cell 4 (nth r1 0))))), (.int .i64 (D.toInt (D.cell 5 (nth r1 0)))), (.int .i64 (D.toInt (D.cell 6 (nth r1 0)))), (.int .i64 (D.toInt (D.cell 7 (nth r1 0)))), (.int .i64 (0 : Int)), (.int .i64 (0 : Int)), (.int .i64 (D.toInt (D.cell 10 (nth r1 0)))), (.int .i64 (D.toInt (D.cell 11 (nth r1 0)))), (.int .i64 (D.toInt (D.cell (12 : Nat) (nth r1 0)))), (.int .i64 (D.toInt (D.cell (13 : Nat) (nth r1 0)))), (.int .i64 (D.toInt (D.cell (14 : Nat) (nth r1 0)))), (.int .i64 (D.toInt (D.cell (15 : Nat) (nth r1 0)))), (.int .i64 (D.toInt (D.cell (16 : Nat) (nth r1 0)))), (.int .i64 (D.toInt (D.cell (17 : Nat) (nth r1 0)))), (.int .i64 (D.toInt (D.cell (18 : Nat) (nth r1 0)))), (.int .i64 (D.toInt (D.cell (19 : Nat) (nth r1 0)))), (.int .i64 (D.toInt (D.cell (20 : Nat) (nth r1 0))))]), (.agg [(.int .i64 (D.toInt (D.cell 0 (nth r1 0)))), (.arr false (D.nil (D.cell 1 (nth r1 0))) (.r3 (D.r3 (D.cell 1 (nth r1 0))))), (.arr false (D.nil (D.cell 2 (nth r1 0))) (.ints .i64 (D.ints (D.cell 2 (nth r1 0))))), (.arr false (D.nil (D.cell 3 (nth r1 0))) (.ints .i64 (D.ints (D.cell 3 (nth r1 0))))), (.arr false (D.nil (D.cell 4 (nth r1 0))) (.ints .i64 (D.ints (D.cell 4 (nth r1 0))))), (.int .i64 (D.toInt (D.cell 5 (nth r1 0)))), (.int .i64 (D.toInt (D.cell 6 (nth r1 0)))), (.int .i64 (D.toInt (D.cell 7 (nth r1 0)))), (.int .i64 (IntKind.wrap .i64 ((16 : Int) + Int.tmod (List.getD (D.ints (nth r2 0)) (Int.toNat (0 : Int)) (0 : Int)) (9000 : Int)))), (.int .i64 (0 : Int)), (.int .i64 (D.toInt (D.cell 10 (nth r1 0)))), (.int .i64 (D.toInt (D.cell 11 (nth r1 0)))), (.int .i64 (D.toInt (D.cell (12 : Nat) (nth r1 0)))), (.int .i64 (D.toInt (D.cell (13 : Nat) (nth r1 0)))), (.int .i64 (D.toInt (D.cell (14 : Nat) (nth r1 0)))), (.int .i64 (D.toInt (D.cell (15 : Nat) (nth r1 0)))), (.int .i64 (D.toInt (D.cell (16 : Nat) (nth r1 0)))), (.int .i64 (D.toInt (D.cell (17 : Nat) (nth r1 0)))), (.int .i64 (D.toInt (D.cell (18 : Nat) (nth r1 0)))), (.int .i64 (D.toInt (D.cell (19 : Nat) (nth r1 0)))), (.int .i64 (D.toInt (D.cell (20 : Nat) (nth r1 0))))]), (.int .i64 ((3 : Int)))]).bind fun r3 =>
 cond (decide ((0 : Int) ≤ (1 : Int)) && decide ((1 : Int) < nI (List.length (D.ints (nth r2 0)))))
 ((go k spec_Drop [(.agg [(.int .i64 (D.toInt (D.cell 0 (nth r1 0)))), (.arr false (D.nil (D.cell 1 (nth r1 0))) (.r3 (D.r3 (D.cell 1 (nth r1 0))))), (.arr false (D.nil (D.cell 2 (nth r1 0))) (.ints .i64 (D.ints (D.cell 2 (nth r1 0))))), (.arr false (D.nil (D.cell 3 (nth r1 0))) (.ints .i64 (D.ints (D.cell 3 (nth r1 0))))), (.arr false (D.nil (D.cell 4 (nth r1 0))) (.ints .i64 (D.ints (D.cell 4 (nth r1 0))))), (.int .i64 (D.toInt (D.cell 5 (nth r1 0)))), (.int .i64 (D.toInt (D.cell 6 (nth r1 0)))), (.int .i64 (D.toInt (D.cell 7 (nth r1 0)))), (.int .i64 (0 : Int)), (.int .i64 (0 : Int)), (.int .i64 (D.toInt (D.cell 10 (nth r1 0)))), (.int .i64 (D.toInt (D.cell 11 (nth r1 0)))), (.int .i64 (D.toInt (D.cell (12 : Nat) (nth r1 0)))), (.int .i64 (D.toInt (D.cell (13 : Nat) (nth r1 0)))), (.int .i64 (D.toInt (D.cell (14 : Nat) (nth r1 0)))), (.int .i64 (D.toInt (D.cell (15 : Nat) (nth r1 0)))), (.int .i64 (D.toInt (D.cell (16 : Nat) (nth r1 0)))), (.int .i64 (D.toInt (D.cell (17 : Nat) (nth r1 0)))), (.int .i64 (D.toInt (D.cell (18 : Nat) (nth r1 0)))), (.int .i64 (D.toInt (D.cell (19 : Nat) (nth r1 0)))), (.int .i64 (D.toInt (D.cell (20 : Nat) (nth r1 0))))]), (.int .i64 (0 : Int)), (.int .i64 (IntKind.wrap .i64 ((1 : Int) + List.getD (D.ints (nth r2 0)) (Int.toNat (1 : Int)) (0 : Int)))), (.int .i64 (0 : Int))]).bind fun r4 =>
 (go k impl_PartAt [(.agg [(.int .i64 (D.toInt (D.cell 0 (nth r1 0)))), (.arr false (D.nil (D.cell 1 (nth r1 0))) (.r3 (D.r3 (D.cell 1 (nth r1 0))))), (.arr false (D.nil (D.cell 2 (nth r1 0))) (.ints .i64 (D.ints (D.cell 2 (nth r1 0))))), (.arr false (D.nil (D.cell 3 (nth r1 0))) (.ints .i64 (D.ints (D.cell 3 (nth r1 0))))), (.arr false (D.nil (D.cell 4 (nth r1 0))) (.ints .i64 (D.ints (D.cell 4 (nth r1 0))))), (.int .i64 (D.toInt (D.cell 5 (nth r1 0)))), (.int .i64 (D.toInt (D.cell 6 (nth r1 0)))), (.int .i64 (D.toInt (D.cell 7 (nth r1 0)))), (.int .i64 (0 : Int)), (.int .i64 (0 : Int)), (.int .i64 (D.toInt (D.cell 10 (nth r1 0)))), (.int .i64 (D.toInt (D.cell 11 (nth r1 0)))), (.int .i64 (D.toInt (D.cell (12 : Nat) (nth r1 0)))), (.int .i64 (D.toInt (D.cell (13 : Nat) (nth r1 0)))), (.int .i64 (D.toInt (D.cell (14 : Nat) (nth r1 0)))), (.int .i64 (D.toInt (D.cell (15 : Nat) (nth r1 0)))), (.int .i64 (D.toInt (D.cell (16 : Nat) (nth r1 0)))), (.int .i64 (D.toInt (D.cell (17 : Nat) (nth r1 0)))), (.int .i64 (D.toInt (D.cell (18 : Nat) (nth r1 0)))), (.int .i64 (D.toInt (D.cell (19 : Nat) (nth r1 0)))), (.int .i64 (D.toInt (D.cell (20 : Nat) (nth r1 0))))]), (.agg [(.int .i64 (D.toInt (D.cell 0 (nth r1 0)))), (.arr false (D.nil (D.cell 1 (nth r1 0))) (.r3 (D.r3 (D.cell 1 (nth r1 0))))), (.arr false (D.nil (D.cell 2 (nth r1 0))) (.ints .i64 (D.ints (D.cell 2 (nth r1 0))))), (.arr false (D.nil (D.cell 3 (nth r1 0))) (.ints .i64 (D.ints (D.cell 3 (nth r1 0))))), (.arr false (D.nil (D.cell 4 (nth r1 0))) (.ints .i64 (D.ints (D.cell 4 (nth r1 0))))), (.int .i64 (D.toInt (D.cell 5 (nth r1 0)))), (.int .i64 (D.toInt (D.cell 6 (nth r1 0)))), (.int .i64 (D.toInt (D.cell 7 (nth r1 0)))), (.int .i64 (0 : Int)), (.int .i64 (0 : Int)), (.int .i64 (D.toInt (D.cell 10 (nth r1 0)))), (.int .i64 (D.toInt (D.cell 11 (nth r1 0)))), (.int .i64 (D.toInt (D.cell (12 : Nat) (nth r1 0)))), (.int .i64 (D.toInt (D.cell (13 : Nat) (nth r1 0)))), (.int .i64 (D.toInt (D.cell (14 : Nat) (nth r1 0)))), (.int .i64 (D.toInt (D.cell (15 : Nat) (nth r1 0)))), (.int .i64 (D.toInt (D.cell (16 : Nat) (nth r1 0)))), (.int .i64 (D.toInt (D.cell (17 : Nat) (nth r1 0)))), (.int .i64 (D.toInt (D.cell (18 : Nat) (nth r1 0)))), (.int .i64 (D.toInt (D.cell (19 : Nat) (nth r1 0)))), (.int .i64 (D.toInt (D.cell (20 : Nat) (nth r1 0))))]), (.int .i64 ((3 : Int)))]).bind fun r5 =>
 cond (decide (D.toInt (nth r5 0) = (-1 : Int)))
 (cond (decide (D.toInt (nth r3 0) = (1 : Int)))
 ((go k impl_PartAt [(.agg [(.int .i64 (D.toInt (D.cell 0 (nth r1 0)))), (.arr false (D.nil (D.cell 1 (nth r1 0))) (.r3 (D.r3 (D.cell 1 (nth r1 0))))), (.arr false (D.nil (D.cell 2 (nth r1 0))) (.ints .i64 (D.ints (D.cell 2 (nth r1 0))))), (.arr false (D.nil (D.cell 3 (nth r1 0))) (.ints .i64 (D.ints (D.cell 3 (nth r1 0))))), (.arr false (D.nil (D.cell 4 (nth r1 0))) (.ints .i64 (D.ints (D.cell 4 (nth r1 0))))), (.int .i64 (D.toInt (D.cell 5 (nth r1 0)))), (.int .i64 (D.toInt (D.cell 6 (nth r1 0)))), (.int .i64 (D.toInt (D.cell 7 (nth r1 0)))), (.int .i64 (0 : Int)), (.int .i64 (0 : Int)), (.int .i64 (D.toInt (D.cell 10 (nth r1 0)))), (.int .i64 (D.toInt (D.cell 11 (nth r1 0)))), (.int .i64 (D.toInt (D.cell (12 : Nat) (nth r1 0)))), (.int .i64 (D.toInt (D.cell (13 : Nat) (nth r1 0)))), (.int .i64 (D.toInt (D.cell (14 : Nat) (nth r1 0)))), (.int .i64 (D.toInt (D.cell (15 : Nat) (nth r1 0)))), (.int .i64 (D.toInt (D.cell (16 : Nat) (nth r1 0)))), (.int .i64 (D.toInt (D.cell (17 : Nat) (nth r1 0)))), (.int .i64 (D.toInt (D.cell (18 : Nat) (nth r1 0)))), (.int .i64 (D.toInt (D.cell (19 : Nat) (nth r1 0)))), (.int .i64 (D.toInt (D.cell (20 : Nat) (nth r1 0))))]), (.agg [(.int .i64 (D.toInt (D.cell 0 (nth r4 0)))), (.arr false (D.nil (D.cell 1 (nth r4 0))) (.r3 (D.r3 (D.cell 1 (nth r4 0))))), (.arr false (D.nil (D.cell 2 (nth r4 0))) (.ints .i64 (D.ints (D.cell 2 (nth r4 0))))), (.arr false (D.nil (D.cell 3 (nth r4 0))) (.ints .i64 (D.ints (D.cell 3 (nth r4 0))))), (.arr false (D.nil (D.cell 4 (nth r4 0))) (.ints .i64 (D.ints (D.cell 4 (nth r4 0))))), (.int .i64 (D.toInt (D.cell 5 (nth r4 0)))), (.int .i64 (D.toInt (D.cell 6 (nth r4 0)))), (.int .i64 (D.toInt (D.cell 7 (nth r4 0)))), (.int .i64 (D.toInt (D.cell 8 (nth r4 0)))), (.int .i64 (D.toInt (D.cell 9 (nth r4 0)))), (.int .i64 (D.toInt (D.cell 10 (nth r4 0)))), (.int .i64 (D.toInt (D.cell 11 (nth r4 0)))), (.int .i64 (D.toInt (D.cell (12 : Nat) (nth r4 0)))), (.int .i64 (D.toInt (D.cell (13 : Nat) (nth r4 0)))), (.int .i64 (D.toInt (D.cell (14 : Nat) (nth r4 0)))), (.int .i64 (D.toInt (D.cell (15 : Nat) (nth r4 0)))), (.int .i64 (D.toInt (D.cell (16 : Nat) (nth r4 0)))), (.int .i64 (D.toInt (D.cell (17 : Nat) (nth r4 0)))), (.int .i64 (D.toInt (D.cell (18 : Nat) (nth r4 0)))), (.int .i64 (D.toInt (D.cell (19 : Nat) (nth r4 0)))), (.int .i64 (D.toInt (D.cell (20 : Nat) (nth r4 0))))]), (.int .i64 ((3 : Int)))]).bind fun r6 =>
 some [(.bool (decide (D.toInt (nth r6 0) = (0 : Int))))])
 (some [(.bool (false))]))
 (some [(.bool (false))]))
 (none))
 (none)) := by kernel_rfl

end Go.Proofs.YtoldpdhhfmlckaaGreat
end
section
namespace Go.Proofs.YtoldpdhhfmlckaaGreat
open Go.Ev
set_option maxRecDepth 20000
def wet (w : Wd) (q : Int) : Wd := { w with p := { w.p with rain := q, loss := 0 } }
theorem Good.wet {w : Wd} {K : Nat} (G : Good w K) {q : Int} (hq : 0 ≤ q ∧ q ≤ 10000) : Good (wet w q) K := by
  have p := G.p
  simp only [qqo, qbc, Bool.and_eq_true, qle] at p
  exact ⟨G.F, by simp only [Go.Proofs.YtoldpdhhfmlckaaGreat.wet, qqo, qbc, Bool.and_eq_true, qle]; omega, G.k, G.L, G.f, G.g⟩
theorem qug {f : Nat → Int} : ∀ n, (∀ j, j < n → f j = 0) → qt9 f n = 0
  | 0, _ => rfl
  | n + 1, h => by
    have a := qug n (fun j hj => h j (by omega))
    have b := h n (by omega)
    simp only [qt9]; omega
theorem qnk (l : List Cell) (h : qab l) (j : Nat) : 1 ≤ qvl (qnj l j) := by
  have := h j
  obtain h1 | h1 | h1 | h1 | h1 : qnj l j = 0 ∨ qnj l j = 1 ∨ qnj l j = 2 ∨ qnj l j = 3 ∨ qnj l j = 4 := by omega
  all_goals rw [h1]; decide
theorem qpb {r : Int} {b : List Int} {s : S3} (F : StF r s.1 s.2.1 s.2.2 b) {p : Pl} (P : PlF p) (hl : p.loss = 0) (k : Int) :
    isum (mac p b k s).1.2.1 = isum (boS p.bi p.bs p.bo s.2).1.1 + (raS p.rain s.1 (boS p.bi p.bs p.bo s.2).1).2.mi := by
  have h1 := qa9 (m := s.2.1) (t := s.2.2) F P.bi P.bs P.bo
  have h2 := qqv h1.1 P.rain
  have h := (qo9 F P k).2
  have e := h.m
  have e1 := h1.2.m
  have z : qt9 (soX 0 s.1 (raS p.rain s.1 (boS p.bi p.bs p.bo s.2).1).1.1) s.1.length = 0 := qug _ (fun j hj => by
    have a := (h2.1.at j).1
    have q : part 0 s.1 j = 0 := by unfold part; omega
    unfold soX; rw [q]; exact Int.min_eq_right a)
  have e2 : (mac p b k s).2.mi = (boS p.bi p.bs p.bo s.2).2.mi + (raS p.rain s.1 (boS p.bi p.bs p.bo s.2).1).2.mi := by
    show (boS p.bi p.bs p.bo s.2).2.mi + (raS p.rain s.1 (boS p.bi p.bs p.bo s.2).1).2.mi + 0 + 0 = _
    omega
  have e3 : (mac p b k s).2.mo = (boS p.bi p.bs p.bo s.2).2.mo + (raS p.rain s.1 (boS p.bi p.bs p.bo s.2).1).2.mo := by
    show (boS p.bi p.bs p.bo s.2).2.mo + (raS p.rain s.1 (boS p.bi p.bs p.bo s.2).1).2.mo + qt9 (soX p.loss s.1 (raS p.rain s.1 (boS p.bi p.bs p.bo s.2).1).1.1) s.1.length + 0 = _
    rw [hl, z]; omega
  have e4 : (raS p.rain s.1 (boS p.bi p.bs p.bo s.2).1).2.mo = 0 := by
    unfold raS
    split <;> rfl
  have e1' : isum (boS p.bi p.bs p.bo s.2).1.1 = isum s.2.1 + (boS p.bi p.bs p.bo s.2).2.mi - (boS p.bi p.bs p.bo s.2).2.mo := e1
  omega
theorem qqy (l : List Cell) (x : S2) : (raS 0 l x).2.mi = 0 := by
  have z : qt9 (part 0 l) l.length = 0 := qug _ (fun j hj => by unfold part; omega)
  unfold raS
  rw [z]
  split <;> rfl
theorem qqz {r : Int} {l : List Cell} {x : S2} {b : List Int} (F : StF r l x.1 x.2 b) {q : Int} (hq : 16 ≤ q ∧ q ≤ 10000) (hx : isum x.1 ≤ 8000000) : 1 ≤ (raS q l x).2.mi := by
  have L := F.len
  have c := qql (a := q) (by omega) l l.length
  have w := qnk l (qpt _ _ _ F.mesh) 0
  have a0 : 1 ≤ part q l 0 := by
    unfold part
    have : q * 1 ≤ q * qvl (qnj l 0) := Int.mul_le_mul_of_nonneg_left w (by omega)
    omega
  have a1 := qub (f := part q l) l.length 0 (fun j _ => (qqk (a := q) (by omega) l j).1) (by omega)
  unfold raS
  rw [if_pos (by omega)]
  show 1 ≤ qt9 (part q l) l.length
  omega
theorem qs5 {a b : Wd} (h : isum a.s.2.1 ≠ isum b.s.2.1) : samW a b = false := by
  cases g : samW a b
  · rfl
  · unfold samW qs8 at g
    simp only [Bool.and_eq_true, decide_eq_true_eq] at g
    rw [g.2.1] at h
    exact absurd rfl h
theorem qs6 (a b : Wd) (h1 : a.r = b.r) (h2 : a.s = b.s) (h3 : a.b = b.b) : samW a b = true := by
  unfold samW qs8 qs7
  rw [h1, h2, h3]
  simp
theorem qqq : ∀ (n : Nat) (i : Int) (a : Wd), prtN n i a a = -1
  | 0, i, a => rfl
  | n + 1, i, a => by
    unfold prtN
    rw [qs6 a a rfl rfl rfl, qgc]
    exact qqq n (i + 1) (adv a 1)
theorem law_FnParted (k : Nat) (hk : 2000000 ≤ k) (az : Bool) (a : List Int) : go (k + 14) laws_FnParted [(.arr false (az) (.ints IntKind.u8 (a)))] = some [.bool true] := by
  by_cases h : 1048576 < (a.length : Int)
  · rw [qij]; simp (disch := omega) only [qc9, dT, bit, nI, Bool.true_and, qa6, nth0, qu1, qgc]
  have h : (a.length : Int) ≤ 1048576 := by omega
  obtain ⟨w, eD, G, T⟩ := qdo k (by omega) az a h
  obtain ⟨P, eP, hP, pP⟩ := qdn (k + 10) (by omega) az a h
  have p0 := pP _ (qk1 (show 0 < P.length by omega) 0)
  have p1 := pP _ (qk1 (show 1 < P.length by omega) 0)
  have t0 : Int.tmod (P.getD 0 0) 9000 = P.getD 0 0 % 9000 := Int.tmod_eq_emod_of_nonneg p0.1
  obtain ⟨q, hq⟩ : ∃ q, 16 + P.getD 0 0 % 9000 = q := ⟨_, rfl⟩
  obtain ⟨c, hc⟩ : ∃ c, 1 + P.getD 1 0 = c := ⟨_, rfl⟩
  have q0 : 16 ≤ q ∧ q ≤ 10000 := by omega
  have c0 : 1 ≤ c ∧ c ≤ 10000 := by omega
  have GX := G.wet (q := q) (by omega)
  have GW := G.wet (q := 0) (by omega)
  have rr := G.F.rr
  have sm := T.m
  -- after one step
  have A := qay GX (by omega) 1 (by omega)
  have B := qay GW (by omega) 1 (by omega)
  rw [show ((1 : Nat) : Int) = 1 from rfl] at A B
  have sx := qpb (s := w.s) (p := (wet w q).p) G.F (qqn GX.p) rfl w.k
  have sw := qpb (s := w.s) (p := (wet w 0).p) G.F (qqn GW.p) rfl w.k
  have Q := qqn G.p
  have hb := qa9 (m := w.s.2.1) (t := w.s.2.2) G.F Q.bi Q.bs Q.bo
  have bm := hb.2.m
  have bmo := hb.2.mo
  have bmi : (boS w.p.bi w.p.bs w.p.bo w.s.2).2.mi ≤ 3000 := by
    have := T.bi
    unfold boS
    split
    · exact T.bi
    · show (0 : Int) ≤ 3000; decide
  have bs : isum (boS w.p.bi w.p.bs w.p.bo w.s.2).1.1 ≤ 8000000 := by
    have bm' : isum (boS w.p.bi w.p.bs w.p.bo w.s.2).1.1 = isum w.s.2.1 + (boS w.p.bi w.p.bs w.p.bo w.s.2).2.mi - (boS w.p.bi w.p.bs w.p.bo w.s.2).2.mo := bm
    have bmo' : 0 ≤ (boS w.p.bi w.p.bs w.p.bo w.s.2).2.mo ∧ _ := bmo
    omega
  have rw1 := qqz (r := w.r) (l := w.s.1) (x := (boS w.p.bi w.p.bs w.p.bo w.s.2).1) hb.1 q0 bs
  have ne : isum (advN 1 (wet w 0)).s.2.1 ≠ isum (advN 1 (wet w q)).s.2.1 := by
    have sx' : isum (advN 1 (wet w q)).s.2.1 = isum (boS w.p.bi w.p.bs w.p.bo w.s.2).1.1 + (raS q w.s.1 (boS w.p.bi w.p.bs w.p.bo w.s.2).1).2.mi := sx
    have sw' : isum (advN 1 (wet w 0)).s.2.1 = isum (boS w.p.bi w.p.bs w.p.bo w.s.2).1.1 + (raS 0 w.s.1 (boS w.p.bi w.p.bs w.p.bo w.s.2).1).2.mi := sw
    rw [qqy] at sw'
    omega
  have n1 : prtN 4 0 (wet w 0) (wet w q) = 1 := by
    unfold prtN
    rw [qs6 (wet w 0) (wet w q) rfl rfl rfl, qgc, A.1, B.1]
    unfold prtN
    rw [qs5 ne, qga]
    rfl
  -- a drop
  have lf := qnd G.F.mesh (pos := 0) (by omega) (by omega)
  have lg := qnc w.r w.s.1 0
  have ok : qgn (wet w 0) 0 c 0 = true := by
    have o : wdOk (wet w 0) = true := GW.ok (by omega)
    have s : isum (wet w 0).s.2.1 ≤ 2800000 := T.m
    have l0 : 0 ≤ qnb (wet w 0).r (wet w 0).s.1 0 := lf
    unfold wdOk at o
    unfold qgn qgk
    rw [o, qle.2 c0, show inR 0 0 1000 = true by decide, dT (by omega), dT l0]; rfl
  have eR := qdq (k + 4) (by omega) (wet w 0) 0 c 0 GW.F.sml
  have Gy := GW.drp1 ok
  rw [ok, show drp (wet w 0) 0 c 0 = drp1 (wet w 0) 0 c 0 by unfold drp; rw [ok]; rfl] at eR
  have ml := G.F.ml
  have em : isum (drp1 (wet w 0) 0 c 0).s.2.1 = isum w.s.2.1 + c := by
    show isum (w.s.2.1.set (qnb w.r w.s.1 0).toNat (w.s.2.1.getD (qnb w.r w.s.1 0).toNat 0 + c)) = _
    rw [qlo _ _ _ (by omega)]; omega
  obtain ⟨y, hy⟩ : ∃ y, y = drp1 (wet w 0) 0 c 0 := ⟨_, rfl⟩
  rw [← hy] at eR Gy em
  have n2 : prtN 4 0 (wet w 0) y = 0 := by
    unfold prtN
    rw [qs5 (by show isum w.s.2.1 ≠ _; omega), qga]
  have i3 : inR 3 0 100 = true := by decide
  have e3 := qbs k (by omega) (wet w 0) (wet w q) 3 GW.F.sml GX.F.sml
  rw [GW.ok (by omega), GX.ok (by omega), i3, show (3 : Int).toNat + 1 = 4 from rfl, n1] at e3
  have e5 := qbs k (by omega) (wet w 0) (wet w 0) 3 GW.F.sml GW.F.sml
  rw [GW.ok (by omega), i3, show (3 : Int).toNat + 1 = 4 from rfl, qqq] at e5
  have e6 := qbs k (by omega) (wet w 0) y 3 GW.F.sml Gy.F.sml
  rw [GW.ok (by omega), Gy.ok (by omega), i3, show (3 : Int).toNat + 1 = 4 from rfl, n2] at e6
  unfold wet at e3 e5 e6 eR
  simp only [Bool.and_self, qgc] at e3 e5 e6
  rw [qij]
  simp (disch := omega) only [qc9, dF, bit, eD, eP, dT, nI, Bool.true_and, show Int.toNat 0 = 0 from rfl, show Int.toNat 1 = 1 from rfl, qa6, nth0, qlg, hP, t0, hq, qvt, hc, qgc, qfi, qu2, qfj, qp3, qqu, qfu, qfw, qfx, qfy, qfz, qf0, qfk, qfl, qfm, qfn, qfo, qfp, qfq, qfr, qfs, qft, qfv, e3, eR, e5, dTT, qf1, qf2, e6, qu1, qga]
end Go.Proofs.YtoldpdhhfmlckaaGreat
end
