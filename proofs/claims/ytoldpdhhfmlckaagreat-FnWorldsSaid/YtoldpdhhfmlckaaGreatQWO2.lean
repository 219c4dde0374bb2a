/- What the program's functions compute, and plain facts of it (part 2). No condition beyond those that each theorem states. -/
import Derived.Test.YtoldpdhhfmlckaaGreatQWO1
set_option linter.unusedVariables false
set_option linter.unusedSimpArgs false
section
namespace Go.Proofs.YtoldpdhhfmlckaaGreat
open Go.Ev
def qwz (x0 x1 : Int) (z2 : Bool) (l3 : List (Int × Int × Int)) (z4 : Bool) (l5 : List Int) (z6 : Bool) (l7 : List Int) (z8 : Bool) (l9 : List Int) (x10 x11 x12 x13 x14 x15 x16 x17 x18 x19 x20 x21 x22 x23 x24 x25 x26 : Int) (z27 : Bool) (l28 : List (Int × Int × Int)) (z29 : Bool) (l30 : List Int) (z31 : Bool) (l32 : List Int) (z33 : Bool) (l34 : List Int) (x35 x36 x37 x38 x39 x40 x41 x42 x43 x44 x45 x46 x47 x48 x49 x50 x51 : Int) : St := ⟨fill 49 [(1, (.int .i64 x0)), (4, (.ptr 4 0 0)), (6, (.ptr 9 0 0)), (7, (.int .i64 x1))], [], [(.arr true z2 (.r3 l3)), (.arr true z4 (.ints .i64 l5)), (.arr true z6 (.ints .i64 l7)), (.arr true z8 (.ints .i64 l9)), (.box true [(.int .i64 x10), (.sl 0 none), (.sl 1 none), (.sl 2 none), (.sl 3 none), (.int .i64 x11), (.int .i64 x12), (.int .i64 x13), (.int .i64 x14), (.int .i64 x15), (.int .i64 x16), (.int .i64 x17), (.int .i64 x18), (.int .i64 x19), (.int .i64 x20), (.int .i64 x21), (.int .i64 x22), (.int .i64 x23), (.int .i64 x24), (.int .i64 x25), (.int .i64 x26)]), (.arr true z27 (.r3 l28)), (.arr true z29 (.ints .i64 l30)), (.arr true z31 (.ints .i64 l32)), (.arr true z33 (.ints .i64 l34)), (.box true [(.int .i64 x35), (.sl 5 none), (.sl 6 none), (.sl 7 none), (.sl 8 none), (.int .i64 x36), (.int .i64 x37), (.int .i64 x38), (.int .i64 x39), (.int .i64 x40), (.int .i64 x41), (.int .i64 x42), (.int .i64 x43), (.int .i64 x44), (.int .i64 x45), (.int .i64 x46), (.int .i64 x47), (.int .i64 x48), (.int .i64 x49), (.int .i64 x50), (.int .i64 x51)])]⟩
theorem qk1 (k : Nat) (a0 : Int) (a1z : Bool) (a1 : List (Int × Int × Int)) (a2z : Bool) (a2 : List Int) (a3z : Bool) (a3 : List Int) (a4z : Bool) (a4 : List Int) (a5 a6 a7 a8 a9 a10 a11 a12 a13 a14 a15 a16 a17 a18 a19 a20 b : Int) : go (k + 1) spec_Advance [(.agg [(.int .i64 a0), (.arr false a1z (.r3 a1)), (.arr false a2z (.ints .i64 a2)), (.arr false a3z (.ints .i64 a3)), (.arr false a4z (.ints .i64 a4)), (.int .i64 a5), (.int .i64 a6), (.int .i64 a7), (.int .i64 a8), (.int .i64 a9), (.int .i64 a10), (.int .i64 a11), (.int .i64 a12), (.int .i64 a13), (.int .i64 a14), (.int .i64 a15), (.int .i64 a16), (.int .i64 a17), (.int .i64 a18), (.int .i64 a19), (.int .i64 a20)]), (.int .i64 b)] =
 (go k spec_l36Copy [(.agg [(.int .i64 a0), (.arr false a1z (.r3 a1)), (.arr false a2z (.ints .i64 a2)), (.arr false a3z (.ints .i64 a3)), (.arr false a4z (.ints .i64 a4)), (.int .i64 a5), (.int .i64 a6), (.int .i64 a7), (.int .i64 a8), (.int .i64 a9), (.int .i64 a10), (.int .i64 a11), (.int .i64 a12), (.int .i64 a13), (.int .i64 a14), (.int .i64 a15), (.int .i64 a16), (.int .i64 a17), (.int .i64 a18), (.int .i64 a19), (.int .i64 a20)])]).bind fun r0 =>
 (go k spec_WorldOk [(.agg [(.int .i64 a0), (.arr false a1z (.r3 a1)), (.arr false a2z (.ints .i64 a2)), (.arr false a3z (.ints .i64 a3)), (.arr false a4z (.ints .i64 a4)), (.int .i64 a5), (.int .i64 a6), (.int .i64 a7), (.int .i64 a8), (.int .i64 a9), (.int .i64 a10), (.int .i64 a11), (.int .i64 a12), (.int .i64 a13), (.int .i64 a14), (.int .i64 a15), (.int .i64 a16), (.int .i64 a17), (.int .i64 a18), (.int .i64 a19), (.int .i64 a20)])]).bind fun r1 =>
 cond (!bit (nth r1 0))
 (some [(.agg [(.int .i64 (D.toInt (D.cell 0 (nth r0 0)))), (.arr true (D.nil (D.cell 1 (nth r0 0))) (.r3 (D.r3 (D.cell 1 (nth r0 0))))), (.arr true (D.nil (D.cell 2 (nth r0 0))) (.ints .i64 (D.ints (D.cell 2 (nth r0 0))))), (.arr true (D.nil (D.cell 3 (nth r0 0))) (.ints .i64 (D.ints (D.cell 3 (nth r0 0))))), (.arr true (D.nil (D.cell 4 (nth r0 0))) (.ints .i64 (D.ints (D.cell 4 (nth r0 0))))), (.int .i64 (D.toInt (D.cell 5 (nth r0 0)))), (.int .i64 (D.toInt (D.cell 6 (nth r0 0)))), (.int .i64 (D.toInt (D.cell 7 (nth r0 0)))), (.int .i64 (D.toInt (D.cell 8 (nth r0 0)))), (.int .i64 (D.toInt (D.cell 9 (nth r0 0)))), (.int .i64 (D.toInt (D.cell 10 (nth r0 0)))), (.int .i64 (D.toInt (D.cell 11 (nth r0 0)))), (.int .i64 (D.toInt (D.cell (12 : Nat) (nth r0 0)))), (.int .i64 (D.toInt (D.cell (13 : Nat) (nth r0 0)))), (.int .i64 (D.toInt (D.cell (14 : Nat) (nth r0 0)))), (.int .i64 (D.toInt (D.cell (15 : Nat) (nth r0 0)))), (.int .i64 (D.toInt (D.cell (16 : Nat) (nth r0 0)))), (.int .i64 (D.toInt (D.cell (17 : Nat) (nth r0 0)))), (.int .i64 (D.toInt (D.cell (18 : Nat) (nth r0 0)))), (.int .i64 (D.toInt (D.cell (19 : Nat) (nth r0 0)))), (.int .i64 (D.toInt (D.cell (20 : Nat) (nth r0 0))))]), (.bool false)])
 ((go k spec_l01In [(.int .i64 b), (.int .i64 (0 : Int)), (.int .i64 ((100 : Int)))]).bind fun r2 =>
 cond (!bit (nth r2 0))
 (some [(.agg [(.int .i64 (D.toInt (D.cell 0 (nth r0 0)))), (.arr true (D.nil (D.cell 1 (nth r0 0))) (.r3 (D.r3 (D.cell 1 (nth r0 0))))), (.arr true (D.nil (D.cell 2 (nth r0 0))) (.ints .i64 (D.ints (D.cell 2 (nth r0 0))))), (.arr true (D.nil (D.cell 3 (nth r0 0))) (.ints .i64 (D.ints (D.cell 3 (nth r0 0))))), (.arr true (D.nil (D.cell 4 (nth r0 0))) (.ints .i64 (D.ints (D.cell 4 (nth r0 0))))), (.int .i64 (D.toInt (D.cell 5 (nth r0 0)))), (.int .i64 (D.toInt (D.cell 6 (nth r0 0)))), (.int .i64 (D.toInt (D.cell 7 (nth r0 0)))), (.int .i64 (D.toInt (D.cell 8 (nth r0 0)))), (.int .i64 (D.toInt (D.cell 9 (nth r0 0)))), (.int .i64 (D.toInt (D.cell 10 (nth r0 0)))), (.int .i64 (D.toInt (D.cell 11 (nth r0 0)))), (.int .i64 (D.toInt (D.cell (12 : Nat) (nth r0 0)))), (.int .i64 (D.toInt (D.cell (13 : Nat) (nth r0 0)))), (.int .i64 (D.toInt (D.cell (14 : Nat) (nth r0 0)))), (.int .i64 (D.toInt (D.cell (15 : Nat) (nth r0 0)))), (.int .i64 (D.toInt (D.cell (16 : Nat) (nth r0 0)))), (.int .i64 (D.toInt (D.cell (17 : Nat) (nth r0 0)))), (.int .i64 (D.toInt (D.cell (18 : Nat) (nth r0 0)))), (.int .i64 (D.toInt (D.cell (19 : Nat) (nth r0 0)))), (.int .i64 (D.toInt (D.cell (20 : Nat) (nth r0 0))))]), (.bool false)])
 (lp k spec_Advance [] [] 5 k (qwz b (0 : Int) true [] true [] true [] true [] (0 : Int) (0 : Int) (0 : Int) (0 : Int) (0 : Int) (0 : Int) (0 : Int) (0 : Int) (0 : Int) (0 : Int) (0 : Int) (0 : Int) (0 : Int) (0 : Int) (0 : Int) (0 : Int) (0 : Int) (D.nil (D.cell 1 (nth r0 0))) (D.r3 (D.cell 1 (nth r0 0))) (D.nil (D.cell 2 (nth r0 0))) (D.ints (D.cell 2 (nth r0 0))) (D.nil (D.cell 3 (nth r0 0))) (D.ints (D.cell 3 (nth r0 0))) (D.nil (D.cell 4 (nth r0 0))) (D.ints (D.cell 4 (nth r0 0))) (D.toInt (D.cell 0 (nth r0 0))) (D.toInt (D.cell 5 (nth r0 0))) (D.toInt (D.cell 6 (nth r0 0))) (D.toInt (D.cell 7 (nth r0 0))) (D.toInt (D.cell 8 (nth r0 0))) (D.toInt (D.cell 9 (nth r0 0))) (D.toInt (D.cell 10 (nth r0 0))) (D.toInt (D.cell 11 (nth r0 0))) (D.toInt (D.cell (12 : Nat) (nth r0 0))) (D.toInt (D.cell (13 : Nat) (nth r0 0))) (D.toInt (D.cell (14 : Nat) (nth r0 0))) (D.toInt (D.cell (15 : Nat) (nth r0 0))) (D.toInt (D.cell (16 : Nat) (nth r0 0))) (D.toInt (D.cell (17 : Nat) (nth r0 0))) (D.toInt (D.cell (18 : Nat) (nth r0 0))) (D.toInt (D.cell (19 : Nat) (nth r0 0))) (D.toInt (D.cell (20 : Nat) (nth r0 0)))))) := by kernel_rfl
theorem qpp (k n : Nat) (fu : List (Nat × Nat)) (x0 x1 : Int) (z2 : Bool) (l3 : List (Int × Int × Int)) (z4 : Bool) (l5 : List Int) (z6 : Bool) (l7 : List Int) (z8 : Bool) (l9 : List Int) (x10 x11 x12 x13 x14 x15 x16 x17 x18 x19 x20 x21 x22 x23 x24 x25 x26 : Int) (z27 : Bool) (l28 : List (Int × Int × Int)) (z29 : Bool) (l30 : List Int) (z31 : Bool) (l32 : List Int) (z33 : Bool) (l34 : List Int) (x35 x36 x37 x38 x39 x40 x41 x42 x43 x44 x45 x46 x47 x48 x49 x50 x51 : Int) : lp k spec_Advance [] fu 5 (n + 1) (qwz x0 x1 z2 l3 z4 l5 z6 l7 z8 l9 x10 x11 x12 x13 x14 x15 x16 x17 x18 x19 x20 x21 x22 x23 x24 x25 x26 z27 l28 z29 l30 z31 l32 z33 l34 x35 x36 x37 x38 x39 x40 x41 x42 x43 x44 x45 x46 x47 x48 x49 x50 x51) =
 cond (decide (x1 < x0))
 ((go k spec_l18Macro [(.agg [(.int .i64 x35), (.arr false z27 (.r3 l28)), (.arr false z29 (.ints .i64 l30)), (.arr false z31 (.ints .i64 l32)), (.arr false z33 (.ints .i64 l34))]), (.agg [(.int .i64 x36), (.int .i64 x37), (.int .i64 x38), (.int .i64 x39), (.int .i64 x40), (.int .i64 x41), (.int .i64 x42), (.int .i64 x43), (.int .i64 x44)]), (.int .i64 x45)]).bind fun r0 =>
 (go k spec_LedgerAdd [(.agg [(.int .i64 x46), (.int .i64 x47), (.int .i64 x48), (.int .i64 x49)]), (.agg [(.int .i64 (D.toInt (D.cell 0 (nth r0 1)))), (.int .i64 (D.toInt (D.cell 1 (nth r0 1)))), (.int .i64 (D.toInt (D.cell 2 (nth r0 1)))), (.int .i64 (D.toInt (D.cell 3 (nth r0 1))))])]).bind fun r1 =>
 lp k spec_Advance [] fu 5 n (qwz x0 (IntKind.wrap .i64 (x1 + (1 : Int))) z2 l3 z4 l5 z6 l7 z8 l9 x10 x11 x12 x13 x14 x15 x16 x17 x18 x19 x20 x21 x22 x23 x24 x25 x26 (D.nil (D.cell 1 (nth r0 0))) (D.r3 (D.cell 1 (nth r0 0))) (D.nil (D.cell 2 (nth r0 0))) (D.ints (D.cell 2 (nth r0 0))) (D.nil (D.cell 3 (nth r0 0))) (D.ints (D.cell 3 (nth r0 0))) (D.nil (D.cell 4 (nth r0 0))) (D.ints (D.cell 4 (nth r0 0))) (D.toInt (D.cell 0 (nth r0 0))) x36 x37 x38 x39 x40 x41 x42 x43 x44 (IntKind.wrap .i64 (x45 + (1 : Int))) (D.toInt (D.cell 0 (nth r1 0))) (D.toInt (D.cell 1 (nth r1 0))) (D.toInt (D.cell 2 (nth r1 0))) (D.toInt (D.cell 3 (nth r1 0))) x50 x51))
 ((go k spec_l36Copy [(.agg [(.int .i64 x35), (.arr false z27 (.r3 l28)), (.arr false z29 (.ints .i64 l30)), (.arr false z31 (.ints .i64 l32)), (.arr false z33 (.ints .i64 l34)), (.int .i64 x36), (.int .i64 x37), (.int .i64 x38), (.int .i64 x39), (.int .i64 x40), (.int .i64 x41), (.int .i64 x42), (.int .i64 x43), (.int .i64 x44), (.int .i64 x45), (.int .i64 x46), (.int .i64 x47), (.int .i64 x48), (.int .i64 x49), (.int .i64 x50), (.int .i64 x51)])]).bind fun r2 =>
 some [(.agg [(.int .i64 (D.toInt (D.cell 0 (nth r2 0)))), (.arr true (D.nil (D.cell 1 (nth r2 0))) (.r3 (D.r3 (D.cell 1 (nth r2 0))))), (.arr true (D.nil (D.cell 2 (nth r2 0))) (.ints .i64 (D.ints (D.cell 2 (nth r2 0))))), (.arr true (D.nil (D.cell 3 (nth r2 0))) (.ints .i64 (D.ints (D.cell 3 (nth r2 0))))), (.arr true (D.nil (D.cell 4 (nth r2 0))) (.ints .i64 (D.ints (D.cell 4 (nth r2 0))))), (.int .i64 (D.toInt (D.cell 5 (nth r2 0)))), (.int .i64 (D.toInt (D.cell 6 (nth r2 0)))), (.int .i64 (D.toInt (D.cell 7 (nth r2 0)))), (.int .i64 (D.toInt (D.cell 8 (nth r2 0)))), (.int .i64 (D.toInt (D.cell 9 (nth r2 0)))), (.int .i64 (D.toInt (D.cell 10 (nth r2 0)))), (.int .i64 (D.toInt (D.cell 11 (nth r2 0)))), (.int .i64 (D.toInt (D.cell (12 : Nat) (nth r2 0)))), (.int .i64 (D.toInt (D.cell (13 : Nat) (nth r2 0)))), (.int .i64 (D.toInt (D.cell (14 : Nat) (nth r2 0)))), (.int .i64 (D.toInt (D.cell (15 : Nat) (nth r2 0)))), (.int .i64 (D.toInt (D.cell (16 : Nat) (nth r2 0)))), (.int .i64 (D.toInt (D.cell (17 : Nat) (nth r2 0)))), (.int .i64 (D.toInt (D.cell (18 : Nat) (nth r2 0)))), (.int .i64 (D.toInt (D.cell (19 : Nat) (nth r2 0)))), (.int .i64 (D.toInt (D.cell (20 : Nat) (nth r2 0))))]), (.bool true)]) := by kernel_rfl
def qv0 (x0 x1 : Int) (z2 : Bool) (l3 : List (Int × Int × Int)) (z4 : Bool) (l5 : List Int) (z6 : Bool) (l7 : List Int) (z8 : Bool) (l9 : List Int) (x10 x11 x12 x13 x14 x15 x16 x17 x18 x19 x20 x21 x22 x23 x24 x25 x26 : Int) (z27 : Bool) (l28 : List (Int × Int × Int)) (z29 : Bool) (l30 : List Int) (z31 : Bool) (l32 : List Int) (z33 : Bool) (l34 : List Int) (x35 x36 x37 x38 x39 x40 x41 x42 x43 x44 x45 x46 x47 x48 x49 x50 x51 : Int) : St := ⟨fill 37 [(4, (.ptr 4 0 0)), (6, (.ptr 9 0 0)), (18, (.int .i64 x0)), (19, (.int .i64 x1))], [], [(.arr true z2 (.r3 l3)), (.arr true z4 (.ints .i64 l5)), (.arr true z6 (.ints .i64 l7)), (.arr true z8 (.ints .i64 l9)), (.box true [(.int .i64 x10), (.sl 0 none), (.sl 1 none), (.sl 2 none), (.sl 3 none), (.int .i64 x11), (.int .i64 x12), (.int .i64 x13), (.int .i64 x14), (.int .i64 x15), (.int .i64 x16), (.int .i64 x17), (.int .i64 x18), (.int .i64 x19), (.int .i64 x20), (.int .i64 x21), (.int .i64 x22), (.int .i64 x23), (.int .i64 x24), (.int .i64 x25), (.int .i64 x26)]), (.arr true z27 (.r3 l28)), (.arr true z29 (.ints .i64 l30)), (.arr true z31 (.ints .i64 l32)), (.arr true z33 (.ints .i64 l34)), (.box true [(.int .i64 x35), (.sl 5 none), (.sl 6 none), (.sl 7 none), (.sl 8 none), (.int .i64 x36), (.int .i64 x37), (.int .i64 x38), (.int .i64 x39), (.int .i64 x40), (.int .i64 x41), (.int .i64 x42), (.int .i64 x43), (.int .i64 x44), (.int .i64 x45), (.int .i64 x46), (.int .i64 x47), (.int .i64 x48), (.int .i64 x49), (.int .i64 x50), (.int .i64 x51)])]⟩
theorem qh8 (k : Nat) (a0 : Int) (a1z : Bool) (a1 : List (Int × Int × Int)) (a2z : Bool) (a2 : List Int) (a3z : Bool) (a3 : List Int) (a4z : Bool) (a4 : List Int) (a5 a6 a7 a8 a9 a10 a11 a12 a13 a14 a15 a16 a17 a18 a19 a20 b : Int) : go (k + 1) impl_Advance [(.agg [(.int .i64 a0), (.arr false a1z (.r3 a1)), (.arr false a2z (.ints .i64 a2)), (.arr false a3z (.ints .i64 a3)), (.arr false a4z (.ints .i64 a4)), (.int .i64 a5), (.int .i64 a6), (.int .i64 a7), (.int .i64 a8), (.int .i64 a9), (.int .i64 a10), (.int .i64 a11), (.int .i64 a12), (.int .i64 a13), (.int .i64 a14), (.int .i64 a15), (.int .i64 a16), (.int .i64 a17), (.int .i64 a18), (.int .i64 a19), (.int .i64 a20)]), (.int .i64 b)] =
 (go k impl_copyWorld [(.agg [(.int .i64 a0), (.arr false a1z (.r3 a1)), (.arr false a2z (.ints .i64 a2)), (.arr false a3z (.ints .i64 a3)), (.arr false a4z (.ints .i64 a4)), (.int .i64 a5), (.int .i64 a6), (.int .i64 a7), (.int .i64 a8), (.int .i64 a9), (.int .i64 a10), (.int .i64 a11), (.int .i64 a12), (.int .i64 a13), (.int .i64 a14), (.int .i64 a15), (.int .i64 a16), (.int .i64 a17), (.int .i64 a18), (.int .i64 a19), (.int .i64 a20)])]).bind fun r0 =>
 (go k impl_WorldOk [(.agg [(.int .i64 a0), (.arr false a1z (.r3 a1)), (.arr false a2z (.ints .i64 a2)), (.arr false a3z (.ints .i64 a3)), (.arr false a4z (.ints .i64 a4)), (.int .i64 a5), (.int .i64 a6), (.int .i64 a7), (.int .i64 a8), (.int .i64 a9), (.int .i64 a10), (.int .i64 a11), (.int .i64 a12), (.int .i64 a13), (.int .i64 a14), (.int .i64 a15), (.int .i64 a16), (.int .i64 a17), (.int .i64 a18), (.int .i64 a19), (.int .i64 a20)])]).bind fun r1 =>
 cond (!bit (nth r1 0))
 (some [(.agg [(.int .i64 (D.toInt (D.cell 0 (nth r0 0)))), (.arr true (D.nil (D.cell 1 (nth r0 0))) (.r3 (D.r3 (D.cell 1 (nth r0 0))))), (.arr true (D.nil (D.cell 2 (nth r0 0))) (.ints .i64 (D.ints (D.cell 2 (nth r0 0))))), (.arr true (D.nil (D.cell 3 (nth r0 0))) (.ints .i64 (D.ints (D.cell 3 (nth r0 0))))), (.arr true (D.nil (D.cell 4 (nth r0 0))) (.ints .i64 (D.ints (D.cell 4 (nth r0 0))))), (.int .i64 (D.toInt (D.cell 5 (nth r0 0)))), (.int .i64 (D.toInt (D.cell 6 (nth r0 0)))), (.int .i64 (D.toInt (D.cell 7 (nth r0 0)))), (.int .i64 (D.toInt (D.cell 8 (nth r0 0)))), (.int .i64 (D.toInt (D.cell 9 (nth r0 0)))), (.int .i64 (D.toInt (D.cell 10 (nth r0 0)))), (.int .i64 (D.toInt (D.cell 11 (nth r0 0)))), (.int .i64 (D.toInt (D.cell (12 : Nat) (nth r0 0)))), (.int .i64 (D.toInt (D.cell (13 : Nat) (nth r0 0)))), (.int .i64 (D.toInt (D.cell (14 : Nat) (nth r0 0)))), (.int .i64 (D.toInt (D.cell (15 : Nat) (nth r0 0)))), (.int .i64 (D.toInt (D.cell (16 : Nat) (nth r0 0)))), (.int .i64 (D.toInt (D.cell (17 : Nat) (nth r0 0)))), (.int .i64 (D.toInt (D.cell (18 : Nat) (nth r0 0)))), (.int .i64 (D.toInt (D.cell (19 : Nat) (nth r0 0)))), (.int .i64 (D.toInt (D.cell (20 : Nat) (nth r0 0))))]), (.bool false)])
 ((go k impl_within [(.int .i64 b), (.int .i64 (0 : Int)), (.int .i64 ((100 : Int)))]).bind fun r2 =>
 cond (!bit (nth r2 0))
 (some [(.agg [(.int .i64 (D.toInt (D.cell 0 (nth r0 0)))), (.arr true (D.nil (D.cell 1 (nth r0 0))) (.r3 (D.r3 (D.cell 1 (nth r0 0))))), (.arr true (D.nil (D.cell 2 (nth r0 0))) (.ints .i64 (D.ints (D.cell 2 (nth r0 0))))), (.arr true (D.nil (D.cell 3 (nth r0 0))) (.ints .i64 (D.ints (D.cell 3 (nth r0 0))))), (.arr true (D.nil (D.cell 4 (nth r0 0))) (.ints .i64 (D.ints (D.cell 4 (nth r0 0))))), (.int .i64 (D.toInt (D.cell 5 (nth r0 0)))), (.int .i64 (D.toInt (D.cell 6 (nth r0 0)))), (.int .i64 (D.toInt (D.cell 7 (nth r0 0)))), (.int .i64 (D.toInt (D.cell 8 (nth r0 0)))), (.int .i64 (D.toInt (D.cell 9 (nth r0 0)))), (.int .i64 (D.toInt (D.cell 10 (nth r0 0)))), (.int .i64 (D.toInt (D.cell 11 (nth r0 0)))), (.int .i64 (D.toInt (D.cell (12 : Nat) (nth r0 0)))), (.int .i64 (D.toInt (D.cell (13 : Nat) (nth r0 0)))), (.int .i64 (D.toInt (D.cell (14 : Nat) (nth r0 0)))), (.int .i64 (D.toInt (D.cell (15 : Nat) (nth r0 0)))), (.int .i64 (D.toInt (D.cell (16 : Nat) (nth r0 0)))), (.int .i64 (D.toInt (D.cell (17 : Nat) (nth r0 0)))), (.int .i64 (D.toInt (D.cell (18 : Nat) (nth r0 0)))), (.int .i64 (D.toInt (D.cell (19 : Nat) (nth r0 0)))), (.int .i64 (D.toInt (D.cell (20 : Nat) (nth r0 0))))]), (.bool false)])
 (lp k impl_Advance [] [] 5 k (qv0 b (0 : Int) true [] true [] true [] true [] (0 : Int) (0 : Int) (0 : Int) (0 : Int) (0 : Int) (0 : Int) (0 : Int) (0 : Int) (0 : Int) (0 : Int) (0 : Int) (0 : Int) (0 : Int) (0 : Int) (0 : Int) (0 : Int) (0 : Int) (D.nil (D.cell 1 (nth r0 0))) (D.r3 (D.cell 1 (nth r0 0))) (D.nil (D.cell 2 (nth r0 0))) (D.ints (D.cell 2 (nth r0 0))) (D.nil (D.cell 3 (nth r0 0))) (D.ints (D.cell 3 (nth r0 0))) (D.nil (D.cell 4 (nth r0 0))) (D.ints (D.cell 4 (nth r0 0))) (D.toInt (D.cell 0 (nth r0 0))) (D.toInt (D.cell 5 (nth r0 0))) (D.toInt (D.cell 6 (nth r0 0))) (D.toInt (D.cell 7 (nth r0 0))) (D.toInt (D.cell 8 (nth r0 0))) (D.toInt (D.cell 9 (nth r0 0))) (D.toInt (D.cell 10 (nth r0 0))) (D.toInt (D.cell 11 (nth r0 0))) (D.toInt (D.cell (12 : Nat) (nth r0 0))) (D.toInt (D.cell (13 : Nat) (nth r0 0))) (D.toInt (D.cell (14 : Nat) (nth r0 0))) (D.toInt (D.cell (15 : Nat) (nth r0 0))) (D.toInt (D.cell (16 : Nat) (nth r0 0))) (D.toInt (D.cell (17 : Nat) (nth r0 0))) (D.toInt (D.cell (18 : Nat) (nth r0 0))) (D.toInt (D.cell (19 : Nat) (nth r0 0))) (D.toInt (D.cell (20 : Nat) (nth r0 0)))))) := by kernel_rfl
theorem qoq (k n : Nat) (fu : List (Nat × Nat)) (x0 x1 : Int) (z2 : Bool) (l3 : List (Int × Int × Int)) (z4 : Bool) (l5 : List Int) (z6 : Bool) (l7 : List Int) (z8 : Bool) (l9 : List Int) (x10 x11 x12 x13 x14 x15 x16 x17 x18 x19 x20 x21 x22 x23 x24 x25 x26 : Int) (z27 : Bool) (l28 : List (Int × Int × Int)) (z29 : Bool) (l30 : List Int) (z31 : Bool) (l32 : List Int) (z33 : Bool) (l34 : List Int) (x35 x36 x37 x38 x39 x40 x41 x42 x43 x44 x45 x46 x47 x48 x49 x50 x51 : Int) : lp k impl_Advance [] fu 5 (n + 1) (qv0 x0 x1 z2 l3 z4 l5 z6 l7 z8 l9 x10 x11 x12 x13 x14 x15 x16 x17 x18 x19 x20 x21 x22 x23 x24 x25 x26 z27 l28 z29 l30 z31 l32 z33 l34 x35 x36 x37 x38 x39 x40 x41 x42 x43 x44 x45 x46 x47 x48 x49 x50 x51) =
 cond (decide (x1 < x0))
 ((go k impl_State_runMacro [(.ptr true [(.int .i64 x35), (.arr true z27 (.r3 l28)), (.arr true z29 (.ints .i64 l30)), (.arr true z31 (.ints .i64 l32)), (.arr true z33 (.ints .i64 l34))]), (.agg [(.int .i64 x36), (.int .i64 x37), (.int .i64 x38), (.int .i64 x39), (.int .i64 x40), (.int .i64 x41), (.int .i64 x42), (.int .i64 x43), (.int .i64 x44)]), (.int .i64 x45)]).bind fun r0 =>
 (go k impl_LedgerAdd [(.agg [(.int .i64 x46), (.int .i64 x47), (.int .i64 x48), (.int .i64 x49)]), (.agg [(.int .i64 (D.toInt (D.cell 0 (nth r0 0)))), (.int .i64 (D.toInt (D.cell 1 (nth r0 0)))), (.int .i64 (D.toInt (D.cell 2 (nth r0 0)))), (.int .i64 (D.toInt (D.cell 3 (nth r0 0))))])]).bind fun r1 =>
 lp k impl_Advance [] fu 5 n (qv0 x0 (IntKind.wrap .i64 (x1 + (1 : Int))) z2 l3 z4 l5 z6 l7 z8 l9 x10 x11 x12 x13 x14 x15 x16 x17 x18 x19 x20 x21 x22 x23 x24 x25 x26 (D.nil (D.cell 1 (nth r0 1))) (D.r3 (D.cell 1 (nth r0 1))) (D.nil (D.cell 2 (nth r0 1))) (D.ints (D.cell 2 (nth r0 1))) (D.nil (D.cell 3 (nth r0 1))) (D.ints (D.cell 3 (nth r0 1))) (D.nil (D.cell 4 (nth r0 1))) (D.ints (D.cell 4 (nth r0 1))) (D.toInt (D.cell 0 (nth r0 1))) x36 x37 x38 x39 x40 x41 x42 x43 x44 (IntKind.wrap .i64 (x45 + (1 : Int))) (D.toInt (D.cell 0 (nth r1 0))) (D.toInt (D.cell 1 (nth r1 0))) (D.toInt (D.cell 2 (nth r1 0))) (D.toInt (D.cell 3 (nth r1 0))) x50 x51))
 (some [(.agg [(.int .i64 x35), (.arr true z27 (.r3 l28)), (.arr true z29 (.ints .i64 l30)), (.arr true z31 (.ints .i64 l32)), (.arr true z33 (.ints .i64 l34)), (.int .i64 x36), (.int .i64 x37), (.int .i64 x38), (.int .i64 x39), (.int .i64 x40), (.int .i64 x41), (.int .i64 x42), (.int .i64 x43), (.int .i64 x44), (.int .i64 x45), (.int .i64 x46), (.int .i64 x47), (.int .i64 x48), (.int .i64 x49), (.int .i64 x50), (.int .i64 x51)]), (.bool true)]) := by kernel_rfl

end Go.Proofs.YtoldpdhhfmlckaaGreat
end
section
namespace Go.Proofs.YtoldpdhhfmlckaaGreat
open Go.Ev
set_option maxRecDepth 20000
abbrev wdR (w : Wd) : D := .agg [.int .i64 (w.r), .arr false false (.r3 (w.s.1)), .arr false false (.ints .i64 (w.s.2.1)), .arr false false (.ints .i64 (w.s.2.2)), .arr false false (.ints .i64 (w.b)), .int .i64 (w.p.bi), .int .i64 (w.p.bs), .int .i64 (w.p.bo), .int .i64 (w.p.rain), .int .i64 (w.p.loss), .int .i64 (w.p.dec), .int .i64 (w.p.high), .int .i64 (w.p.low), .int .i64 (w.p.every), .int .i64 (w.k), .int .i64 (w.ld.mi), .int .i64 (w.ld.mo), .int .i64 (w.ld.ti), .int .i64 (w.ld.ou), .int .i64 (w.f), .int .i64 (w.g)]
abbrev wdO (w : Wd) : D := .agg [.int .i64 (w.r), .arr true false (.r3 (w.s.1)), .arr true false (.ints .i64 (w.s.2.1)), .arr true false (.ints .i64 (w.s.2.2)), .arr true false (.ints .i64 (w.b)), .int .i64 (w.p.bi), .int .i64 (w.p.bs), .int .i64 (w.p.bo), .int .i64 (w.p.rain), .int .i64 (w.p.loss), .int .i64 (w.p.dec), .int .i64 (w.p.high), .int .i64 (w.p.low), .int .i64 (w.p.every), .int .i64 (w.k), .int .i64 (w.ld.mi), .int .i64 (w.ld.mo), .int .i64 (w.ld.ti), .int .i64 (w.ld.ou), .int .i64 (w.f), .int .i64 (w.g)]
structure Sml (w : Wd) : Prop where
  h1 : (w.s.1.length : Int) ≤ 1048576
  h2 : (w.s.2.1.length : Int) ≤ 1048576
  h3 : (w.s.2.2.length : Int) ≤ 1048576
  h4 : (w.b.length : Int) ≤ 1048576
structure WdF (w : Wd) : Prop where
  F : StF w.r w.s.1 w.s.2.1 w.s.2.2 w.b
  P : PlF w.p
  k : 0 ≤ w.k ∧ w.k ≤ 100000
  L : LdB w.ld 1000000000000000
  f : isum w.s.2.1 - w.ld.mi + w.ld.mo = w.f
  g : isum w.s.2.2 - w.ld.ti + w.ld.ou = w.g
theorem wdF {w : Wd} (h : wdOk w = true) : WdF w := by
  unfold wdOk q0j qqv at h
  simp only [Bool.and_eq_true, decide_eq_true_eq] at h
  obtain ⟨h1, h2, h3, ⟨h4, h5, h6, h7⟩, h8, h9⟩ := h
  exact ⟨stF.1 h1, qun h2, qn9.1 h3, ⟨qn9.1 h4, qn9.1 h5, qn9.1 h6, qn9.1 h7⟩, h8, h9⟩
theorem StF.sml {w : Wd} (F : StF w.r w.s.1 w.s.2.1 w.s.2.2 w.b) : Sml w := by
  have := F.len; have := F.ml; have := F.tl; have := F.bl; have := F.rr
  exact ⟨by omega, by omega, by omega, by omega⟩
def Wd.next (w : Wd) : Wd := { w with s := (mac w.p w.b w.k w.s).1, k := w.k + 1, ld := w.ld.add (mac w.p w.b w.k w.s).2 }
def advN : Nat → Wd → Wd
  | 0, w => w
  | n + 1, w => advN n w.next
structure Adv (w : Wd) (i : Nat) : Prop where
  F : StF w.r w.s.1 w.s.2.1 w.s.2.2 w.b
  P : PlF w.p
  k : 0 ≤ w.k ∧ w.k ≤ 100000 + i
  L : LdB w.ld (1000000000000000 + 40000000000 * i)
theorem Adv.next {w : Wd} {i : Nat} (A : Adv w i) : Adv w.next (i + 1) := by
  have h := qs9 (s := w.s) A.F A.P w.k
  have a := A.k; have l := A.L; have q := h.2
  have l1 := l.mi; have l2 := l.mo; have l3 := l.ti; have l4 := l.ou
  have q1 := q.mi; have q2 := q.mo; have q3 := q.ti; have q4 := q.ou
  refine ⟨h.1, A.P, ?_, ⟨?_, ?_, ?_, ?_⟩⟩
  · show 0 ≤ w.k + 1 ∧ w.k + 1 ≤ _; omega
  · show 0 ≤ w.ld.mi + _ ∧ w.ld.mi + _ ≤ _; omega
  · show 0 ≤ w.ld.mo + _ ∧ w.ld.mo + _ ≤ _; omega
  · show 0 ≤ w.ld.ti + _ ∧ w.ld.ti + _ ≤ _; omega
  · show 0 ≤ w.ld.ou + _ ∧ w.ld.ou + _ ≤ _; omega
theorem qc2 (k : Nat) (hk : 2000000 ≤ k) (w : Wd) (h : Sml w) : go (k + 4) impl_copyWorld [wdR w] = some [wdO w] := qc1 k hk _ _ _ _ _ _ _ _ _ _ _ _ _ _ _ _ _ _ _ _ _ h.h1 h.h2 h.h3 h.h4
theorem qgg (k : Nat) (hk : 2000000 ≤ k) (w : Wd) (h : Sml w) : go (k + 3) spec_l36Copy [wdR w] = some [wdO w] := qgf k hk _ _ _ _ _ _ _ _ _ _ _ _ _ _ _ _ _ _ _ _ _ _ _ _ _ h.h1 h.h2 h.h3 h.h4
theorem qcs (k : Nat) (hk : 2000000 ≤ k) (w : Wd) (h : Sml w) : go (k + 9) impl_WorldOk [wdR w] = some [.bool (wdOk w)] := qcr k hk _ _ _ _ _ _ _ _ _ _ _ _ _ _ _ _ _ _ _ _ _ _ _ _ _ h.h1 h.h4
theorem qfe (k : Nat) (hk : 2000000 ≤ k) (w : Wd) (h : Sml w) : go (k + 8) spec_WorldOk [wdR w] = some [.bool (wdOk w)] := qfd k hk _ _ _ _ _ _ _ _ _ _ _ _ _ _ _ _ _ _ _ _ _ _ _ _ _ h.h1 h.h4
set_option maxHeartbeats 1000000 in
theorem qrb (k : Nat) (hk : 2000000 ≤ k) (fu : List (Nat × Nat)) (c : Int) (hc : c ≤ 100) (z2 : Bool) (l3 : List Cell) (z4 : Bool) (l5 : List Int) (z6 : Bool) (l7 : List Int) (z8 : Bool) (l9 : List Int) (x10 x11 x12 x13 x14 x15 x16 x17 x18 x19 x20 x21 x22 x23 x24 x25 x26 : Int) : ∀ (N n i : Nat) (w : Wd), (i : Int) + n = c → n < N → Adv w i →
    lp (k + 11) impl_Advance [] fu 5 (N) (qv0 c (i : Int) z2 l3 z4 l5 z6 l7 z8 l9 x10 x11 x12 x13 x14 x15 x16 x17 x18 x19 x20 x21 x22 x23 x24 x25 x26 false w.s.1 false w.s.2.1 false w.s.2.2 false w.b w.r w.p.bi w.p.bs w.p.bo w.p.rain w.p.loss w.p.dec w.p.high w.p.low w.p.every w.k w.ld.mi w.ld.mo w.ld.ti w.ld.ou w.f w.g) = some [wdO (advN n w), .bool true]
  | 0, n, i, w, hi, hN, A => by omega
  | N + 1, 0, i, w, hi, hN, A => by
    rw [qoq]
    simp (disch := omega) only [dF, qgp, q0l, qhj]; rfl
  | N + 1, n + 1, i, w, hi, hN, A => by
    rw [qoq]
    have a := A.k; have l := A.L
    have h := (qs9 (s := w.s) A.F A.P w.k).2
    have l1 := l.mi; have l2 := l.mo; have l3' := l.ti; have l4 := l.ou
    have q1 := h.mi; have q2 := h.mo; have q3 := h.ti; have q4 := h.ou
    have eM := qdq k (by omega) w.r w.s w.b A.F w.p A.P w.k (by omega)
    have eL := qb5 (k + 10) w.ld (mac w.p w.b w.k w.s).2 (by omega) (by omega) (by omega) (by omega)
    have IH := qrb k hk fu c hc z2 l3 z4 l5 z6 l7 z8 l9 x10 x11 x12 x13 x14 x15 x16 x17 x18 x19 x20 x21 x22 x23 x24 x25 x26 N n (i + 1) w.next (by omega) (by omega) A.next
    rw [show advN (n + 1) w = advN n w.next from rfl]
    simp only [Wd.next] at IH ⊢
    simp (disch := omega) only [dT, eM, qgp, q0l, qa9, nth0, qgr, qzu, qgs, qg3, qg5, eL, nth1, qu1, qt3, quv, qu2, qob, qu3, qu4, qu0, IH, qhl]
set_option maxHeartbeats 1000000 in
theorem qr8 (k : Nat) (hk : 2000000 ≤ k) (fu : List (Nat × Nat)) (c : Int) (hc : c ≤ 100) (z2 : Bool) (l3 : List Cell) (z4 : Bool) (l5 : List Int) (z6 : Bool) (l7 : List Int) (z8 : Bool) (l9 : List Int) (x10 x11 x12 x13 x14 x15 x16 x17 x18 x19 x20 x21 x22 x23 x24 x25 x26 : Int) : ∀ (N n i : Nat) (w : Wd), (i : Int) + n = c → n < N → Adv w i →
    lp (k + 8) spec_Advance [] fu 5 (N) (qwz c (i : Int) z2 l3 z4 l5 z6 l7 z8 l9 x10 x11 x12 x13 x14 x15 x16 x17 x18 x19 x20 x21 x22 x23 x24 x25 x26 false w.s.1 false w.s.2.1 false w.s.2.2 false w.b w.r w.p.bi w.p.bs w.p.bo w.p.rain w.p.loss w.p.dec w.p.high w.p.low w.p.every w.k w.ld.mi w.ld.mo w.ld.ti w.ld.ou w.f w.g) = some [wdO (advN n w), .bool true]
  | 0, n, i, w, hi, hN, A => by omega
  | N + 1, 0, i, w, hi, hN, A => by
    rw [qpp]
    have eC := qgg (k + 5) (by omega) w A.F.sml
    simp (disch := omega) only [dF, qgp, q0l, eC, qa9, nth0, qgr, qzu, qgs, qt3, quv, qg3, qob, qg5, qg6, qg7, qg8, qg9, qha, qhb, qgt, qgu, qgv, qgw, qgx, qgy, qgz, qg0, qg1, qg2, qg4, qhj]
    rfl
  | N + 1, n + 1, i, w, hi, hN, A => by
    rw [qpp]
    have a := A.k; have l := A.L
    have h := (qs9 (s := w.s) A.F A.P w.k).2
    have l1 := l.mi; have l2 := l.mo; have l3' := l.ti; have l4 := l.ou
    have q1 := h.mi; have q2 := h.mo; have q3 := h.ti; have q4 := h.ou
    have eM := qgb k (by omega) w.r w.s w.b A.F w.p A.P w.k (by omega)
    have eL := qeu (k + 7) w.ld (mac w.p w.b w.k w.s).2 (by omega) (by omega) (by omega) (by omega)
    have IH := qr8 k hk fu c hc z2 l3 z4 l5 z6 l7 z8 l9 x10 x11 x12 x13 x14 x15 x16 x17 x18 x19 x20 x21 x22 x23 x24 x25 x26 N n (i + 1) w.next (by omega) (by omega) A.next
    rw [show advN (n + 1) w = advN n w.next from rfl]
    simp only [Wd.next] at IH ⊢
    simp (disch := omega) only [dT, eM, qgp, q0l, qa9, nth1, qgr, qzu, qgs, qg3, qg5, eL, nth0, qt3, quv, qob, qg6, IH, qhl]
def qaz (w : Wd) (n : Int) : Bool := wdOk w && inR n 0 100
def adv (w : Wd) (n : Int) : Wd := cond (qaz w n) (advN n.toNat w) w
theorem WdF.adv {w : Wd} (h : WdF w) : Adv w 0 := ⟨h.F, h.P, by have := h.k; omega, ⟨by have := h.L.mi; omega, by have := h.L.mo; omega, by have := h.L.ti; omega, by have := h.L.ou; omega⟩⟩
theorem qbl (k : Nat) (hk : 2000000 ≤ k) (w : Wd) (n : Int) (h : Sml w) : go (k + 12) impl_Advance [wdR w, .int .i64 n] = some [wdO (adv w n), .bool (qaz w n)] := by
  rw [qh8]
  have eC := qc2 (k + 7) (by omega) w h
  have eO := qcs (k + 2) (by omega) w h
  unfold adv qaz
  cases g : wdOk w
  · rw [g] at eO
    simp (disch := omega) only [eC, eO, bit, qa9, nth0, qzt, Bool.not_false, qhl, qgr, qzu, qgs, qt3, quv, qg3, qob, qg5, qg6, qg7, qg8, qg9, qha, qhb, qgt, qgu, qgv, qgw, qgx, qgy, qgz, qg0, qg1, qg2, qg4, Bool.false_and, qhj]
  rw [g] at eO
  cases g2 : inR n 0 100
  · simp (disch := omega) only [eC, eO, bit, qdy, g2, qa9, nth0, qzt, Bool.not_false, qhl, Bool.not_true, qhj, qgr, qzu, qgs, qt3, quv, qg3, qob, qg5, qg6, qg7, qg8, qg9, qha, qhb, qgt, qgu, qgv, qgw, qgx, qgy, qgz, qg0, qg1, qg2, qg4, Bool.and_false]
  have b := qn9.1 g2
  have e := qrb k hk [] n b.2 true [] true [] true [] true [] 0 0 0 0 0 0 0 0 0 0 0 0 0 0 0 0 0 (k + 11) n.toNat 0 w (by omega) (by omega) (wdF g).adv
  rw [show ((0 : Nat) : Int) = 0 from rfl] at e
  simp (disch := omega) only [eC, eO, bit, qdy, g2, qa9, nth0, qzt, Bool.not_true, qhj, qgs, qt3, quv, qg3, qob, qg5, qg6, qgr, qzu, qg7, qg8, qg9, qha, qhb, qgt, qgu, qgv, qgw, qgx, qgy, qgz, qg0, qg1, qg2, qg4, Bool.and_true, qhl]
  exact e
theorem qea (k : Nat) (hk : 2000000 ≤ k) (w : Wd) (n : Int) (h : Sml w) : go (k + 9) spec_Advance [wdR w, .int .i64 n] = some [wdO (adv w n), .bool (qaz w n)] := by
  rw [qk1]
  have eC := qgg (k + 5) (by omega) w h
  have eO := qfe k (by omega) w h
  unfold adv qaz
  cases g : wdOk w
  · rw [g] at eO
    simp (disch := omega) only [eC, eO, bit, qa9, nth0, qzt, Bool.not_false, qhl, qgr, qzu, qgs, qt3, quv, qg3, qob, qg5, qg6, qg7, qg8, qg9, qha, qhb, qgt, qgu, qgv, qgw, qgx, qgy, qgz, qg0, qg1, qg2, qg4, Bool.false_and, qhj]
  rw [g] at eO
  cases g2 : inR n 0 100
  · simp (disch := omega) only [eC, eO, bit, qfj, g2, qa9, nth0, qzt, Bool.not_false, qhl, Bool.not_true, qhj, qgr, qzu, qgs, qt3, quv, qg3, qob, qg5, qg6, qg7, qg8, qg9, qha, qhb, qgt, qgu, qgv, qgw, qgx, qgy, qgz, qg0, qg1, qg2, qg4, Bool.and_false]
  have b := qn9.1 g2
  have e := qr8 k hk [] n b.2 true [] true [] true [] true [] 0 0 0 0 0 0 0 0 0 0 0 0 0 0 0 0 0 (k + 8) n.toNat 0 w (by omega) (by omega) (wdF g).adv
  rw [show ((0 : Nat) : Int) = 0 from rfl] at e
  simp (disch := omega) only [eC, eO, bit, qfj, g2, qa9, nth0, qzt, Bool.not_true, qhj, qgs, qt3, quv, qg3, qob, qg5, qg6, qgr, qzu, qg7, qg8, qg9, qha, qhb, qgt, qgu, qgv, qgw, qgx, qgy, qgz, qg0, qg1, qg2, qg4, Bool.and_true, qhl]
  exact e
end Go.Proofs.YtoldpdhhfmlckaaGreat
end
section
namespace Go.Proofs.YtoldpdhhfmlckaaGreat
open Go.Ev
set_option maxRecDepth 20000
def qh4 (w : Wd) (p m h : Int) : Bool := qh1 w.r w.s.1 w.s.2.1 w.s.2.2 w.b w.p.bi w.p.bs w.p.bo w.p.rain w.p.loss w.p.dec w.p.high w.p.low w.p.every w.k w.ld.mi w.ld.mo w.ld.ti w.ld.ou w.f w.g p m h
def drp1 (w : Wd) (p m h : Int) : Wd := { w with s := (w.s.1, w.s.2.1.set (qqp w.r w.s.1 p).toNat (w.s.2.1.getD (qqp w.r w.s.1 p).toNat 0 + m), w.s.2.2.set (qqp w.r w.s.1 p).toNat (w.s.2.2.getD (qqp w.r w.s.1 p).toNat 0 + m * h)), ld := { w.ld with mi := w.ld.mi + m, ti := w.ld.ti + m * h } }
def drp (w : Wd) (p m h : Int) : Wd := cond (qh4 w p m h) (drp1 w p m h) w
theorem qbw (k : Nat) (hk : 2000000 ≤ k) (w : Wd) (p m h : Int) (S : Sml w) : go (k + 10) impl_Drop [wdR w, .int .i64 p, .int .i64 m, .int .i64 h] = some [wdO (drp w p m h), .bool (qh4 w p m h)] := by
  have e := qbv k hk w.r w.s.1 w.s.2.1 w.s.2.2 w.b w.p.bi w.p.bs w.p.bo w.p.rain w.p.loss w.p.dec w.p.high w.p.low w.p.every w.k w.ld.mi w.ld.mo w.ld.ti w.ld.ou w.f w.g p m h S.h1 S.h2 S.h3 S.h4
  refine e.trans ?_
  unfold drp
  cases g : qh4 w p m h
  · unfold qh4 at g; rw [g]; rfl
  · unfold qh4 at g; rw [g]; rfl
theorem qen (k : Nat) (hk : 2000000 ≤ k) (w : Wd) (p m h : Int) (S : Sml w) : go (k + 9) spec_Drop [wdR w, .int .i64 p, .int .i64 m, .int .i64 h] = some [wdO (drp w p m h), .bool (qh4 w p m h)] := by
  have e := qem k hk w.r false w.s.1 false w.s.2.1 false w.s.2.2 false w.b w.p.bi w.p.bs w.p.bo w.p.rain w.p.loss w.p.dec w.p.high w.p.low w.p.every w.k w.ld.mi w.ld.mo w.ld.ti w.ld.ou w.f w.g p m h S.h1 S.h2 S.h3 S.h4
  refine e.trans ?_
  unfold drp
  cases g : qh4 w p m h
  · unfold qh4 at g; rw [g]; rfl
  · unfold qh4 at g; rw [g]; rfl
end Go.Proofs.YtoldpdhhfmlckaaGreat
end
section
namespace Go.Proofs.YtoldpdhhfmlckaaGreat
open Go.Ev
def qxx (x0 : Int) (z1 : Bool) (l2 : List Int) (x3 x4 : Int) (z5 : Bool) (l6 : List (Int × Int × Int)) (z7 : Bool) (l8 : List Int) (z9 : Bool) (l10 : List Int) (z11 : Bool) (l12 : List Int) (x13 x14 x15 x16 x17 x18 x19 x20 x21 x22 x23 x24 x25 x26 x27 x28 x29 : Int) (z30 : Bool) (l31 : List (Int × Int × Int)) (z32 : Bool) (l33 : List Int) (z34 : Bool) (l35 : List Int) (z36 : Bool) (l37 : List Int) (x38 x39 x40 x41 x42 x43 x44 x45 x46 x47 x48 x49 x50 x51 x52 x53 x54 : Int) : St := ⟨fill 38 [(0, (.ptr 1 0 0)), (2, (.ptr 6 0 0)), (3, (.ptr 11 0 0)), (5, (.int .i64 x0))], [(.ptr 1 0 0), (.sl 0 none)], [(.arr false z1 (.ints IntKind.u8 l2)), (.box true [(.sl 0 none), (.int .i64 x3), (.int .i64 x4)]), (.arr true z5 (.r3 l6)), (.arr true z7 (.ints .i64 l8)), (.arr true z9 (.ints .i64 l10)), (.arr true z11 (.ints .i64 l12)), (.box true [(.int .i64 x13), (.sl 2 none), (.sl 3 none), (.sl 4 none), (.sl 5 none), (.int .i64 x14), (.int .i64 x15), (.int .i64 x16), (.int .i64 x17), (.int .i64 x18), (.int .i64 x19), (.int .i64 x20), (.int .i64 x21), (.int .i64 x22), (.int .i64 x23), (.int .i64 x24), (.int .i64 x25), (.int .i64 x26), (.int .i64 x27), (.int .i64 x28), (.int .i64 x29)]), (.arr true z30 (.r3 l31)), (.arr true z32 (.ints .i64 l33)), (.arr true z34 (.ints .i64 l35)), (.arr true z36 (.ints .i64 l37)), (.box true [(.int .i64 x38), (.sl 7 none), (.sl 8 none), (.sl 9 none), (.sl 10 none), (.int .i64 x39), (.int .i64 x40), (.int .i64 x41), (.int .i64 x42), (.int .i64 x43), (.int .i64 x44), (.int .i64 x45), (.int .i64 x46), (.int .i64 x47), (.int .i64 x48), (.int .i64 x49), (.int .i64 x50), (.int .i64 x51), (.int .i64 x52), (.int .i64 x53), (.int .i64 x54)])]⟩
theorem qm8 (k : Nat) (v0 : Bool) (v1 : List Int) (v2 v3 : Int) : go (k + 1) spec_l36World [(.ptr true [(.arr false v0 (.ints IntKind.u8 v1)), (.int .i64 v2), (.int .i64 v3)])] =
 (go k spec_l07State [(.ptr true [(.arr false v0 (.ints IntKind.u8 v1)), (.int .i64 v2), (.int .i64 v3)])]).bind fun r0 =>
 (go k spec_l18Plan [(.ptr true [(.arr false v0 (.ints IntKind.u8 v1)), (.int .i64 (D.toInt (D.cell 1 (nth r0 1)))), (.int .i64 (D.toInt (D.cell 2 (nth r0 1))))])]).bind fun r1 =>
 (go k spec_WorldNew [(.agg [(.int .i64 (D.toInt (D.cell 0 (nth r0 0)))), (.arr false (D.nil (D.cell 1 (nth r0 0))) (.r3 (D.r3 (D.cell 1 (nth r0 0))))), (.arr false (D.nil (D.cell 2 (nth r0 0))) (.ints .i64 (D.ints (D.cell 2 (nth r0 0))))), (.arr false (D.nil (D.cell 3 (nth r0 0))) (.ints .i64 (D.ints (D.cell 3 (nth r0 0))))), (.arr false (D.nil (D.cell 4 (nth r0 0))) (.ints .i64 (D.ints (D.cell 4 (nth r0 0)))))]), (.agg [(.int .i64 (D.toInt (D.cell 0 (nth r1 0)))), (.int .i64 (D.toInt (D.cell 1 (nth r1 0)))), (.int .i64 (D.toInt (D.cell 2 (nth r1 0)))), (.int .i64 (D.toInt (D.cell 3 (nth r1 0)))), (.int .i64 (D.toInt (D.cell 4 (nth r1 0)))), (.int .i64 (D.toInt (D.cell 5 (nth r1 0)))), (.int .i64 (D.toInt (D.cell 6 (nth r1 0)))), (.int .i64 (D.toInt (D.cell 7 (nth r1 0)))), (.int .i64 (D.toInt (D.cell 8 (nth r1 0))))])]).bind fun r2 =>
 lp k spec_l36World [(.ptr true [(.arr false v0 (.ints IntKind.u8 v1)), (.int .i64 v2), (.int .i64 v3)])] [] 3 k (qxx (0 : Int) v0 v1 (D.toInt (D.cell 1 (nth r1 1))) (D.toInt (D.cell 2 (nth r1 1))) true [] true [] true [] true [] (0 : Int) (0 : Int) (0 : Int) (0 : Int) (0 : Int) (0 : Int) (0 : Int) (0 : Int) (0 : Int) (0 : Int) (0 : Int) (0 : Int) (0 : Int) (0 : Int) (0 : Int) (0 : Int) (0 : Int) (D.nil (D.cell 1 (nth r2 0))) (D.r3 (D.cell 1 (nth r2 0))) (D.nil (D.cell 2 (nth r2 0))) (D.ints (D.cell 2 (nth r2 0))) (D.nil (D.cell 3 (nth r2 0))) (D.ints (D.cell 3 (nth r2 0))) (D.nil (D.cell 4 (nth r2 0))) (D.ints (D.cell 4 (nth r2 0))) (D.toInt (D.cell 0 (nth r2 0))) (D.toInt (D.cell 5 (nth r2 0))) (D.toInt (D.cell 6 (nth r2 0))) (D.toInt (D.cell 7 (nth r2 0))) (D.toInt (D.cell 8 (nth r2 0))) (D.toInt (D.cell 9 (nth r2 0))) (D.toInt (D.cell 10 (nth r2 0))) (D.toInt (D.cell 11 (nth r2 0))) (D.toInt (D.cell (12 : Nat) (nth r2 0))) (D.toInt (D.cell (13 : Nat) (nth r2 0))) (D.toInt (D.cell (14 : Nat) (nth r2 0))) (D.toInt (D.cell (15 : Nat) (nth r2 0))) (D.toInt (D.cell (16 : Nat) (nth r2 0))) (D.toInt (D.cell (17 : Nat) (nth r2 0))) (D.toInt (D.cell (18 : Nat) (nth r2 0))) (D.toInt (D.cell (19 : Nat) (nth r2 0))) (D.toInt (D.cell (20 : Nat) (nth r2 0)))) := by kernel_rfl
theorem qqn (k n : Nat) (fu : List (Nat × Nat)) (v0 : Bool) (v1 : List Int) (v2 v3 x0 : Int) (z1 : Bool) (l2 : List Int) (x3 x4 : Int) (z5 : Bool) (l6 : List (Int × Int × Int)) (z7 : Bool) (l8 : List Int) (z9 : Bool) (l10 : List Int) (z11 : Bool) (l12 : List Int) (x13 x14 x15 x16 x17 x18 x19 x20 x21 x22 x23 x24 x25 x26 x27 x28 x29 : Int) (z30 : Bool) (l31 : List (Int × Int × Int)) (z32 : Bool) (l33 : List Int) (z34 : Bool) (l35 : List Int) (z36 : Bool) (l37 : List Int) (x38 x39 x40 x41 x42 x43 x44 x45 x46 x47 x48 x49 x50 x51 x52 x53 x54 : Int) : lp k spec_l36World [(.ptr true [(.arr false v0 (.ints IntKind.u8 v1)), (.int .i64 v2), (.int .i64 v3)])] fu 3 (n + 1) (qxx x0 z1 l2 x3 x4 z5 l6 z7 l8 z9 l10 z11 l12 x13 x14 x15 x16 x17 x18 x19 x20 x21 x22 x23 x24 x25 x26 x27 x28 x29 z30 l31 z32 l33 z34 l35 z36 l37 x38 x39 x40 x41 x42 x43 x44 x45 x46 x47 x48 x49 x50 x51 x52 x53 x54) =
 (go k spec_l01Below [(.ptr true [(.arr false z1 (.ints IntKind.u8 l2)), (.int .i64 x3), (.int .i64 x4)]), (.int .i64 ((3 : Int)))]).bind fun r0 =>
 cond (decide (x0 < D.toInt (nth r0 0)))
 ((go k spec_Advance [(.agg [(.int .i64 x38), (.arr false z30 (.r3 l31)), (.arr false z32 (.ints .i64 l33)), (.arr false z34 (.ints .i64 l35)), (.arr false z36 (.ints .i64 l37)), (.int .i64 x39), (.int .i64 x40), (.int .i64 x41), (.int .i64 x42), (.int .i64 x43), (.int .i64 x44), (.int .i64 x45), (.int .i64 x46), (.int .i64 x47), (.int .i64 x48), (.int .i64 x49), (.int .i64 x50), (.int .i64 x51), (.int .i64 x52), (.int .i64 x53), (.int .i64 x54)]), (.int .i64 ((1 : Int)))]).bind fun r1 =>
 (go k spec_l01Below [(.ptr true [(.arr false z1 (.ints IntKind.u8 l2)), (.int .i64 (D.toInt (D.cell 1 (nth r0 1)))), (.int .i64 (D.toInt (D.cell 2 (nth r0 1))))]), (.int .i64 ((40 : Int)))]).bind fun r2 =>
 (go k spec_l01Below [(.ptr true [(.arr false z1 (.ints IntKind.u8 l2)), (.int .i64 (D.toInt (D.cell 1 (nth r2 1)))), (.int .i64 (D.toInt (D.cell 2 (nth r2 1))))]), (.int .i64 ((900 : Int)))]).bind fun r3 =>
 (go k spec_l01Below [(.ptr true [(.arr false z1 (.ints IntKind.u8 l2)), (.int .i64 (D.toInt (D.cell 1 (nth r3 1)))), (.int .i64 (D.toInt (D.cell 2 (nth r3 1))))]), (.int .i64 ((1001 : Int)))]).bind fun r4 =>
 (go k spec_Drop [(.agg [(.int .i64 (D.toInt (D.cell 0 (nth r1 0)))), (.arr false (D.nil (D.cell 1 (nth r1 0))) (.r3 (D.r3 (D.cell 1 (nth r1 0))))), (.arr false (D.nil (D.cell 2 (nth r1 0))) (.ints .i64 (D.ints (D.cell 2 (nth r1 0))))), (.arr false (D.nil (D.cell 3 (nth r1 0))) (.ints .i64 (D.ints (D.cell 3 (nth r1 0))))), (.arr false (D.nil (D.cell 4 (nth r1 0))) (.ints .i64 (D.ints (D.cell 4 (nth r1 0))))), (.int .i64 (D.toInt (D.cell 5 (nth r1 0)))), (.int .i64 (D.toInt (D.cell 6 (nth r1 0)))), (.int .i64 (D.toInt (D.cell 7 (nth r1 0)))), (.int .i64 (D.toInt (D.cell 8 (nth r1 0)))), (.int .i64 (D.toInt (D.cell 9 (nth r1 0)))), (.int .i64 (D.toInt (D.cell 10 (nth r1 0)))), (.int .i64 (D.toInt (D.cell 11 (nth r1 0)))), (.int .i64 (D.toInt (D.cell (12 : Nat) (nth r1 0)))), (.int .i64 (D.toInt (D.cell (13 : Nat) (nth r1 0)))), (.int .i64 (D.toInt (D.cell (14 : Nat) (nth r1 0)))), (.int .i64 (D.toInt (D.cell (15 : Nat) (nth r1 0)))), (.int .i64 (D.toInt (D.cell (16 : Nat) (nth r1 0)))), (.int .i64 (D.toInt (D.cell (17 : Nat) (nth r1 0)))), (.int .i64 (D.toInt (D.cell (18 : Nat) (nth r1 0)))), (.int .i64 (D.toInt (D.cell (19 : Nat) (nth r1 0)))), (.int .i64 (D.toInt (D.cell (20 : Nat) (nth r1 0))))]), (.int .i64 (D.toInt (nth r2 0))), (.int .i64 (IntKind.wrap .i64 ((1 : Int) + D.toInt (nth r3 0)))), (.int .i64 (D.toInt (nth r4 0)))]).bind fun r5 =>
 lp k spec_l36World [(.ptr true [(.arr false v0 (.ints IntKind.u8 v1)), (.int .i64 v2), (.int .i64 v3)])] fu 3 n (qxx (IntKind.wrap .i64 (x0 + (1 : Int))) z1 l2 (D.toInt (D.cell 1 (nth r4 1))) (D.toInt (D.cell 2 (nth r4 1))) z5 l6 z7 l8 z9 l10 z11 l12 x13 x14 x15 x16 x17 x18 x19 x20 x21 x22 x23 x24 x25 x26 x27 x28 x29 (D.nil (D.cell 1 (nth r5 0))) (D.r3 (D.cell 1 (nth r5 0))) (D.nil (D.cell 2 (nth r5 0))) (D.ints (D.cell 2 (nth r5 0))) (D.nil (D.cell 3 (nth r5 0))) (D.ints (D.cell 3 (nth r5 0))) (D.nil (D.cell 4 (nth r5 0))) (D.ints (D.cell 4 (nth r5 0))) (D.toInt (D.cell 0 (nth r5 0))) (D.toInt (D.cell 5 (nth r5 0))) (D.toInt (D.cell 6 (nth r5 0))) (D.toInt (D.cell 7 (nth r5 0))) (D.toInt (D.cell 8 (nth r5 0))) (D.toInt (D.cell 9 (nth r5 0))) (D.toInt (D.cell 10 (nth r5 0))) (D.toInt (D.cell 11 (nth r5 0))) (D.toInt (D.cell (12 : Nat) (nth r5 0))) (D.toInt (D.cell (13 : Nat) (nth r5 0))) (D.toInt (D.cell (14 : Nat) (nth r5 0))) (D.toInt (D.cell (15 : Nat) (nth r5 0))) (D.toInt (D.cell (16 : Nat) (nth r5 0))) (D.toInt (D.cell (17 : Nat) (nth r5 0))) (D.toInt (D.cell (18 : Nat) (nth r5 0))) (D.toInt (D.cell (19 : Nat) (nth r5 0))) (D.toInt (D.cell (20 : Nat) (nth r5 0)))))
 (some [(.agg [(.int .i64 x38), (.arr true z30 (.r3 l31)), (.arr true z32 (.ints .i64 l33)), (.arr true z34 (.ints .i64 l35)), (.arr true z36 (.ints .i64 l37)), (.int .i64 x39), (.int .i64 x40), (.int .i64 x41), (.int .i64 x42), (.int .i64 x43), (.int .i64 x44), (.int .i64 x45), (.int .i64 x46), (.int .i64 x47), (.int .i64 x48), (.int .i64 x49), (.int .i64 x50), (.int .i64 x51), (.int .i64 x52), (.int .i64 x53), (.int .i64 x54)]), (.ptr true [(.arr false z1 (.ints IntKind.u8 l2)), (.int .i64 (D.toInt (D.cell 1 (nth r0 1)))), (.int .i64 (D.toInt (D.cell 2 (nth r0 1))))])]) := by kernel_rfl
def qw6 (x0 x1 : Int) (z2 : Bool) (l3 : List Int) (z4 : Bool) (l5 : List (Int × Int × Int)) (z6 : Bool) (l7 : List Int) (z8 : Bool) (l9 : List Int) (z10 : Bool) (l11 : List Int) (x12 x13 x14 x15 x16 x17 x18 x19 x20 x21 x22 x23 x24 x25 x26 x27 x28 : Int) : St := ⟨fill 32 [(0, (.sl 0 none)), (3, (.int .i64 x0)), (4, (.int .i64 x1))], [(.sl 0 none), .un, (.ptr 5 0 0), (.sl 0 none), .un, .un], [(.arr false z2 (.ints IntKind.u8 l3)), (.arr true z4 (.r3 l5)), (.arr true z6 (.ints .i64 l7)), (.arr true z8 (.ints .i64 l9)), (.arr true z10 (.ints .i64 l11)), (.box true [(.int .i64 x12), (.sl 1 none), (.sl 2 none), (.sl 3 none), (.sl 4 none), (.int .i64 x13), (.int .i64 x14), (.int .i64 x15), (.int .i64 x16), (.int .i64 x17), (.int .i64 x18), (.int .i64 x19), (.int .i64 x20), (.int .i64 x21), (.int .i64 x22), (.int .i64 x23), (.int .i64 x24), (.int .i64 x25), (.int .i64 x26), (.int .i64 x27), (.int .i64 x28)])]⟩
theorem qlc (k : Nat) (az : Bool) (a : List Int) : go (k + 1) spec_DrawWorld [(.arr false az (.ints IntKind.u8 a))] =
 lp k spec_DrawWorld [] [] 7800003 k (qw6 (IntKind.wrap .i64 ((98231 : Int) + nI (List.length a))) (0 : Int) az a true [] true [] true [] true [] (0 : Int) (0 : Int) (0 : Int) (0 : Int) (0 : Int) (0 : Int) (0 : Int) (0 : Int) (0 : Int) (0 : Int) (0 : Int) (0 : Int) (0 : Int) (0 : Int) (0 : Int) (0 : Int) (0 : Int)) := by kernel_rfl
theorem qpw (k n : Nat) (fu : List (Nat × Nat)) (x0 x1 : Int) (z2 : Bool) (l3 : List Int) (z4 : Bool) (l5 : List (Int × Int × Int)) (z6 : Bool) (l7 : List Int) (z8 : Bool) (l9 : List Int) (z10 : Bool) (l11 : List Int) (x12 x13 x14 x15 x16 x17 x18 x19 x20 x21 x22 x23 x24 x25 x26 x27 x28 : Int) : lp k spec_DrawWorld [] fu 7800003 (n + 1) (qw6 x0 x1 z2 l3 z4 l5 z6 l7 z8 l9 z10 l11 x12 x13 x14 x15 x16 x17 x18 x19 x20 x21 x22 x23 x24 x25 x26 x27 x28) =
 cond (decide (x1 < nI (List.length l3)))
 (cond (decide (x1 < (4000 : Int)))
 (cond (decide ((0 : Int) ≤ x1) && decide (x1 < nI (List.length l3)))
 (lp k spec_DrawWorld [] fu 7800003 n (qw6 (bitN BinOp.and .i64 (IntKind.wrap .i64 (IntKind.wrap .i64 (IntKind.wrap .i64 (x0 * (131 : Int)) + IntKind.wrap .i64 (List.getD l3 (Int.toNat x1) (0 : Int))) + (7 : Int))) (1073741823 : Int)) (IntKind.wrap .i64 (x1 + (1 : Int))) z2 l3 z4 l5 z6 l7 z8 l9 z10 l11 x12 x13 x14 x15 x16 x17 x18 x19 x20 x21 x22 x23 x24 x25 x26 x27 x28))
 none)
 ((go k spec_l36World [(.ptr true [(.arr false z2 (.ints IntKind.u8 l3)), (.int .i64 (0 : Int)), (.int .i64 x0)])]).bind fun r0 =>
 some [(.agg [(.int .i64 (D.toInt (D.cell 0 (nth r0 0)))), (.arr true (D.nil (D.cell 1 (nth r0 0))) (.r3 (D.r3 (D.cell 1 (nth r0 0))))), (.arr true (D.nil (D.cell 2 (nth r0 0))) (.ints .i64 (D.ints (D.cell 2 (nth r0 0))))), (.arr true (D.nil (D.cell 3 (nth r0 0))) (.ints .i64 (D.ints (D.cell 3 (nth r0 0))))), (.arr true (D.nil (D.cell 4 (nth r0 0))) (.ints .i64 (D.ints (D.cell 4 (nth r0 0))))), (.int .i64 (D.toInt (D.cell 5 (nth r0 0)))), (.int .i64 (D.toInt (D.cell 6 (nth r0 0)))), (.int .i64 (D.toInt (D.cell 7 (nth r0 0)))), (.int .i64 (D.toInt (D.cell 8 (nth r0 0)))), (.int .i64 (D.toInt (D.cell 9 (nth r0 0)))), (.int .i64 (D.toInt (D.cell 10 (nth r0 0)))), (.int .i64 (D.toInt (D.cell 11 (nth r0 0)))), (.int .i64 (D.toInt (D.cell (12 : Nat) (nth r0 0)))), (.int .i64 (D.toInt (D.cell (13 : Nat) (nth r0 0)))), (.int .i64 (D.toInt (D.cell (14 : Nat) (nth r0 0)))), (.int .i64 (D.toInt (D.cell (15 : Nat) (nth r0 0)))), (.int .i64 (D.toInt (D.cell (16 : Nat) (nth r0 0)))), (.int .i64 (D.toInt (D.cell (17 : Nat) (nth r0 0)))), (.int .i64 (D.toInt (D.cell (18 : Nat) (nth r0 0)))), (.int .i64 (D.toInt (D.cell (19 : Nat) (nth r0 0)))), (.int .i64 (D.toInt (D.cell (20 : Nat) (nth r0 0))))])]))
 ((go k spec_l36World [(.ptr true [(.arr false z2 (.ints IntKind.u8 l3)), (.int .i64 (0 : Int)), (.int .i64 x0)])]).bind fun r1 =>
 some [(.agg [(.int .i64 (D.toInt (D.cell 0 (nth r1 0)))), (.arr true (D.nil (D.cell 1 (nth r1 0))) (.r3 (D.r3 (D.cell 1 (nth r1 0))))), (.arr true (D.nil (D.cell 2 (nth r1 0))) (.ints .i64 (D.ints (D.cell 2 (nth r1 0))))), (.arr true (D.nil (D.cell 3 (nth r1 0))) (.ints .i64 (D.ints (D.cell 3 (nth r1 0))))), (.arr true (D.nil (D.cell 4 (nth r1 0))) (.ints .i64 (D.ints (D.cell 4 (nth r1 0))))), (.int .i64 (D.toInt (D.cell 5 (nth r1 0)))), (.int .i64 (D.toInt (D.cell 6 (nth r1 0)))), (.int .i64 (D.toInt (D.cell 7 (nth r1 0)))), (.int .i64 (D.toInt (D.cell 8 (nth r1 0)))), (.int .i64 (D.toInt (D.cell 9 (nth r1 0)))), (.int .i64 (D.toInt (D.cell 10 (nth r1 0)))), (.int .i64 (D.toInt (D.cell 11 (nth r1 0)))), (.int .i64 (D.toInt (D.cell (12 : Nat) (nth r1 0)))), (.int .i64 (D.toInt (D.cell (13 : Nat) (nth r1 0)))), (.int .i64 (D.toInt (D.cell (14 : Nat) (nth r1 0)))), (.int .i64 (D.toInt (D.cell (15 : Nat) (nth r1 0)))), (.int .i64 (D.toInt (D.cell (16 : Nat) (nth r1 0)))), (.int .i64 (D.toInt (D.cell (17 : Nat) (nth r1 0)))), (.int .i64 (D.toInt (D.cell (18 : Nat) (nth r1 0)))), (.int .i64 (D.toInt (D.cell (19 : Nat) (nth r1 0)))), (.int .i64 (D.toInt (D.cell (20 : Nat) (nth r1 0))))])]) := by kernel_rfl
end Go.Proofs.YtoldpdhhfmlckaaGreat
end
section
namespace Go.Proofs.YtoldpdhhfmlckaaGreat
open Go.Ev
set_option maxRecDepth 20000
theorem Good.next {w : Wd} {K : Nat} (G : Good w K) : Good w.next (K + 1) := by
  have h := qs9 (s := w.s) G.F (qun G.p) w.k
  have a := G.k; have l := G.L; have q := h.2
  have l1 := l.mi; have l2 := l.mo; have l3 := l.ti; have l4 := l.ou
  have q1 := q.mi; have q2 := q.mo; have q3 := q.ti; have q4 := q.ou
  have qm := q.m; have qt := q.t; have ef := G.f; have eg := G.g
  refine ⟨h.1, G.p, ?_, ⟨?_, ?_, ?_, ?_⟩, ?_, ?_⟩
  · show 0 ≤ w.k + 1 ∧ w.k + 1 ≤ _; omega
  · show 0 ≤ w.ld.mi + _ ∧ w.ld.mi + _ ≤ _; omega
  · show 0 ≤ w.ld.mo + _ ∧ w.ld.mo + _ ≤ _; omega
  · show 0 ≤ w.ld.ti + _ ∧ w.ld.ti + _ ≤ _; omega
  · show 0 ≤ w.ld.ou + _ ∧ w.ld.ou + _ ≤ _; omega
  · show isum (mac w.p w.b w.k w.s).1.2.1 - (w.ld.mi + (mac w.p w.b w.k w.s).2.mi) + (w.ld.mo + (mac w.p w.b w.k w.s).2.mo) = w.f
    omega
  · show isum (mac w.p w.b w.k w.s).1.2.2 - (w.ld.ti + (mac w.p w.b w.k w.s).2.ti) + (w.ld.ou + (mac w.p w.b w.k w.s).2.ou) = w.g
    omega
theorem qax : ∀ (n : Nat) (w : Wd) (K : Nat), Good w K → Good (advN n w) (K + n)
  | 0, w, K, G => G
  | n + 1, w, K, G => by have := qax n w.next (K + 1) G.next; rw [show K + 1 + n = K + (n + 1) by omega] at this; exact this
theorem Good.adv {w : Wd} {K : Nat} (G : Good w K) (n : Nat) (i : Int) (h : i ≤ n) : Good (adv w i) (K + n) := by
  unfold Go.Proofs.YtoldpdhhfmlckaaGreat.adv
  cases g : qaz w i
  · exact G.mono (by omega)
  · exact (qax i.toNat w K G).mono (by omega)
theorem Good.drp1 {w : Wd} {K : Nat} (G : Good w K) {p m h : Int} (g : qh4 w p m h = true) : Good (drp1 w p m h) (K + 1) := by
  unfold qh4 qh1 at g
  simp only [Bool.and_eq_true, decide_eq_true_eq, qn9] at g
  obtain ⟨g1, g2, g3, g4, g5⟩ := g
  have F := G.F
  have lf := qqq w.r w.s.1 p
  obtain ⟨i, hi⟩ : ∃ i : Nat, qqp w.r w.s.1 p = (i : Int) := ⟨(qqp w.r w.s.1 p).toNat, by omega⟩
  have fl := F.len; have ml := F.ml; have tl := F.tl
  have mm := qty g2.1 g2.2 g3.1 g3.2
  have mh := qoa (a := m) (c := h) (by omega) g3
  have im : i < w.s.2.1.length := by omega
  have it : i < w.s.2.2.length := by omega
  have fi := F.at i
  have e1 : isum (w.s.2.1.set i (w.s.2.1.getD i 0 + m)) = isum w.s.2.1 + m := by rw [qoj _ _ _ im]; omega
  have e2 : isum (w.s.2.2.set i (w.s.2.2.getD i 0 + m * h)) = isum w.s.2.2 + m * h := by rw [qoj _ _ _ it]; omega
  have a := G.k; have b1 := G.L.mi; have b2 := G.L.mo; have b3 := G.L.ti; have b4 := G.L.ou
  have ef := G.f; have eg := G.g
  unfold Go.Proofs.YtoldpdhhfmlckaaGreat.drp1
  rw [hi, Int.toNat_natCast]
  refine ⟨F.mk' (by rw [List.length_set]; exact ml) (by rw [List.length_set]; exact tl) ?_ ?_, G.p, by show 0 ≤ w.k ∧ w.k ≤ _; omega, ⟨?_, ?_, ?_, ?_⟩, ?_, ?_⟩
  · intro j hj
    have fj := F.at j
    show 0 ≤ (w.s.2.1.set i (w.s.2.1.getD i 0 + m)).getD j 0 ∧ 0 ≤ (w.s.2.2.set i (w.s.2.2.getD i 0 + m * h)).getD j 0 ∧ (w.s.2.2.set i (w.s.2.2.getD i 0 + m * h)).getD j 0 ≤ 1000 * (w.s.2.1.set i (w.s.2.1.getD i 0 + m)).getD j 0
    rw [qx4 im, qx4 it]
    by_cases q : i = j
    · rw [if_pos q, if_pos q]; omega
    · rw [if_neg q, if_neg q]; omega
  · show isum (w.s.2.1.set i (w.s.2.1.getD i 0 + m)) ≤ 10000000; omega
  · show 0 ≤ w.ld.mi + m ∧ w.ld.mi + m ≤ _; omega
  · show 0 ≤ w.ld.mo ∧ w.ld.mo ≤ _; omega
  · show 0 ≤ w.ld.ti + m * h ∧ w.ld.ti + m * h ≤ _; omega
  · show 0 ≤ w.ld.ou ∧ w.ld.ou ≤ _; omega
  · show isum (w.s.2.1.set i (w.s.2.1.getD i 0 + m)) - (w.ld.mi + m) + w.ld.mo = w.f; omega
  · show isum (w.s.2.2.set i (w.s.2.2.getD i 0 + m * h)) - (w.ld.ti + m * h) + w.ld.ou = w.g; omega
theorem Good.drp {w : Wd} {K : Nat} (G : Good w K) (p m h : Int) : Good (drp w p m h) (K + 1) := by
  unfold Go.Proofs.YtoldpdhhfmlckaaGreat.drp
  cases g : qh4 w p m h
  · exact G.mono (by omega)
  · exact G.drp1 g
structure Fit (w : Wd) (M : Int) : Prop where
  m : isum w.s.2.1 ≤ M
  bi : w.p.bi ≤ 3000
  rain : w.p.rain ≤ 900
theorem quj {a : Int} (ha : 0 ≤ a ∧ a ≤ 900) (l : List Cell) : ∀ n : Nat, qy4 (part a l) n ≤ 900 * n
  | 0 => by simp [qy4]
  | n + 1 => by
    have := quj ha l n
    have h := quk (a := a) (by omega) l n
    simp only [qy4]
    omega
theorem qnr {p : Pl} (P : PlF p) (h1 : p.bi ≤ 3000) (h2 : p.rain ≤ 900) (l : List Cell) (b : List Int) (s : S2) : (flow p l b s).2.mi ≤ 3000 + 900 * l.length := by
  have e1 : (boS p.bi p.bs p.bo s).2.mi ≤ 3000 := by
    have := P.bi
    unfold boS
    split
    · exact h1
    · show (0 : Int) ≤ 3000; decide
  have e2 : ∀ x : S2, (raS p.rain l x).2.mi ≤ 900 * l.length := fun x => by
    unfold raS
    split
    · exact quj ⟨P.rain.1, h2⟩ l l.length
    · show (0 : Int) ≤ _; omega
  have e2' := e2 (boS p.bi p.bs p.bo s).1
  show (boS p.bi p.bs p.bo s).2.mi + (raS p.rain l (boS p.bi p.bs p.bo s).1).2.mi + 0 + 0 ≤ _
  omega
theorem qta {p : Pl} (P : PlF p) (h1 : p.bi ≤ 3000) (h2 : p.rain ≤ 900) (b : List Int) (k : Int) (s : S3) : (mac p b k s).2.mi ≤ 3000 + 900 * s.1.length := qnr P h1 h2 s.1 b s.2
theorem Fit.next {w : Wd} {K : Nat} {M : Int} (G : Good w K) (T : Fit w M) : Fit w.next (M + 118200) := by
  have h := (qs9 (s := w.s) G.F (qun G.p) w.k).2
  have a := qta (qun G.p) T.bi T.rain w.b w.k w.s
  have l := G.F.len; have m := T.m
  have q1 := h.m; have q2 := h.mo
  exact ⟨by show isum (mac w.p w.b w.k w.s).1.2.1 ≤ _; omega, T.bi, T.rain⟩
theorem qay : ∀ (n : Nat) (w : Wd) (K : Nat) (M : Int), Good w K → Fit w M → Fit (advN n w) (M + 118200 * n)
  | 0, w, K, M, G, T => by rw [show M + 118200 * ((0 : Nat) : Int) = M by omega]; exact T
  | n + 1, w, K, M, G, T => by have := qay n w.next (K + 1) (M + 118200) G.next (T.next G); rw [show M + 118200 + 118200 * (n : Int) = M + 118200 * ((n + 1 : Nat) : Int) by omega] at this; exact this
theorem qh5 {w : Wd} {M N : Int} (T : Fit w M) {p m h : Int} (hN : M + m ≤ N ∧ M ≤ N) : Fit (drp w p m h) N := by
  unfold drp
  cases g : qh4 w p m h
  · exact ⟨by have := T.m; show isum w.s.2.1 ≤ _; omega, T.bi, T.rain⟩
  · unfold qh4 qh1 at g
    simp only [Bool.and_eq_true, decide_eq_true_eq, qn9] at g
    obtain ⟨g1, g2, g3, g4, g5⟩ := g
    have F := (wdF g1).F
    have lf := qqq w.r w.s.1 p
    have ml := F.ml; have t := T.m
    refine ⟨?_, T.bi, T.rain⟩
    show isum (w.s.2.1.set (qqp w.r w.s.1 p).toNat (w.s.2.1.getD (qqp w.r w.s.1 p).toNat 0 + m)) ≤ _
    rw [qoj _ _ _ (by omega)]
    omega
theorem qa1 {w : Wd} {K : Nat} (G : Good w K) (hK : K ≤ 10000) (n : Nat) (hn : n ≤ 100) : adv w n = advN n w ∧ qaz w n = true := by
  have e : qaz w n = true := by unfold qaz; rw [G.ok hK, qn9.2 (by omega)]; rfl
  exact ⟨by unfold adv; rw [e]; rfl, e⟩
end Go.Proofs.YtoldpdhhfmlckaaGreat
end
section
namespace Go.Proofs.YtoldpdhhfmlckaaGreat
open Go.Ev
set_option maxRecDepth 20000
def nwW (r : Int) (l : List Cell) (m t b : List Int) (p : Pl) : Wd := ⟨r, (l, m, t), b, p, 0, ⟨0, 0, 0, 0⟩, isum m, isum t⟩
theorem z0' : (0 : Int) ≤ 0 ∧ (0 : Int) ≤ 40000000000 * ((0 : Nat) : Int) := by decide
theorem qt4 {r : Int} {l : List Cell} {m t b : List Int} (F : StF r l m t b) {p : Pl} (P : PlD p) : Good (nwW r l m t b p) 0 :=
  ⟨F, P.ok, z0, ⟨z0', z0', z0', z0'⟩, by show isum m - 0 + 0 = isum m; omega, by show isum t - 0 + 0 = isum t; omega⟩
theorem qfc (k : Nat) (hk : 2000000 ≤ k) (r : Int) (l : List Cell) (m t b : List Int) (F : StF r l m t b) (p : Pl) (P : PlD p) :
    go (k + 8) spec_WorldNew [.agg [.int .i64 (r), .arr false (false) (.r3 (l)), .arr false (false) (.ints .i64 (m)), .arr false (false) (.ints .i64 (t)), .arr false (false) (.ints .i64 (b))], plD p] = some [wdO (nwW r l m t b p), .bool true] := by
  have := F.len; have := F.bl; have := F.rr
  have e := qfb k hk r l m t b p.bi p.bs p.bo p.rain p.loss p.dec p.high p.low p.every (by omega) (by omega)
  rw [stF.2 F, P.ok] at e
  exact e
theorem qs0 (k : Nat) (hk : 2000000 ≤ k) (fu : List (Nat × Nat)) (v0 : Bool) (v1 : List Int) (v2 v3 : Int) (z : Bool) (l : List Int) (hl : (l.length : Int) ≤ 1048576) (z5 : Bool) (l6 : List Cell) (z7 : Bool) (l8 : List Int) (z9 : Bool) (l10 : List Int) (z11 : Bool) (l12 : List Int) (x13 x14 x15 x16 x17 x18 x19 x20 x21 x22 x23 x24 x25 x26 x27 x28 x29 : Int) :
    ∀ (n i : Nat) (j h : Int) (w : Wd), i ≤ 2 → 2 - i < n → 0 ≤ j → j ≤ l.length → Good w (2 * i) → Fit w (2560000 + 119100 * i) →
    ∃ (w' : Wd) (j' h' : Int), lp (k + 11) spec_l36World [(.ptr true [(.arr false (v0) (.ints IntKind.u8 (v1))), (.int .i64 (v2)), (.int .i64 (v3))])] fu 3 (n) (qxx (i : Int) z l j h z5 l6 z7 l8 z9 l10 z11 l12 x13 x14 x15 x16 x17 x18 x19 x20 x21 x22 x23 x24 x25 x26 x27 x28 x29 false w.s.1 false w.s.2.1 false w.s.2.2 false w.b w.r w.p.bi w.p.bs w.p.bo w.p.rain w.p.loss w.p.dec w.p.high w.p.low w.p.every w.k w.ld.mi w.ld.mo w.ld.ti w.ld.ou w.f w.g) = some [wdO w', .ptr true [.arr false (z) (.ints .u8 (l)), .int .i64 (j'), .int .i64 (h')]] ∧ Good w' 4 ∧ Fit w' 2800000
  | 0, i, j, h, w, hi, hn, h0, h1, G, T => by omega
  | n + 1, i, j, h, w, hi, hn, h0, h1, G, T => by
    have e := qqn (k + 11) n fu v0 v1 v2 v3 (i : Int) z l j h z5 l6 z7 l8 z9 l10 z11 l12 x13 x14 x15 x16 x17 x18 x19 x20 x21 x22 x23 x24 x25 x26 x27 x28 x29 false w.s.1 false w.s.2.1 false w.s.2.2 false w.b w.r w.p.bi w.p.bs w.p.bo w.p.rain w.p.loss w.p.dec w.p.high w.p.low w.p.every w.k w.ld.mi w.ld.mo w.ld.ti w.ld.ou w.f w.g
    obtain ⟨u1, i1, k1, e1, b1, q1, r1⟩ := qfh (k + 9) (by omega) z l j h 3 hl h0 h1 (by omega) (by omega)
    by_cases g : (i : Int) < u1
    · have S := G.F.sml
      obtain ⟨u2, i2, k2, e2, b2, q2, r2⟩ := qfh (k + 9) (by omega) z l i1 k1 40 hl q1 r1 (by omega) (by omega)
      obtain ⟨u3, i3, k3, e3, b3, q3, r3⟩ := qfh (k + 9) (by omega) z l i2 k2 900 hl q2 r2 (by omega) (by omega)
      obtain ⟨u4, i4, k4, e4, b4, q4, r4⟩ := qfh (k + 9) (by omega) z l i3 k3 1001 hl q3 r3 (by omega) (by omega)
      have eA := qea (k + 2) (by omega) w 1 S
      have A := qa1 G (by omega) 1 (by omega)
      have GA := qax 1 w _ G
      have TA := qay 1 w _ _ G T
      rw [show ((1 : Nat) : Int) = 1 from rfl] at A
      rw [A.1] at eA
      have eD := qen (k + 2) (by omega) (advN 1 w) u2 (1 + u3) u4 GA.F.sml
      have GD := GA.drp u2 (1 + u3) u4
      have TD : Fit (drp (advN 1 w) u2 (1 + u3) u4) (2560000 + 119100 * (i + 1 : Nat)) := qh5 TA (by omega)
      obtain ⟨w', j', h', e5, p5⟩ := qs0 k hk fu v0 v1 v2 v3 z l hl z5 l6 z7 l8 z9 l10 z11 l12 x13 x14 x15 x16 x17 x18 x19 x20 x21 x22 x23 x24 x25 x26 x27 x28 x29 n (i + 1) i4 k4 (drp (advN 1 w) u2 (1 + u3) u4) (by omega) (by omega) q4 r4 (GD.mono (by omega)) TD
      simp (disch := omega) only [e1, eA, qgp, q0l, qa9, nth0, qgr, qzu, qgs, qt3, quv, qg3, qob, qg5, qg6, qg7, qg8, qg9, qha, qhb, qgt, qgu, qgv, qgw, qgx, qgy, qgz, qg0, qg1, qg2, qg4, dT, nth1, qut, quu, e2, e3, e4, eD, e5, qhl] at e
      exact ⟨w', j', h', e, p5⟩
    · simp (disch := omega) only [e1, qgp, q0l, qa9, nth0, qzu, dF, nth1, qut, quu, qhj] at e
      exact ⟨w, _, _, e, G.mono (by omega), ⟨by have := T.m; omega, T.bi, T.rain⟩⟩
theorem qgh (k : Nat) (hk : 2000000 ≤ k) (z : Bool) (l : List Int) (i h : Int) (hl : (l.length : Int) ≤ 1048576) (h0 : 0 ≤ i) (h1 : i ≤ l.length) :
    ∃ (w : Wd) (i' h' : Int), go (k + 12) spec_l36World [.ptr true [.arr false (z) (.ints .u8 (l)), .int .i64 (i), .int .i64 (h)]] = some [wdO w, .ptr true [.arr false (z) (.ints .u8 (l)), .int .i64 (i'), .int .i64 (h')]] ∧ Good w 4 ∧ Fit w 2800000 := by
  have e := qm8 (k + 11) z l i h
  obtain ⟨r, c, m, t, b, i1, k1, e1, q1, F, r3, sm⟩ := qfx k (by omega) z l i h hl h0 h1
  obtain ⟨p, i2, k2, e2, q2, P⟩ := qgc (k + 7) (by omega) z l i1 k1 hl q1.1 q1.2
  have eN := qfc (k + 3) (by omega) r c m t b F p P
  obtain ⟨w', j', h', e5, p5⟩ := qs0 k hk [] z l i h z l hl true [] true [] true [] true [] 0 0 0 0 0 0 0 0 0 0 0 0 0 0 0 0 0 (k + 11) 0 i2 k2 (nwW r c m t b p) (by omega) (by omega) q2.1 q2.2 (qt4 F P) ⟨by show isum m ≤ _; omega, P.bi, P.rain⟩
  rw [show ((0 : Nat) : Int) = 0 from rfl] at e5
  unfold nwW at e5 eN
  simp (disch := omega) only [e1, qa9, nth1, qut, qzu, quu, e2, nth0, qgr, qgs, qt3, quv, qg3, qob, qg5, qg6, qg7, qg8, qg9, qha, eN, qhb, qgt, qgu, qgv, qgw, qgx, qgy, qgz, qg0, qg1, qg2, qg4, e5] at e
  exact ⟨w', j', h', e, p5⟩
theorem qsg (k : Nat) (hk : 2000000 ≤ k) (fu : List (Nat × Nat)) (z : Bool) (l : List Int) (hl : (l.length : Int) ≤ 1048576) (z4 : Bool) (l5 : List Cell) (z6 : Bool) (l7 : List Int) (z8 : Bool) (l9 : List Int) (z10 : Bool) (l11 : List Int) (x12 x13 x14 x15 x16 x17 x18 x19 x20 x21 x22 x23 x24 x25 x26 x27 x28 : Int) :
    ∀ (n t : Nat) (h : Int), t ≤ l.length → l.length - t < n →
    ∃ w : Wd, lp (k + 12) spec_DrawWorld [] fu 7800003 (n) (qw6 h (t : Int) z l z4 l5 z6 l7 z8 l9 z10 l11 x12 x13 x14 x15 x16 x17 x18 x19 x20 x21 x22 x23 x24 x25 x26 x27 x28) = some [wdO w] ∧ Good w 4 ∧ Fit w 2800000
  | 0, t, h, ht, hn => by omega
  | n + 1, t, h, ht, hn => by
    have e := qpw (k + 12) n fu h (t : Int) z l z4 l5 z6 l7 z8 l9 z10 l11 x12 x13 x14 x15 x16 x17 x18 x19 x20 x21 x22 x23 x24 x25 x26 x27 x28
    obtain ⟨w, i1, h1, e1, p1⟩ := qgh k (by omega) z l 0 h hl (by omega) (by omega)
    by_cases g : t < l.length
    · by_cases g2 : (t : Int) < 4000
      · simp (disch := omega) only [nI, dT, Bool.and_true, Int.toNat_natCast, qgp, q0l, qhl] at e
        obtain ⟨w, e3, p3⟩ := qsg k hk fu z l hl z4 l5 z6 l7 z8 l9 z10 l11 x12 x13 x14 x15 x16 x17 x18 x19 x20 x21 x22 x23 x24 x25 x26 x27 x28 n (t + 1) _ (by omega) (by omega)
        exact ⟨w, e.trans e3, p3⟩
      · simp (disch := omega) only [nI, dT, dF, Bool.and_true, Int.toNat_natCast, qgp, q0l, qhl, e1, qa9, nth0, qgr, qzu, qgs, qt3, quv, qg3, qob, qg5, qg6, qg7, qg8, qg9, qha, qhb, qgt, qgu, qgv, qgw, qgx, qgy, qgz, qg0, qg1, qg2, qg4, qhj] at e
        exact ⟨w, e, p1⟩
    · simp (disch := omega) only [nI, dF, dT, Bool.and_false, Int.toNat_natCast, qgp, q0l, qhj, e1, qa9, nth0, qgr, qzu, qgs, qt3, quv, qg3, qob, qg5, qg6, qg7, qg8, qg9, qha, qhb, qgt, qgu, qgv, qgw, qgx, qgy, qgz, qg0, qg1, qg2, qg4] at e
      exact ⟨w, e, p1⟩
theorem qel (k : Nat) (hk : 2000000 ≤ k) (z : Bool) (l : List Int) (hl : (l.length : Int) ≤ 1048576) :
    ∃ w : Wd, go (k + 13) spec_DrawWorld [.arr false z (.ints .u8 l)] = some [wdO w] ∧ Good w 4 ∧ Fit w 2800000 := by
  have e := qlc (k + 12) z l
  obtain ⟨w, e3, p3⟩ := qsg k hk [] z l hl true [] true [] true [] true [] 0 0 0 0 0 0 0 0 0 0 0 0 0 0 0 0 0 (k + 12) 0 (IntKind.wrap .i64 (98231 + nI l.length)) (by omega) (by omega)
  rw [show ((0 : Nat) : Int) = 0 from rfl] at e3
  exact ⟨w, e.trans e3, p3⟩
end Go.Proofs.YtoldpdhhfmlckaaGreat
end
section
namespace Go.Proofs.YtoldpdhhfmlckaaGreat
open Go.Ev
theorem qqu (pos : Int) (l : List Cell) : ∀ (n i : Nat), i + n = l.length → (∃ j, i ≤ j ∧ j < l.length ∧ cst (l.getD j zz3) ≤ pos ∧ pos < cst (l.getD j zz3) + q0d (l.getD j zz3).2.1) → 0 ≤ qqs pos l n i
  | 0, i, h, ⟨j, h1, h2, _⟩ => by omega
  | n + 1, i, h, ⟨j, h1, h2, h3, h4⟩ => by
    unfold qqs
    cases q : (decide (cst (l.getD i zz3) ≤ pos) && decide (pos < cst (l.getD i zz3) + q0d (l.getD i zz3).2.1))
    · have ne : i ≠ j := fun e => by
        subst e
        rw [dT h3, dT h4] at q
        cases q
      exact qqu pos l n (i + 1) (by omega) ⟨j, by omega, h2, h3, h4⟩
    · show (0 : Int) ≤ (i : Int); omega
theorem qto (r pos : Int) : ∀ (l : List Cell) (p : Int), qtl r p l = true → p ≤ pos → pos < 16 * r → ∃ j, j < l.length ∧ cst (l.getD j zz3) ≤ pos ∧ pos < cst (l.getD j zz3) + q0d (l.getD j zz3).2.1
  | [], p, h, h1, h2 => by
    simp only [qtl, Bool.and_eq_true, decide_eq_true_eq] at h
    omega
  | x :: l, p, h, h1, h2 => by
    simp only [qtl, Bool.and_eq_true, decide_eq_true_eq] at h
    by_cases g : pos < qyv x.1 x.2.1 x.2.2 + q0d x.2.1
    · exact ⟨0, by simp, by show qyv x.1 x.2.1 x.2.2 ≤ pos; omega, g⟩
    · obtain ⟨j, j1, j2, j3⟩ := qto r pos l _ h.2.2 (by omega) h2
      exact ⟨j + 1, by simpa using j1, by simpa using j2, by simpa using j3⟩
theorem qqr {r : Int} {l : List Cell} (h : qtl r 0 l = true) {pos : Int} (h1 : 0 ≤ pos) (h2 : pos < 16 * r) : 0 ≤ qqp r l pos := by
  obtain ⟨j, j1, j2⟩ := qto r pos l 0 h h1 h2
  unfold qqp
  rw [h, qhl]
  exact qqu pos l l.length 0 (by omega) ⟨j, by omega, j1, j2⟩
end Go.Proofs.YtoldpdhhfmlckaaGreat
end
section
namespace Go.Proofs.YtoldpdhhfmlckaaGreat
open Go.Ev
theorem qkq (k : Nat) (az : Bool) (a : List Int) : go (k + 1) laws_FnWorlds [(.arr false az (.ints IntKind.u8 a))] =
 (go k laws_big [(.arr false az (.ints IntKind.u8 a))]).bind fun r0 =>
 cond (bit (nth r0 0))
 (some [(.bool true)])
 ((go k spec_DrawWorld [(.arr false az (.ints IntKind.u8 a))]).bind fun r1 =>
 (go k spec_DrawPlaces [(.arr false az (.ints IntKind.u8 a))]).bind fun r2 =>
 (go k impl_Advance [(.agg [(.int .i64 (D.toInt (D.cell 0 (nth r1 0)))), (.arr false (D.nil (D.cell 1 (nth r1 0))) (.r3 (D.r3 (D.cell 1 (nth r1 0))))), (.arr false (D.nil (D.cell 2 (nth r1 0))) (.ints .i64 (D.ints (D.cell 2 (nth r1 0))))), (.arr false (D.nil (D.cell 3 (nth r1 0))) (.ints .i64 (D.ints (D.cell 3 (nth r1 0))))), (.arr false (D.nil (D.cell 4 (nth r1 0))) (.ints .i64 (D.ints (D.cell 4 (nth r1 0))))), (.int .i64 (D.toInt (D.cell 5 (nth r1 0)))), (.int .i64 (D.toInt (D.cell 6 (nth r1 0)))), (.int .i64 (D.toInt (D.cell 7 (nth r1 0)))), (.int .i64 (D.toInt (D.cell 8 (nth r1 0)))), (.int .i64 (D.toInt (D.cell 9 (nth r1 0)))), (.int .i64 (D.toInt (D.cell 10 (nth r1 0)))), (.int .i64 (D.toInt (D.cell 11 (nth r1 0)))), (.int .i64 (D.toInt (D.cell (12 : Nat) (nth r1 0)))), (.int .i64 (D.toInt (D.cell (13 : Nat) (nth r1 0)))), (.int .i64 (D.toInt (D.cell (14 : Nat) (nth r1 0)))), (.int .i64 (D.toInt (D.cell (15 : Nat) (nth r1 0)))), (.int .i64 (D.toInt (D.cell (16 : Nat) (nth r1 0)))), (.int .i64 (D.toInt (D.cell (17 : Nat) (nth r1 0)))), (.int .i64 (D.toInt (D.cell (18 : Nat) (nth r1 0)))), (.int .i64 (D.toInt (D.cell (19 : Nat) (nth r1 0)))), (.int .i64 (D.toInt (D.cell (20 : Nat) (nth r1 0))))]), (.int .i64 ((2 : Int)))]).bind fun r3 =>
 cond (decide ((0 : Int) ≤ (0 : Int)) && decide ((0 : Int) < nI (List.length (D.ints (nth r2 0)))))
 (cond (decide ((0 : Int) ≤ (1 : Int)) && decide ((1 : Int) < nI (List.length (D.ints (nth r2 0)))))
 (cond (decide ((0 : Int) ≤ (2 : Int)) && decide ((2 : Int) < nI (List.length (D.ints (nth r2 0)))))
 ((go k impl_Drop [(.agg [(.int .i64 (D.toInt (D.cell 0 (nth r3 0)))), (.arr false (D.nil (D.cell 1 (nth r3 0))) (.r3 (D.r3 (D.cell 1 (nth r3 0))))), (.arr false (D.nil (D.cell 2 (nth r3 0))) (.ints .i64 (D.ints (D.cell 2 (nth r3 0))))), (.arr false (D.nil (D.cell 3 (nth r3 0))) (.ints .i64 (D.ints (D.cell 3 (nth r3 0))))), (.arr false (D.nil (D.cell 4 (nth r3 0))) (.ints .i64 (D.ints (D.cell 4 (nth r3 0))))), (.int .i64 (D.toInt (D.cell 5 (nth r3 0)))), (.int .i64 (D.toInt (D.cell 6 (nth r3 0)))), (.int .i64 (D.toInt (D.cell 7 (nth r3 0)))), (.int .i64 (D.toInt (D.cell 8 (nth r3 0)))), (.int .i64 (D.toInt (D.cell 9 (nth r3 0)))), (.int .i64 (D.toInt (D.cell 10 (nth r3 0)))), (.int .i64 (D.toInt (D.cell 11 (nth r3 0)))), (.int .i64 (D.toInt (D.cell (12 : Nat) (nth r3 0)))), (.int .i64 (D.toInt (D.cell (13 : Nat) (nth r3 0)))), (.int .i64 (D.toInt (D.cell (14 : Nat) (nth r3 0)))), (.int .i64 (D.toInt (D.cell (15 : Nat) (nth r3 0)))), (.int .i64 (D.toInt (D.cell (16 : Nat) (nth r3 0)))), (.int .i64 (D.toInt (D.cell (17 : Nat) (nth r3 0)))), (.int .i64 (D.toInt (D.cell (18 : Nat) (nth r3 0)))), (.int .i64 (D.toInt (D.cell (19 : Nat) (nth r3 0)))), (.int .i64 (D.toInt (D.cell (20 : Nat) (nth r3 0))))]), (.int .i64 (Int.tmod (List.getD (D.ints (nth r2 0)) (Int.toNat (0 : Int)) (0 : Int)) (16 : Int))), (.int .i64 (IntKind.wrap .i64 ((1 : Int) + List.getD (D.ints (nth r2 0)) (Int.toNat (1 : Int)) (0 : Int)))), (.int .i64 (Int.tmod (List.getD (D.ints (nth r2 0)) (Int.toNat (2 : Int)) (0 : Int)) (1001 : Int)))]).bind fun r4 =>
 cond (bit (nth r3 1))
 (cond (bit (nth r4 1))
 ((go k impl_WorldOk [(.agg [(.int .i64 (D.toInt (D.cell 0 (nth r3 0)))), (.arr false (D.nil (D.cell 1 (nth r3 0))) (.r3 (D.r3 (D.cell 1 (nth r3 0))))), (.arr false (D.nil (D.cell 2 (nth r3 0))) (.ints .i64 (D.ints (D.cell 2 (nth r3 0))))), (.arr false (D.nil (D.cell 3 (nth r3 0))) (.ints .i64 (D.ints (D.cell 3 (nth r3 0))))), (.arr false (D.nil (D.cell 4 (nth r3 0))) (.ints .i64 (D.ints (D.cell 4 (nth r3 0))))), (.int .i64 (D.toInt (D.cell 5 (nth r3 0)))), (.int .i64 (D.toInt (D.cell 6 (nth r3 0)))), (.int .i64 (D.toInt (D.cell 7 (nth r3 0)))), (.int .i64 (D.toInt (D.cell 8 (nth r3 0)))), (.int .i64 (D.toInt (D.cell 9 (nth r3 0)))), (.int .i64 (D.toInt (D.cell 10 (nth r3 0)))), (.int .i64 (D.toInt (D.cell 11 (nth r3 0)))), (.int .i64 (D.toInt (D.cell (12 : Nat) (nth r3 0)))), (.int .i64 (D.toInt (D.cell (13 : Nat) (nth r3 0)))), (.int .i64 (D.toInt (D.cell (14 : Nat) (nth r3 0)))), (.int .i64 (D.toInt (D.cell (15 : Nat) (nth r3 0)))), (.int .i64 (D.toInt (D.cell (16 : Nat) (nth r3 0)))), (.int .i64 (D.toInt (D.cell (17 : Nat) (nth r3 0)))), (.int .i64 (D.toInt (D.cell (18 : Nat) (nth r3 0)))), (.int .i64 (D.toInt (D.cell (19 : Nat) (nth r3 0)))), (.int .i64 (D.toInt (D.cell (20 : Nat) (nth r3 0))))])]).bind fun r5 =>
 cond (bit (nth r5 0))
 ((go k impl_WorldOk [(.agg [(.int .i64 (D.toInt (D.cell 0 (nth r4 0)))), (.arr false (D.nil (D.cell 1 (nth r4 0))) (.r3 (D.r3 (D.cell 1 (nth r4 0))))), (.arr false (D.nil (D.cell 2 (nth r4 0))) (.ints .i64 (D.ints (D.cell 2 (nth r4 0))))), (.arr false (D.nil (D.cell 3 (nth r4 0))) (.ints .i64 (D.ints (D.cell 3 (nth r4 0))))), (.arr false (D.nil (D.cell 4 (nth r4 0))) (.ints .i64 (D.ints (D.cell 4 (nth r4 0))))), (.int .i64 (D.toInt (D.cell 5 (nth r4 0)))), (.int .i64 (D.toInt (D.cell 6 (nth r4 0)))), (.int .i64 (D.toInt (D.cell 7 (nth r4 0)))), (.int .i64 (D.toInt (D.cell 8 (nth r4 0)))), (.int .i64 (D.toInt (D.cell 9 (nth r4 0)))), (.int .i64 (D.toInt (D.cell 10 (nth r4 0)))), (.int .i64 (D.toInt (D.cell 11 (nth r4 0)))), (.int .i64 (D.toInt (D.cell (12 : Nat) (nth r4 0)))), (.int .i64 (D.toInt (D.cell (13 : Nat) (nth r4 0)))), (.int .i64 (D.toInt (D.cell (14 : Nat) (nth r4 0)))), (.int .i64 (D.toInt (D.cell (15 : Nat) (nth r4 0)))), (.int .i64 (D.toInt (D.cell (16 : Nat) (nth r4 0)))), (.int .i64 (D.toInt (D.cell (17 : Nat) (nth r4 0)))), (.int .i64 (D.toInt (D.cell (18 : Nat) (nth r4 0)))), (.int .i64 (D.toInt (D.cell (19 : Nat) (nth r4 0)))), (.int .i64 (D.toInt (D.cell (20 : Nat) (nth r4 0))))])]).bind fun r6 =>
 cond (bit (nth r6 0))
 ((go k impl_WorldOk [(.agg [(.int .i64 (D.toInt (D.cell 0 (nth r4 0)))), (.arr false (D.nil (D.cell 1 (nth r4 0))) (.r3 (D.r3 (D.cell 1 (nth r4 0))))), (.arr false (D.nil (D.cell 2 (nth r4 0))) (.ints .i64 (D.ints (D.cell 2 (nth r4 0))))), (.arr false (D.nil (D.cell 3 (nth r4 0))) (.ints .i64 (D.ints (D.cell 3 (nth r4 0))))), (.arr false (D.nil (D.cell 4 (nth r4 0))) (.ints .i64 (D.ints (D.cell 4 (nth r4 0))))), (.int .i64 (D.toInt (D.cell 5 (nth r4 0)))), (.int .i64 (D.toInt (D.cell 6 (nth r4 0)))), (.int .i64 (D.toInt (D.cell 7 (nth r4 0)))), (.int .i64 (D.toInt (D.cell 8 (nth r4 0)))), (.int .i64 (D.toInt (D.cell 9 (nth r4 0)))), (.int .i64 (D.toInt (D.cell 10 (nth r4 0)))), (.int .i64 (D.toInt (D.cell 11 (nth r4 0)))), (.int .i64 (D.toInt (D.cell (12 : Nat) (nth r4 0)))), (.int .i64 (D.toInt (D.cell (13 : Nat) (nth r4 0)))), (.int .i64 (D.toInt (D.cell (14 : Nat) (nth r4 0)))), (.int .i64 (D.toInt (D.cell (15 : Nat) (nth r4 0)))), (.int .i64 (D.toInt (D.cell (16 : Nat) (nth r4 0)))), (.int .i64 (D.toInt (D.cell (17 : Nat) (nth r4 0)))), (.int .i64 (D.toInt (D.cell (18 : Nat) (nth r4 0)))), (.int .i64 (IntKind.wrap .i64 (D.toInt (D.cell (19 : Nat) (nth r4 0)) + (1 : Int)))), (.int .i64 (D.toInt (D.cell (20 : Nat) (nth r4 0))))])]).bind fun r7 =>
 cond (!bit (nth r7 0))
 (cond (decide (D.toInt (D.cell (14 : Nat) (nth r3 0)) = IntKind.wrap .i64 (D.toInt (D.cell (14 : Nat) (nth r1 0)) + (2 : Int))))
 ((go k spec_TotalMass [(.agg [(.int .i64 (D.toInt (D.cell 0 (nth r4 0)))), (.arr false (D.nil (D.cell 1 (nth r4 0))) (.r3 (D.r3 (D.cell 1 (nth r4 0))))), (.arr false (D.nil (D.cell 2 (nth r4 0))) (.ints .i64 (D.ints (D.cell 2 (nth r4 0))))), (.arr false (D.nil (D.cell 3 (nth r4 0))) (.ints .i64 (D.ints (D.cell 3 (nth r4 0))))), (.arr false (D.nil (D.cell 4 (nth r4 0))) (.ints .i64 (D.ints (D.cell 4 (nth r4 0)))))])]).bind fun r8 =>
 (go k spec_TotalMass [(.agg [(.int .i64 (D.toInt (D.cell 0 (nth r3 0)))), (.arr false (D.nil (D.cell 1 (nth r3 0))) (.r3 (D.r3 (D.cell 1 (nth r3 0))))), (.arr false (D.nil (D.cell 2 (nth r3 0))) (.ints .i64 (D.ints (D.cell 2 (nth r3 0))))), (.arr false (D.nil (D.cell 3 (nth r3 0))) (.ints .i64 (D.ints (D.cell 3 (nth r3 0))))), (.arr false (D.nil (D.cell 4 (nth r3 0))) (.ints .i64 (D.ints (D.cell 4 (nth r3 0)))))])]).bind fun r9 =>
 cond (decide ((0 : Int) ≤ (1 : Int)) && decide ((1 : Int) < nI (List.length (D.ints (nth r2 0)))))
 (cond (decide (D.toInt (nth r8 0) = IntKind.wrap .i64 (IntKind.wrap .i64 (D.toInt (nth r9 0) + (1 : Int)) + List.getD (D.ints (nth r2 0)) (Int.toNat (1 : Int)) (0 : Int))))
 (cond (decide ((0 : Int) ≤ (1 : Int)) && decide ((1 : Int) < nI (List.length (D.ints (nth r2 0)))))
 (cond (decide ((0 : Int) ≤ (2 : Int)) && decide ((2 : Int) < nI (List.length (D.ints (nth r2 0)))))
 (some [(.bool (decide (D.toInt (D.cell (17 : Nat) (nth r4 0)) = IntKind.wrap .i64 (D.toInt (D.cell (17 : Nat) (nth r3 0)) + IntKind.wrap .i64 (IntKind.wrap .i64 ((1 : Int) + List.getD (D.ints (nth r2 0)) (Int.toNat (1 : Int)) (0 : Int)) * Int.tmod (List.getD (D.ints (nth r2 0)) (Int.toNat (2 : Int)) (0 : Int)) (1001 : Int))))))])
 none)
 none)
 (some [(.bool false)]))
 none)
 (some [(.bool false)]))
 (some [(.bool false)]))
 (some [(.bool false)]))
 (some [(.bool false)]))
 (some [(.bool false)]))
 (some [(.bool false)]))
 none)
 none)
 none) := by kernel_rfl
end Go.Proofs.YtoldpdhhfmlckaaGreat
end
section
namespace Go.Proofs.YtoldpdhhfmlckaaGreat
open Go.Ev
set_option maxRecDepth 20000
theorem qe8 (k : Nat) (hk : 2000000 ≤ k) (z1 z2 z3 z4 : Bool) (r : Int) (l : List Cell) (m t b : List Int) (F : StF r l m t b) : go (k + 8) spec_TotalMass [.agg [.int .i64 (r), .arr false (z1) (.r3 (l)), .arr false (z2) (.ints .i64 (m)), .arr false (z3) (.ints .i64 (t)), .arr false (z4) (.ints .i64 (b))]] = some [.int .i64 (isum m)] := by
  rw [qlz]
  have := F.len; have := F.ml; have := F.tl; have := F.rr; have := F.bl
  have g := stF.2 F
  have eS := qfy (k + 6) (by omega) z2 m (by omega) F.mmem
  simp (disch := omega) only [qe7, g, bit, eS, qa9, nth0, qzu, qzt, Bool.not_true, qhj]
theorem law_FnWorlds (k : Nat) (hk : 2000000 ≤ k) (az : Bool) (a : List Int) : go (k + 14) laws_FnWorlds [(.arr false (az) (.ints IntKind.u8 (a)))] = some [.bool true] := by
  by_cases h : 1048576 < (a.length : Int)
  · rw [qkq]; simp (disch := omega) only [qdz, dT, bit, nI, Bool.true_and, qa9, nth0, qzt, qhl]
  have h : (a.length : Int) ≤ 1048576 := by omega
  obtain ⟨w, eD, G, T⟩ := qel k (by omega) az a h
  obtain ⟨P, eP, hP, pP⟩ := qei (k + 10) (by omega) az a h
  have p0 := pP _ (qnw (show 0 < P.length by omega) 0)
  have p1 := pP _ (qnw (show 1 < P.length by omega) 0)
  have p2 := pP _ (qnw (show 2 < P.length by omega) 0)
  have t0 : Int.tmod (P.getD 0 0) 16 = P.getD 0 0 % 16 := Int.tmod_eq_emod_of_nonneg p0.1
  have t2 : Int.tmod (P.getD 2 0) 1001 = P.getD 2 0 % 1001 := Int.tmod_eq_emod_of_nonneg p2.1
  obtain ⟨q, hq⟩ : ∃ q, P.getD 0 0 % 16 = q := ⟨_, rfl⟩
  obtain ⟨c, hc⟩ : ∃ c, 1 + P.getD 1 0 = c := ⟨_, rfl⟩
  obtain ⟨d, hd⟩ : ∃ d, P.getD 2 0 % 1001 = d := ⟨_, rfl⟩
  have q0 : 0 ≤ q ∧ q < 16 := by omega
  have c0 : 1 ≤ c ∧ c ≤ 10000 := by omega
  have d0 : 0 ≤ d ∧ d ≤ 1000 := by omega
  have cd := qty c0.1 c0.2 d0.1 d0.2
  have S := G.F.sml
  have A := qa1 G (by omega) 2 (by omega)
  rw [show ((2 : Nat) : Int) = 2 from rfl] at A
  have eA := qbl (k + 1) (by omega) w 2 S
  rw [A.1, A.2] at eA
  have Gx := qax 2 w _ G
  have Tx := qay 2 w _ _ G T
  have kx : (advN 2 w).k = w.k + 2 := by show w.k + 1 + 1 = _; omega
  obtain ⟨x, hx⟩ : ∃ x, x = advN 2 w := ⟨_, rfl⟩
  rw [← hx] at eA Gx Tx kx
  have rr := Gx.F.rr
  have lf := qqr Gx.F.mesh (pos := q) q0.1 (by omega)
  have lg := qqq x.r x.s.1 q
  have ok : qh4 x q c d = true := by
    have o : wdOk x = true := Gx.ok (by omega)
    have s := Tx.m
    unfold wdOk at o
    unfold qh4 qh1
    rw [o, qn9.2 c0, qn9.2 d0, dT (by omega), dT lf]; rfl
  have eR := qbw (k + 3) (by omega) x q c d Gx.F.sml
  have Gy := Gx.drp1 ok
  rw [ok, show drp x q c d = drp1 x q c d by unfold drp; rw [ok]; rfl] at eR
  have ml := Gx.F.ml
  have em : isum (drp1 x q c d).s.2.1 = isum x.s.2.1 + c := by
    show isum (x.s.2.1.set (qqp x.r x.s.1 q).toNat (x.s.2.1.getD (qqp x.r x.s.1 q).toNat 0 + c)) = _
    rw [qoj _ _ _ (by omega)]; omega
  have et : (drp1 x q c d).ld.ti = x.ld.ti + c * d := rfl
  obtain ⟨y, hy⟩ : ∃ y, y = drp1 x q c d := ⟨_, rfl⟩
  rw [← hy] at eR Gy em et
  have e1 := qcs (k + 4) (by omega) x Gx.F.sml
  rw [Gx.ok (by omega)] at e1
  have e2 := qcs (k + 4) (by omega) y Gy.F.sml
  rw [Gy.ok (by omega)] at e2
  have e3 := qcs (k + 4) (by omega) { y with f := y.f + 1 } ⟨Gy.F.sml.h1, Gy.F.sml.h2, Gy.F.sml.h3, Gy.F.sml.h4⟩
  have z3 : wdOk { y with f := y.f + 1 } = false := by
    cases g : wdOk { y with f := y.f + 1 }
    · rfl
    · have f1 := (wdF g).f; have f2 := Gy.f
      exfalso
      have f1' : isum y.s.2.1 - y.ld.mi + y.ld.mo = y.f + 1 := f1
      omega
  rw [z3] at e3
  have e4 := qe8 (k + 5) (by omega) false false false false y.r y.s.1 y.s.2.1 y.s.2.2 y.b Gy.F
  have e5 := qe8 (k + 5) (by omega) false false false false x.r x.s.1 x.s.2.1 x.s.2.2 x.b Gx.F
  have yf := Gy.f; have ym := Gy.F.msum; have xm := Gx.F.msum
  have y1 := Gy.L.mi; have y2 := Gy.L.mo; have x3 := Gx.L.ti; have wk := G.k
  have n1 : P.getD 1 0 = c - 1 := by omega
  rw [qkq]
  simp (disch := omega) only [qdz, dF, bit, eD, eP, dT, nI, Bool.true_and, show Int.toNat 0 = 0 from rfl, show Int.toNat 1 = 1 from rfl, show Int.toNat 2 = 2 from rfl, qa9, nth0, qob, hP, t0, hq, hc, q0l, t2, hd, qhl, qgr, qzu, qgs, qt3, quv, qg3, qg5, qg6, qg7, qg8, qg9, qha, qhb, qgt, qgu, qgv, qgw, qgx, qgy, qgz, qg0, qg1, qg2, qg4, eA, eR, nth1, qzt, e1, e5, e2, e3, e4, Bool.not_false, qhj]
end Go.Proofs.YtoldpdhhfmlckaaGreat
end
