/- What the program's functions compute, and plain facts of it (part 2). No condition beyond those that each theorem states. -/
import Derived.Test.YtjfjniebmdafeaaGreatDoorQR1
set_option linter.unusedVariables false
set_option linter.unusedSimpArgs false
section
namespace Go.Proofs.YtjfjniebmdafeaaGreatDoor
open Go.Ev
theorem qin (k : Nat) (a0 : Int) (a1z : Bool) (a1 : List (Int × Int × Int)) (a2z : Bool) (a2 : List Int) (a3z : Bool) (a3 : List Int) (a4z : Bool) (a4 : List Int) (a5 a6 a7 a8 a9 a10 a11 a12 a13 a14 a15 a16 a17 a18 a19 a20 : Int) : go (k + 1) spec_l36Copy [(.agg [(.int .i64 (a0)), (.arr false (a1z) (.r3 (a1))), (.arr false (a2z) (.ints .i64 (a2))), (.arr false (a3z) (.ints .i64 (a3))), (.arr false (a4z) (.ints .i64 (a4))), (.int .i64 (a5)), (.int .i64 (a6)), (.int .i64 (a7)), (.int .i64 (a8)), (.int .i64 (a9)), (.int .i64 (a10)), (.int .i64 (a11)), (.int .i64 (a12)), (.int .i64 (a13)), (.int .i64 (a14)), (.int .i64 (a15)), (.int .i64 (a16)), (.int .i64 (a17)), (.int .i64 (a18)), (.int .i64 (a19)), (.int .i64 (a20))])] =
 (go k spec_l07Copy [(.agg [(.int .i64 (a0)), (.arr false (a1z) (.r3 (a1))), (.arr false (a2z) (.ints .i64 (a2))), (.arr false (a3z) (.ints .i64 (a3))), (.arr false (a4z) (.ints .i64 (a4)))])]).bind fun r0 =>
 some [(.agg [(.int .i64 (D.toInt (D.cell 0 (nth r0 0)))), (.arr true (D.nil (D.cell 1 (nth r0 0))) (.r3 (D.r3 (D.cell 1 (nth r0 0))))), (.arr true (D.nil (D.cell 2 (nth r0 0))) (.ints .i64 (D.ints (D.cell 2 (nth r0 0))))), (.arr true (D.nil (D.cell 3 (nth r0 0))) (.ints .i64 (D.ints (D.cell 3 (nth r0 0))))), (.arr true (D.nil (D.cell 4 (nth r0 0))) (.ints .i64 (D.ints (D.cell 4 (nth r0 0))))), (.int .i64 (a5)), (.int .i64 (a6)), (.int .i64 (a7)), (.int .i64 (a8)), (.int .i64 (a9)), (.int .i64 (a10)), (.int .i64 (a11)), (.int .i64 (a12)), (.int .i64 (a13)), (.int .i64 (a14)), (.int .i64 (a15)), (.int .i64 (a16)), (.int .i64 (a17)), (.int .i64 (a18)), (.int .i64 (a19)), (.int .i64 (a20))])] := by kernel_rfl
theorem qg8 (k : Nat) (a0 a1 a2 a3 b0 b1 b2 b3 : Int) : go (k + 1) spec_LedgerAdd [(.agg [(.int .i64 (a0)), (.int .i64 (a1)), (.int .i64 (a2)), (.int .i64 (a3))]), (.agg [(.int .i64 (b0)), (.int .i64 (b1)), (.int .i64 (b2)), (.int .i64 (b3))])] =
 some [(.agg [(.int .i64 (IntKind.wrap .i64 (a0 + b0))), (.int .i64 (IntKind.wrap .i64 (a1 + b1))), (.int .i64 (IntKind.wrap .i64 (a2 + b2))), (.int .i64 (IntKind.wrap .i64 (a3 + b3)))])] := by kernel_rfl
theorem qgz (k : Nat) (a0 : Int) (a1z : Bool) (a1 : List (Int × Int × Int)) (a2z : Bool) (a2 : List Int) (a3z : Bool) (a3 : List Int) (a4z : Bool) (a4 : List Int) (a5 a6 a7 a8 a9 a10 a11 a12 a13 a14 a15 a16 a17 a18 a19 a20 b c d : Int) : go (k + 1) spec_Drop [(.agg [(.int .i64 (a0)), (.arr false (a1z) (.r3 (a1))), (.arr false (a2z) (.ints .i64 (a2))), (.arr false (a3z) (.ints .i64 (a3))), (.arr false (a4z) (.ints .i64 (a4))), (.int .i64 (a5)), (.int .i64 (a6)), (.int .i64 (a7)), (.int .i64 (a8)), (.int .i64 (a9)), (.int .i64 (a10)), (.int .i64 (a11)), (.int .i64 (a12)), (.int .i64 (a13)), (.int .i64 (a14)), (.int .i64 (a15)), (.int .i64 (a16)), (.int .i64 (a17)), (.int .i64 (a18)), (.int .i64 (a19)), (.int .i64 (a20))]), (.int .i64 (b)), (.int .i64 (c)), (.int .i64 (d))] =
 (go k spec_l36Copy [(.agg [(.int .i64 (a0)), (.arr false (a1z) (.r3 (a1))), (.arr false (a2z) (.ints .i64 (a2))), (.arr false (a3z) (.ints .i64 (a3))), (.arr false (a4z) (.ints .i64 (a4))), (.int .i64 (a5)), (.int .i64 (a6)), (.int .i64 (a7)), (.int .i64 (a8)), (.int .i64 (a9)), (.int .i64 (a10)), (.int .i64 (a11)), (.int .i64 (a12)), (.int .i64 (a13)), (.int .i64 (a14)), (.int .i64 (a15)), (.int .i64 (a16)), (.int .i64 (a17)), (.int .i64 (a18)), (.int .i64 (a19)), (.int .i64 (a20))])]).bind fun r0 =>
 (go k spec_WorldOk [(.agg [(.int .i64 (a0)), (.arr false (a1z) (.r3 (a1))), (.arr false (a2z) (.ints .i64 (a2))), (.arr false (a3z) (.ints .i64 (a3))), (.arr false (a4z) (.ints .i64 (a4))), (.int .i64 (a5)), (.int .i64 (a6)), (.int .i64 (a7)), (.int .i64 (a8)), (.int .i64 (a9)), (.int .i64 (a10)), (.int .i64 (a11)), (.int .i64 (a12)), (.int .i64 (a13)), (.int .i64 (a14)), (.int .i64 (a15)), (.int .i64 (a16)), (.int .i64 (a17)), (.int .i64 (a18)), (.int .i64 (a19)), (.int .i64 (a20))])]).bind fun r1 =>
 cond (!bit (nth r1 0))
 (some [(.agg [(.int .i64 (D.toInt (D.cell 0 (nth r0 0)))), (.arr true (D.nil (D.cell 1 (nth r0 0))) (.r3 (D.r3 (D.cell 1 (nth r0 0))))), (.arr true (D.nil (D.cell 2 (nth r0 0))) (.ints .i64 (D.ints (D.cell 2 (nth r0 0))))), (.arr true (D.nil (D.cell 3 (nth r0 0))) (.ints .i64 (D.ints (D.cell 3 (nth r0 0))))), (.arr true (D.nil (D.cell 4 (nth r0 0))) (.ints .i64 (D.ints (D.cell 4 (nth r0 0))))), (.int .i64 (D.toInt (D.cell 5 (nth r0 0)))), (.int .i64 (D.toInt (D.cell 6 (nth r0 0)))), (.int .i64 (D.toInt (D.cell 7 (nth r0 0)))), (.int .i64 (D.toInt (D.cell 8 (nth r0 0)))), (.int .i64 (D.toInt (D.cell 9 (nth r0 0)))), (.int .i64 (D.toInt (D.cell 10 (nth r0 0)))), (.int .i64 (D.toInt (D.cell 11 (nth r0 0)))), (.int .i64 (D.toInt (D.cell (12 : Nat) (nth r0 0)))), (.int .i64 (D.toInt (D.cell (13 : Nat) (nth r0 0)))), (.int .i64 (D.toInt (D.cell (14 : Nat) (nth r0 0)))), (.int .i64 (D.toInt (D.cell (15 : Nat) (nth r0 0)))), (.int .i64 (D.toInt (D.cell (16 : Nat) (nth r0 0)))), (.int .i64 (D.toInt (D.cell (17 : Nat) (nth r0 0)))), (.int .i64 (D.toInt (D.cell (18 : Nat) (nth r0 0)))), (.int .i64 (D.toInt (D.cell (19 : Nat) (nth r0 0)))), (.int .i64 (D.toInt (D.cell (20 : Nat) (nth r0 0))))]), (.bool (false))])
 ((go k spec_l01In [(.int .i64 (c)), (.int .i64 ((1 : Int))), (.int .i64 ((10000 : Int)))]).bind fun r2 =>
 cond (!bit (nth r2 0))
 (some [(.agg [(.int .i64 (D.toInt (D.cell 0 (nth r0 0)))), (.arr true (D.nil (D.cell 1 (nth r0 0))) (.r3 (D.r3 (D.cell 1 (nth r0 0))))), (.arr true (D.nil (D.cell 2 (nth r0 0))) (.ints .i64 (D.ints (D.cell 2 (nth r0 0))))), (.arr true (D.nil (D.cell 3 (nth r0 0))) (.ints .i64 (D.ints (D.cell 3 (nth r0 0))))), (.arr true (D.nil (D.cell 4 (nth r0 0))) (.ints .i64 (D.ints (D.cell 4 (nth r0 0))))), (.int .i64 (D.toInt (D.cell 5 (nth r0 0)))), (.int .i64 (D.toInt (D.cell 6 (nth r0 0)))), (.int .i64 (D.toInt (D.cell 7 (nth r0 0)))), (.int .i64 (D.toInt (D.cell 8 (nth r0 0)))), (.int .i64 (D.toInt (D.cell 9 (nth r0 0)))), (.int .i64 (D.toInt (D.cell 10 (nth r0 0)))), (.int .i64 (D.toInt (D.cell 11 (nth r0 0)))), (.int .i64 (D.toInt (D.cell (12 : Nat) (nth r0 0)))), (.int .i64 (D.toInt (D.cell (13 : Nat) (nth r0 0)))), (.int .i64 (D.toInt (D.cell (14 : Nat) (nth r0 0)))), (.int .i64 (D.toInt (D.cell (15 : Nat) (nth r0 0)))), (.int .i64 (D.toInt (D.cell (16 : Nat) (nth r0 0)))), (.int .i64 (D.toInt (D.cell (17 : Nat) (nth r0 0)))), (.int .i64 (D.toInt (D.cell (18 : Nat) (nth r0 0)))), (.int .i64 (D.toInt (D.cell (19 : Nat) (nth r0 0)))), (.int .i64 (D.toInt (D.cell (20 : Nat) (nth r0 0))))]), (.bool (false))])
 ((go k spec_l01In [(.int .i64 (d)), (.int .i64 (0 : Int)), (.int .i64 ((1000 : Int)))]).bind fun r3 =>
 cond (!bit (nth r3 0))
 (some [(.agg [(.int .i64 (D.toInt (D.cell 0 (nth r0 0)))), (.arr true (D.nil (D.cell 1 (nth r0 0))) (.r3 (D.r3 (D.cell 1 (nth r0 0))))), (.arr true (D.nil (D.cell 2 (nth r0 0))) (.ints .i64 (D.ints (D.cell 2 (nth r0 0))))), (.arr true (D.nil (D.cell 3 (nth r0 0))) (.ints .i64 (D.ints (D.cell 3 (nth r0 0))))), (.arr true (D.nil (D.cell 4 (nth r0 0))) (.ints .i64 (D.ints (D.cell 4 (nth r0 0))))), (.int .i64 (D.toInt (D.cell 5 (nth r0 0)))), (.int .i64 (D.toInt (D.cell 6 (nth r0 0)))), (.int .i64 (D.toInt (D.cell 7 (nth r0 0)))), (.int .i64 (D.toInt (D.cell 8 (nth r0 0)))), (.int .i64 (D.toInt (D.cell 9 (nth r0 0)))), (.int .i64 (D.toInt (D.cell 10 (nth r0 0)))), (.int .i64 (D.toInt (D.cell 11 (nth r0 0)))), (.int .i64 (D.toInt (D.cell (12 : Nat) (nth r0 0)))), (.int .i64 (D.toInt (D.cell (13 : Nat) (nth r0 0)))), (.int .i64 (D.toInt (D.cell (14 : Nat) (nth r0 0)))), (.int .i64 (D.toInt (D.cell (15 : Nat) (nth r0 0)))), (.int .i64 (D.toInt (D.cell (16 : Nat) (nth r0 0)))), (.int .i64 (D.toInt (D.cell (17 : Nat) (nth r0 0)))), (.int .i64 (D.toInt (D.cell (18 : Nat) (nth r0 0)))), (.int .i64 (D.toInt (D.cell (19 : Nat) (nth r0 0)))), (.int .i64 (D.toInt (D.cell (20 : Nat) (nth r0 0))))]), (.bool (false))])
 ((go k spec_l07Sum [(.arr false (a2z) (.ints .i64 (a2)))]).bind fun r4 =>
 cond (decide ((10000000 : Int) < IntKind.wrap .i64 (D.toInt (nth r4 0) + c)))
 (some [(.agg [(.int .i64 (D.toInt (D.cell 0 (nth r0 0)))), (.arr true (D.nil (D.cell 1 (nth r0 0))) (.r3 (D.r3 (D.cell 1 (nth r0 0))))), (.arr true (D.nil (D.cell 2 (nth r0 0))) (.ints .i64 (D.ints (D.cell 2 (nth r0 0))))), (.arr true (D.nil (D.cell 3 (nth r0 0))) (.ints .i64 (D.ints (D.cell 3 (nth r0 0))))), (.arr true (D.nil (D.cell 4 (nth r0 0))) (.ints .i64 (D.ints (D.cell 4 (nth r0 0))))), (.int .i64 (D.toInt (D.cell 5 (nth r0 0)))), (.int .i64 (D.toInt (D.cell 6 (nth r0 0)))), (.int .i64 (D.toInt (D.cell 7 (nth r0 0)))), (.int .i64 (D.toInt (D.cell 8 (nth r0 0)))), (.int .i64 (D.toInt (D.cell 9 (nth r0 0)))), (.int .i64 (D.toInt (D.cell 10 (nth r0 0)))), (.int .i64 (D.toInt (D.cell 11 (nth r0 0)))), (.int .i64 (D.toInt (D.cell (12 : Nat) (nth r0 0)))), (.int .i64 (D.toInt (D.cell (13 : Nat) (nth r0 0)))), (.int .i64 (D.toInt (D.cell (14 : Nat) (nth r0 0)))), (.int .i64 (D.toInt (D.cell (15 : Nat) (nth r0 0)))), (.int .i64 (D.toInt (D.cell (16 : Nat) (nth r0 0)))), (.int .i64 (D.toInt (D.cell (17 : Nat) (nth r0 0)))), (.int .i64 (D.toInt (D.cell (18 : Nat) (nth r0 0)))), (.int .i64 (D.toInt (D.cell (19 : Nat) (nth r0 0)))), (.int .i64 (D.toInt (D.cell (20 : Nat) (nth r0 0))))]), (.bool (false))])
 ((go k spec_LeafAt [(.agg [(.int .i64 (a0)), (.arr false (a1z) (.r3 (a1)))]), (.int .i64 (b))]).bind fun r5 =>
 cond (decide (D.toInt (nth r5 0) < (0 : Int)))
 (some [(.agg [(.int .i64 (D.toInt (D.cell 0 (nth r0 0)))), (.arr true (D.nil (D.cell 1 (nth r0 0))) (.r3 (D.r3 (D.cell 1 (nth r0 0))))), (.arr true (D.nil (D.cell 2 (nth r0 0))) (.ints .i64 (D.ints (D.cell 2 (nth r0 0))))), (.arr true (D.nil (D.cell 3 (nth r0 0))) (.ints .i64 (D.ints (D.cell 3 (nth r0 0))))), (.arr true (D.nil (D.cell 4 (nth r0 0))) (.ints .i64 (D.ints (D.cell 4 (nth r0 0))))), (.int .i64 (D.toInt (D.cell 5 (nth r0 0)))), (.int .i64 (D.toInt (D.cell 6 (nth r0 0)))), (.int .i64 (D.toInt (D.cell 7 (nth r0 0)))), (.int .i64 (D.toInt (D.cell 8 (nth r0 0)))), (.int .i64 (D.toInt (D.cell 9 (nth r0 0)))), (.int .i64 (D.toInt (D.cell 10 (nth r0 0)))), (.int .i64 (D.toInt (D.cell 11 (nth r0 0)))), (.int .i64 (D.toInt (D.cell (12 : Nat) (nth r0 0)))), (.int .i64 (D.toInt (D.cell (13 : Nat) (nth r0 0)))), (.int .i64 (D.toInt (D.cell (14 : Nat) (nth r0 0)))), (.int .i64 (D.toInt (D.cell (15 : Nat) (nth r0 0)))), (.int .i64 (D.toInt (D.cell (16 : Nat) (nth r0 0)))), (.int .i64 (D.toInt (D.cell (17 : Nat) (nth r0 0)))), (.int .i64 (D.toInt (D.cell (18 : Nat) (nth r0 0)))), (.int .i64 (D.toInt (D.cell (19 : Nat) (nth r0 0)))), (.int .i64 (D.toInt (D.cell (20 : Nat) (nth r0 0))))]), (.bool (false))])
 (cond (decide ((0 : Int) ≤ D.toInt (nth r5 0)) && decide (D.toInt (nth r5 0) < nI (List.length (D.ints (D.cell 2 (nth r0 0))))))
 (cond (decide ((0 : Int) ≤ D.toInt (nth r5 0)) && decide (D.toInt (nth r5 0) < nI (List.length (D.ints (D.cell 2 (nth r0 0))))))
 (cond (decide ((0 : Int) ≤ D.toInt (nth r5 0)) && decide (D.toInt (nth r5 0) < nI (List.length (D.ints (D.cell 3 (nth r0 0))))))
 (cond (decide ((0 : Int) ≤ D.toInt (nth r5 0)) && decide (D.toInt (nth r5 0) < nI (List.length (D.ints (D.cell 3 (nth r0 0))))))
 ((go k spec_LedgerAdd [(.agg [(.int .i64 (D.toInt (D.cell (15 : Nat) (nth r0 0)))), (.int .i64 (D.toInt (D.cell (16 : Nat) (nth r0 0)))), (.int .i64 (D.toInt (D.cell (17 : Nat) (nth r0 0)))), (.int .i64 (D.toInt (D.cell (18 : Nat) (nth r0 0))))]), (.agg [(.int .i64 (c)), (.int .i64 (0 : Int)), (.int .i64 (IntKind.wrap .i64 (c * d))), (.int .i64 (0 : Int))])]).bind fun r6 =>
 some [(.agg [(.int .i64 (D.toInt (D.cell 0 (nth r0 0)))), (.arr true (D.nil (D.cell 1 (nth r0 0))) (.r3 (D.r3 (D.cell 1 (nth r0 0))))), (.arr true (D.nil (D.cell 2 (nth r0 0))) (.ints .i64 (List.set (D.ints (D.cell 2 (nth r0 0))) (Int.toNat (D.toInt (nth r5 0))) (IntKind.wrap .i64 (List.getD (D.ints (D.cell 2 (nth r0 0))) (Int.toNat (D.toInt (nth r5 0))) (0 : Int) + c))))), (.arr true (D.nil (D.cell 3 (nth r0 0))) (.ints .i64 (List.set (D.ints (D.cell 3 (nth r0 0))) (Int.toNat (D.toInt (nth r5 0))) (IntKind.wrap .i64 (List.getD (D.ints (D.cell 3 (nth r0 0))) (Int.toNat (D.toInt (nth r5 0))) (0 : Int) + IntKind.wrap .i64 (c * d)))))), (.arr true (D.nil (D.cell 4 (nth r0 0))) (.ints .i64 (D.ints (D.cell 4 (nth r0 0))))), (.int .i64 (D.toInt (D.cell 5 (nth r0 0)))), (.int .i64 (D.toInt (D.cell 6 (nth r0 0)))), (.int .i64 (D.toInt (D.cell 7 (nth r0 0)))), (.int .i64 (D.toInt (D.cell 8 (nth r0 0)))), (.int .i64 (D.toInt (D.cell 9 (nth r0 0)))), (.int .i64 (D.toInt (D.cell 10 (nth r0 0)))), (.int .i64 (D.toInt (D.cell 11 (nth r0 0)))), (.int .i64 (D.toInt (D.cell (12 : Nat) (nth r0 0)))), (.int .i64 (D.toInt (D.cell (13 : Nat) (nth r0 0)))), (.int .i64 (D.toInt (D.cell (14 : Nat) (nth r0 0)))), (.int .i64 (D.toInt (D.cell 0 (nth r6 0)))), (.int .i64 (D.toInt (D.cell 1 (nth r6 0)))), (.int .i64 (D.toInt (D.cell 2 (nth r6 0)))), (.int .i64 (D.toInt (D.cell 3 (nth r6 0)))), (.int .i64 (D.toInt (D.cell (19 : Nat) (nth r0 0)))), (.int .i64 (D.toInt (D.cell (20 : Nat) (nth r0 0))))]), (.bool (true))])
 (none))
 (none))
 (none))
 (none)))))) := by kernel_rfl
end Go.Proofs.YtjfjniebmdafeaaGreatDoor
end
section
namespace Go.Proofs.YtjfjniebmdafeaaGreatDoor
open Go.Ev
def qo9 (x0 : Int) (z1 : Bool) (l2 : List (Int × Int × Int)) (z3 : Bool) (l4 : List Int) (z5 : Bool) (l6 : List Int) (z7 : Bool) (l8 : List Int) (x9 : Int) (z10 : Bool) (l11 : List (Int × Int × Int)) (z12 : Bool) (l13 : List Int) (z14 : Bool) (l15 : List Int) (z16 : Bool) (l17 : List Int) (x18 : Int) : St := ⟨fill 19 [(1, (.ptr 4 (0) (0))), (2, (.ptr 9 (0) (0))), (3, (.int .i64 (x0)))], [], [(.arr true (z1) (.r3 (l2))), (.arr true (z3) (.ints .i64 (l4))), (.arr true (z5) (.ints .i64 (l6))), (.arr true (z7) (.ints .i64 (l8))), (.box true [(.int .i64 (x9)), (.sl 0 none), (.sl 1 none), (.sl 2 none), (.sl 3 none)]), (.arr true (z10) (.r3 (l11))), (.arr true (z12) (.ints .i64 (l13))), (.arr true (z14) (.ints .i64 (l15))), (.arr true (z16) (.ints .i64 (l17))), (.box true [(.int .i64 (x18)), (.sl 5 none), (.sl 6 none), (.sl 7 none), (.sl 8 none)])]⟩
theorem qh3 (k : Nat) (a0 : Int) (a1z : Bool) (a1 : List (Int × Int × Int)) (a2z : Bool) (a2 : List Int) (a3z : Bool) (a3 : List Int) (a4z : Bool) (a4 : List Int) : go (k + 1) spec_l08Level [(.agg [(.int .i64 (a0)), (.arr true (a1z) (.r3 (a1))), (.arr true (a2z) (.ints .i64 (a2))), (.arr true (a3z) (.ints .i64 (a3))), (.arr true (a4z) (.ints .i64 (a4)))])] =
 (go k spec_l05First [(.agg [(.int .i64 (a0)), (.arr false (a1z) (.r3 (a1)))])]).bind fun r0 =>
 lp k spec_l08Level [] [] 2 k (qo9 (D.toInt (nth r0 0)) a1z a1 a2z a2 a3z a3 a4z a4 a0 true ([]) true ([]) true ([]) true ([]) (0 : Int)) := by kernel_rfl
theorem qks (k n : Nat) (fu : List (Nat × Nat)) (x0 : Int) (z1 : Bool) (l2 : List (Int × Int × Int)) (z3 : Bool) (l4 : List Int) (z5 : Bool) (l6 : List Int) (z7 : Bool) (l8 : List Int) (x9 : Int) (z10 : Bool) (l11 : List (Int × Int × Int)) (z12 : Bool) (l13 : List Int) (z14 : Bool) (l15 : List Int) (z16 : Bool) (l17 : List Int) (x18 : Int) : lp k spec_l08Level [] fu 2 (n + 1) (qo9 x0 z1 l2 z3 l4 z5 l6 z7 l8 x9 z10 l11 z12 l13 z14 l15 z16 l17 x18) =
 cond (decide ((0 : Int) ≤ x0))
 ((go k spec_l05Coarser [(.agg [(.int .i64 (x9)), (.arr false (z1) (.r3 (l2)))]), (.int .i64 (x0))]).bind fun r0 =>
 (go k spec_l08Split [(.agg [(.int .i64 (x9)), (.arr false (z1) (.r3 (l2))), (.arr false (z3) (.ints .i64 (l4))), (.arr false (z5) (.ints .i64 (l6))), (.arr false (z7) (.ints .i64 (l8)))]), (.int .i64 (D.toInt (nth r0 0)))]).bind fun r1 =>
 (go k spec_l05First [(.agg [(.int .i64 (D.toInt (D.cell 0 (nth r1 0)))), (.arr false (D.nil (D.cell 1 (nth r1 0))) (.r3 (D.r3 (D.cell 1 (nth r1 0)))))])]).bind fun r2 =>
 lp k spec_l08Level [] fu 2 n (qo9 (D.toInt (nth r2 0)) (D.nil (D.cell 1 (nth r1 0))) (D.r3 (D.cell 1 (nth r1 0))) (D.nil (D.cell 2 (nth r1 0))) (D.ints (D.cell 2 (nth r1 0))) (D.nil (D.cell 3 (nth r1 0))) (D.ints (D.cell 3 (nth r1 0))) (D.nil (D.cell 4 (nth r1 0))) (D.ints (D.cell 4 (nth r1 0))) (D.toInt (D.cell 0 (nth r1 0))) z10 l11 z12 l13 z14 l15 z16 l17 x18))
 (some [(.agg [(.int .i64 (x9)), (.arr true (z1) (.r3 (l2))), (.arr true (z3) (.ints .i64 (l4))), (.arr true (z5) (.ints .i64 (l6))), (.arr true (z7) (.ints .i64 (l8)))])]) := by kernel_rfl
def qpg (x0 : Int) (z1 : Bool) (l2 : List (Int × Int × Int)) (z3 : Bool) (l4 : List Int) (z5 : Bool) (l6 : List Int) (z7 : Bool) (l8 : List Int) (x9 : Int) (z10 : Bool) (l11 : List (Int × Int × Int)) (z12 : Bool) (l13 : List Int) (z14 : Bool) (l15 : List Int) (z16 : Bool) (l17 : List Int) (x18 : Int) (z19 : Bool) (l20 : List Int) (z21 : Bool) (l22 : List (Int × Int × Int)) (z23 : Bool) (l24 : List Int) (z25 : Bool) (l26 : List Int) (z27 : Bool) (l28 : List Int) (x29 : Int) : St := ⟨fill 93 [(3, (.ptr 4 (0) (0))), (6, (.ptr 9 (0) (0))), (7, (.sl 10 none)), (8, (.ptr 15 (0) (0))), (10, (.int .i64 (x0)))], [], [(.arr false (z1) (.r3 (l2))), (.arr false (z3) (.ints .i64 (l4))), (.arr false (z5) (.ints .i64 (l6))), (.arr false (z7) (.ints .i64 (l8))), (.box true [(.int .i64 (x9)), (.sl 0 none), (.sl 1 none), (.sl 2 none), (.sl 3 none)]), (.arr true (z10) (.r3 (l11))), (.arr true (z12) (.ints .i64 (l13))), (.arr true (z14) (.ints .i64 (l15))), (.arr true (z16) (.ints .i64 (l17))), (.box true [(.int .i64 (x18)), (.sl 5 none), (.sl 6 none), (.sl 7 none), (.sl 8 none)]), (.arr true (z19) (.ints .i64 (l20))), (.arr true (z21) (.r3 (l22))), (.arr true (z23) (.ints .i64 (l24))), (.arr true (z25) (.ints .i64 (l26))), (.arr true (z27) (.ints .i64 (l28))), (.box true [(.int .i64 (x29)), (.sl 11 none), (.sl 12 none), (.sl 13 none), (.sl 14 none)])]⟩
def qph (x0 : Int) (z1 : Bool) (l2 : List (Int × Int × Int)) (z3 : Bool) (l4 : List Int) (z5 : Bool) (l6 : List Int) (z7 : Bool) (l8 : List Int) (x9 : Int) (z10 : Bool) (l11 : List (Int × Int × Int)) (z12 : Bool) (l13 : List Int) (z14 : Bool) (l15 : List Int) (z16 : Bool) (l17 : List Int) (x18 : Int) (z19 : Bool) (l20 : List Int) (z21 : Bool) (l22 : List (Int × Int × Int)) (z23 : Bool) (l24 : List Int) (z25 : Bool) (l26 : List Int) (z27 : Bool) (l28 : List Int) (x29 : Int) : St := ⟨fill 93 [(3, (.ptr 4 (0) (0))), (6, (.ptr 9 (0) (0))), (7, (.sl 10 none)), (8, (.ptr 15 (0) (0))), (9, (.int .i64 (x0)))], [], [(.arr false (z1) (.r3 (l2))), (.arr false (z3) (.ints .i64 (l4))), (.arr false (z5) (.ints .i64 (l6))), (.arr false (z7) (.ints .i64 (l8))), (.box true [(.int .i64 (x9)), (.sl 0 none), (.sl 1 none), (.sl 2 none), (.sl 3 none)]), (.arr true (z10) (.r3 (l11))), (.arr true (z12) (.ints .i64 (l13))), (.arr true (z14) (.ints .i64 (l15))), (.arr true (z16) (.ints .i64 (l17))), (.box true [(.int .i64 (x18)), (.sl 5 none), (.sl 6 none), (.sl 7 none), (.sl 8 none)]), (.arr true (z19) (.ints .i64 (l20))), (.arr true (z21) (.r3 (l22))), (.arr true (z23) (.ints .i64 (l24))), (.arr true (z25) (.ints .i64 (l26))), (.arr true (z27) (.ints .i64 (l28))), (.box true [(.int .i64 (x29)), (.sl 11 none), (.sl 12 none), (.sl 13 none), (.sl 14 none)])]⟩
theorem qij (k : Nat) (a0 : Int) (a1z : Bool) (a1 : List (Int × Int × Int)) (a2z : Bool) (a2 : List Int) (a3z : Bool) (a3 : List Int) (a4z : Bool) (a4 : List Int) (b c : Int) : go (k + 1) spec_l17Adapt [(.agg [(.int .i64 (a0)), (.arr false (a1z) (.r3 (a1))), (.arr false (a2z) (.ints .i64 (a2))), (.arr false (a3z) (.ints .i64 (a3))), (.arr false (a4z) (.ints .i64 (a4)))]), (.int .i64 (b)), (.int .i64 (c))] =
 (go k spec_l16Wishes [(.agg [(.int .i64 (a0)), (.arr false (a1z) (.r3 (a1))), (.arr false (a2z) (.ints .i64 (a2))), (.arr false (a3z) (.ints .i64 (a3))), (.arr false (a4z) (.ints .i64 (a4)))]), (.int .i64 (b)), (.int .i64 (c))]).bind fun r0 =>
 (go k spec_l07Copy [(.agg [(.int .i64 (a0)), (.arr false (a1z) (.r3 (a1))), (.arr false (a2z) (.ints .i64 (a2))), (.arr false (a3z) (.ints .i64 (a3))), (.arr false (a4z) (.ints .i64 (a4)))])]).bind fun r1 =>
 lp k spec_l17Adapt [] [] 4 k (qph (IntKind.wrap .i64 (nI (List.length (D.ints (nth r0 0))) - (1 : Int))) a1z a1 a2z a2 a3z a3 a4z a4 a0 true ([]) true ([]) true ([]) true ([]) (0 : Int) (D.nil (nth r0 0)) (D.ints (nth r0 0)) (D.nil (D.cell 1 (nth r1 0))) (D.r3 (D.cell 1 (nth r1 0))) (D.nil (D.cell 2 (nth r1 0))) (D.ints (D.cell 2 (nth r1 0))) (D.nil (D.cell 3 (nth r1 0))) (D.ints (D.cell 3 (nth r1 0))) (D.nil (D.cell 4 (nth r1 0))) (D.ints (D.cell 4 (nth r1 0))) (D.toInt (D.cell 0 (nth r1 0)))) := by kernel_rfl
theorem qkz (k n : Nat) (fu : List (Nat × Nat)) (x0 : Int) (z1 : Bool) (l2 : List (Int × Int × Int)) (z3 : Bool) (l4 : List Int) (z5 : Bool) (l6 : List Int) (z7 : Bool) (l8 : List Int) (x9 : Int) (z10 : Bool) (l11 : List (Int × Int × Int)) (z12 : Bool) (l13 : List Int) (z14 : Bool) (l15 : List Int) (z16 : Bool) (l17 : List Int) (x18 : Int) (z19 : Bool) (l20 : List Int) (z21 : Bool) (l22 : List (Int × Int × Int)) (z23 : Bool) (l24 : List Int) (z25 : Bool) (l26 : List Int) (z27 : Bool) (l28 : List Int) (x29 : Int) : lp k spec_l17Adapt [] fu 10 (n + 1) (qpg x0 z1 l2 z3 l4 z5 l6 z7 l8 x9 z10 l11 z12 l13 z14 l15 z16 l17 x18 z19 l20 z21 l22 z23 l24 z25 l26 z27 l28 x29) =
 cond (decide (IntKind.wrap .i64 (x0 + (1 : Int)) < nI (List.length l24)))
 (cond (decide ((0 : Int) ≤ x0) && decide (x0 < nI (List.length l22)))
 ((go k spec_LeafOf [(.agg [(.int .i64 (x9)), (.arr false (z1) (.r3 (l2)))]), (.agg [(.int .i64 (Prod.fst (List.getD l22 (Int.toNat x0) zz3))), (.int .i64 (Prod.fst (Prod.snd (List.getD l22 (Int.toNat x0) zz3)))), (.int .i64 (Prod.snd (Prod.snd (List.getD l22 (Int.toNat x0) zz3))))])]).bind fun r0 =>
 cond (decide ((0 : Int) ≤ IntKind.wrap .i64 (x0 + (1 : Int))) && decide (IntKind.wrap .i64 (x0 + (1 : Int)) < nI (List.length l22)))
 ((go k spec_LeafOf [(.agg [(.int .i64 (x9)), (.arr false (z1) (.r3 (l2)))]), (.agg [(.int .i64 (Prod.fst (List.getD l22 (Int.toNat (IntKind.wrap .i64 (x0 + (1 : Int)))) zz3))), (.int .i64 (Prod.fst (Prod.snd (List.getD l22 (Int.toNat (IntKind.wrap .i64 (x0 + (1 : Int)))) zz3)))), (.int .i64 (Prod.snd (Prod.snd (List.getD l22 (Int.toNat (IntKind.wrap .i64 (x0 + (1 : Int)))) zz3))))])]).bind fun r1 =>
 cond (decide ((0 : Int) ≤ D.toInt (nth r0 0)))
 (cond (decide ((0 : Int) ≤ D.toInt (nth r1 0)))
 (cond (decide ((0 : Int) ≤ D.toInt (nth r0 0)) && decide (D.toInt (nth r0 0) < nI (List.length l20)))
 (cond (decide (List.getD l20 (Int.toNat (D.toInt (nth r0 0))) (0 : Int) = (-1 : Int)))
 (cond (decide ((0 : Int) ≤ D.toInt (nth r1 0)) && decide (D.toInt (nth r1 0) < nI (List.length l20)))
 (cond (decide (List.getD l20 (Int.toNat (D.toInt (nth r1 0))) (0 : Int) = (-1 : Int)))
 ((go k spec_l06May [(.agg [(.int .i64 (x29)), (.arr false (z21) (.r3 (l22)))]), (.int .i64 (x0))]).bind fun r2 =>
 cond (bit (nth r2 0))
 ((go k spec_l08Merge [(.agg [(.int .i64 (x29)), (.arr false (z21) (.r3 (l22))), (.arr false (z23) (.ints .i64 (l24))), (.arr false (z25) (.ints .i64 (l26))), (.arr false (z27) (.ints .i64 (l28)))]), (.int .i64 (x0))]).bind fun r3 =>
 lp k spec_l17Adapt [] fu 10 n (qpg (IntKind.wrap .i64 (x0 + (1 : Int))) z1 l2 z3 l4 z5 l6 z7 l8 x9 z10 l11 z12 l13 z14 l15 z16 l17 x18 z19 l20 (D.nil (D.cell 1 (nth r3 0))) (D.r3 (D.cell 1 (nth r3 0))) (D.nil (D.cell 2 (nth r3 0))) (D.ints (D.cell 2 (nth r3 0))) (D.nil (D.cell 3 (nth r3 0))) (D.ints (D.cell 3 (nth r3 0))) (D.nil (D.cell 4 (nth r3 0))) (D.ints (D.cell 4 (nth r3 0))) (D.toInt (D.cell 0 (nth r3 0)))))
 (lp k spec_l17Adapt [] fu 10 n (qpg (IntKind.wrap .i64 (x0 + (1 : Int))) z1 l2 z3 l4 z5 l6 z7 l8 x9 z10 l11 z12 l13 z14 l15 z16 l17 x18 z19 l20 z21 l22 z23 l24 z25 l26 z27 l28 x29)))
 (lp k spec_l17Adapt [] fu 10 n (qpg (IntKind.wrap .i64 (x0 + (1 : Int))) z1 l2 z3 l4 z5 l6 z7 l8 x9 z10 l11 z12 l13 z14 l15 z16 l17 x18 z19 l20 z21 l22 z23 l24 z25 l26 z27 l28 x29)))
 (none))
 (lp k spec_l17Adapt [] fu 10 n (qpg (IntKind.wrap .i64 (x0 + (1 : Int))) z1 l2 z3 l4 z5 l6 z7 l8 x9 z10 l11 z12 l13 z14 l15 z16 l17 x18 z19 l20 z21 l22 z23 l24 z25 l26 z27 l28 x29)))
 (none))
 (lp k spec_l17Adapt [] fu 10 n (qpg (IntKind.wrap .i64 (x0 + (1 : Int))) z1 l2 z3 l4 z5 l6 z7 l8 x9 z10 l11 z12 l13 z14 l15 z16 l17 x18 z19 l20 z21 l22 z23 l24 z25 l26 z27 l28 x29)))
 (lp k spec_l17Adapt [] fu 10 n (qpg (IntKind.wrap .i64 (x0 + (1 : Int))) z1 l2 z3 l4 z5 l6 z7 l8 x9 z10 l11 z12 l13 z14 l15 z16 l17 x18 z19 l20 z21 l22 z23 l24 z25 l26 z27 l28 x29)))
 (none))
 (none))
 (some [(.agg [(.int .i64 (x29)), (.arr true (z21) (.r3 (l22))), (.arr true (z23) (.ints .i64 (l24))), (.arr true (z25) (.ints .i64 (l26))), (.arr true (z27) (.ints .i64 (l28)))])]) := by kernel_rfl
theorem qk0 (k n : Nat) (fu : List (Nat × Nat)) (x0 : Int) (z1 : Bool) (l2 : List (Int × Int × Int)) (z3 : Bool) (l4 : List Int) (z5 : Bool) (l6 : List Int) (z7 : Bool) (l8 : List Int) (x9 : Int) (z10 : Bool) (l11 : List (Int × Int × Int)) (z12 : Bool) (l13 : List Int) (z14 : Bool) (l15 : List Int) (z16 : Bool) (l17 : List Int) (x18 : Int) (z19 : Bool) (l20 : List Int) (z21 : Bool) (l22 : List (Int × Int × Int)) (z23 : Bool) (l24 : List Int) (z25 : Bool) (l26 : List Int) (z27 : Bool) (l28 : List Int) (x29 : Int) : lp k spec_l17Adapt [] fu 4 (n + 1) (qph x0 z1 l2 z3 l4 z5 l6 z7 l8 x9 z10 l11 z12 l13 z14 l15 z16 l17 x18 z19 l20 z21 l22 z23 l24 z25 l26 z27 l28 x29) =
 cond (decide ((0 : Int) ≤ x0))
 (cond (decide ((0 : Int) ≤ x0) && decide (x0 < nI (List.length l20)))
 (cond (decide (List.getD l20 (Int.toNat x0) (0 : Int) = (1 : Int)))
 ((go k spec_l08Split [(.agg [(.int .i64 (x29)), (.arr false (z21) (.r3 (l22))), (.arr false (z23) (.ints .i64 (l24))), (.arr false (z25) (.ints .i64 (l26))), (.arr false (z27) (.ints .i64 (l28)))]), (.int .i64 (x0))]).bind fun r0 =>
 lp k spec_l17Adapt [] fu 4 n (qph (IntKind.wrap .i64 (x0 - (1 : Int))) z1 l2 z3 l4 z5 l6 z7 l8 x9 z10 l11 z12 l13 z14 l15 z16 l17 x18 z19 l20 (D.nil (D.cell 1 (nth r0 0))) (D.r3 (D.cell 1 (nth r0 0))) (D.nil (D.cell 2 (nth r0 0))) (D.ints (D.cell 2 (nth r0 0))) (D.nil (D.cell 3 (nth r0 0))) (D.ints (D.cell 3 (nth r0 0))) (D.nil (D.cell 4 (nth r0 0))) (D.ints (D.cell 4 (nth r0 0))) (D.toInt (D.cell 0 (nth r0 0)))))
 (lp k spec_l17Adapt [] fu 4 n (qph (IntKind.wrap .i64 (x0 - (1 : Int))) z1 l2 z3 l4 z5 l6 z7 l8 x9 z10 l11 z12 l13 z14 l15 z16 l17 x18 z19 l20 z21 l22 z23 l24 z25 l26 z27 l28 x29)))
 (none))
 ((go k spec_l08Level [(.agg [(.int .i64 (x29)), (.arr true (z21) (.r3 (l22))), (.arr true (z23) (.ints .i64 (l24))), (.arr true (z25) (.ints .i64 (l26))), (.arr true (z27) (.ints .i64 (l28)))])]).bind fun r1 =>
 lp k spec_l17Adapt [] fu 10 k (qpg (0 : Int) z1 l2 z3 l4 z5 l6 z7 l8 x9 z10 l11 z12 l13 z14 l15 z16 l17 x18 z19 l20 (D.nil (D.cell 1 (nth r1 0))) (D.r3 (D.cell 1 (nth r1 0))) (D.nil (D.cell 2 (nth r1 0))) (D.ints (D.cell 2 (nth r1 0))) (D.nil (D.cell 3 (nth r1 0))) (D.ints (D.cell 3 (nth r1 0))) (D.nil (D.cell 4 (nth r1 0))) (D.ints (D.cell 4 (nth r1 0))) (D.toInt (D.cell 0 (nth r1 0))))) := by kernel_rfl
def qpf (x0 x1 x2 : Int) (z3 : Bool) (l4 : List (Int × Int × Int)) (z5 : Bool) (l6 : List Int) (z7 : Bool) (l8 : List Int) (z9 : Bool) (l10 : List Int) (x11 : Int) (z12 : Bool) (l13 : List Int) : St := ⟨fill 53 [(1, (.int .i64 (x0))), (2, (.int .i64 (x1))), (3, (.ptr 4 (0) (0))), (7, (.sl 5 none)), (8, (.int .i64 (x2)))], [], [(.arr false (z3) (.r3 (l4))), (.arr false (z5) (.ints .i64 (l6))), (.arr false (z7) (.ints .i64 (l8))), (.arr false (z9) (.ints .i64 (l10))), (.box true [(.int .i64 (x11)), (.sl 0 none), (.sl 1 none), (.sl 2 none), (.sl 3 none)]), (.arr true (z12) (.ints .i64 (l13)))]⟩
theorem qii (k : Nat) (a0 : Int) (a1z : Bool) (a1 : List (Int × Int × Int)) (a2z : Bool) (a2 : List Int) (a3z : Bool) (a3 : List Int) (a4z : Bool) (a4 : List Int) (b c : Int) : go (k + 1) spec_l16Wishes [(.agg [(.int .i64 (a0)), (.arr false (a1z) (.r3 (a1))), (.arr false (a2z) (.ints .i64 (a2))), (.arr false (a3z) (.ints .i64 (a3))), (.arr false (a4z) (.ints .i64 (a4)))]), (.int .i64 (b)), (.int .i64 (c))] =
 lp k spec_l16Wishes [] [] 3 k (qpf b c (0 : Int) a1z a1 a2z a2 a3z a3 a4z a4 a0 false ([])) := by kernel_rfl
theorem qky (k n : Nat) (fu : List (Nat × Nat)) (x0 x1 x2 : Int) (z3 : Bool) (l4 : List (Int × Int × Int)) (z5 : Bool) (l6 : List Int) (z7 : Bool) (l8 : List Int) (z9 : Bool) (l10 : List Int) (x11 : Int) (z12 : Bool) (l13 : List Int) : lp k spec_l16Wishes [] fu 3 (n + 1) (qpf x0 x1 x2 z3 l4 z5 l6 z7 l8 z9 l10 x11 z12 l13) =
 cond (decide (x2 < nI (List.length l6)))
 ((go k spec_l16Jump [(.agg [(.int .i64 (x11)), (.arr false (z3) (.r3 (l4))), (.arr false (z5) (.ints .i64 (l6))), (.arr false (z7) (.ints .i64 (l8))), (.arr false (z9) (.ints .i64 (l10)))]), (.int .i64 (x2))]).bind fun r0 =>
 cond (decide (x0 < D.toInt (nth r0 0)))
 (cond (decide ((0 : Int) ≤ x2) && decide (x2 < nI (List.length l4)))
 (cond (decide (Prod.fst (Prod.snd (List.getD l4 (Int.toNat x2) zz3)) < (4 : Int)))
 (cond (decide (List.length (l13 ++ [(1 : Int)]) ≤ bigLen))
 (lp k spec_l16Wishes [] fu 3 n (qpf x0 x1 (IntKind.wrap .i64 (x2 + (1 : Int))) z3 l4 z5 l6 z7 l8 z9 l10 x11 (z12 && decide (List.length (l13 ++ [(1 : Int)]) = 0)) (l13 ++ [(1 : Int)])))
 (none))
 (cond (decide (D.toInt (nth r0 0) < x1))
 (cond (decide ((0 : Int) ≤ x2) && decide (x2 < nI (List.length l4)))
 (cond (decide ((0 : Int) < Prod.fst (Prod.snd (List.getD l4 (Int.toNat x2) zz3))))
 (cond (decide (List.length (l13 ++ [(-1 : Int)]) ≤ bigLen))
 (lp k spec_l16Wishes [] fu 3 n (qpf x0 x1 (IntKind.wrap .i64 (x2 + (1 : Int))) z3 l4 z5 l6 z7 l8 z9 l10 x11 (z12 && decide (List.length (l13 ++ [(-1 : Int)]) = 0)) (l13 ++ [(-1 : Int)])))
 (none))
 (cond (decide (List.length (l13 ++ [(0 : Int)]) ≤ bigLen))
 (lp k spec_l16Wishes [] fu 3 n (qpf x0 x1 (IntKind.wrap .i64 (x2 + (1 : Int))) z3 l4 z5 l6 z7 l8 z9 l10 x11 (z12 && decide (List.length (l13 ++ [(0 : Int)]) = 0)) (l13 ++ [(0 : Int)])))
 (none)))
 (none))
 (cond (decide (List.length (l13 ++ [(0 : Int)]) ≤ bigLen))
 (lp k spec_l16Wishes [] fu 3 n (qpf x0 x1 (IntKind.wrap .i64 (x2 + (1 : Int))) z3 l4 z5 l6 z7 l8 z9 l10 x11 (z12 && decide (List.length (l13 ++ [(0 : Int)]) = 0)) (l13 ++ [(0 : Int)])))
 (none))))
 (none))
 (cond (decide (D.toInt (nth r0 0) < x1))
 (cond (decide ((0 : Int) ≤ x2) && decide (x2 < nI (List.length l4)))
 (cond (decide ((0 : Int) < Prod.fst (Prod.snd (List.getD l4 (Int.toNat x2) zz3))))
 (cond (decide (List.length (l13 ++ [(-1 : Int)]) ≤ bigLen))
 (lp k spec_l16Wishes [] fu 3 n (qpf x0 x1 (IntKind.wrap .i64 (x2 + (1 : Int))) z3 l4 z5 l6 z7 l8 z9 l10 x11 (z12 && decide (List.length (l13 ++ [(-1 : Int)]) = 0)) (l13 ++ [(-1 : Int)])))
 (none))
 (cond (decide (List.length (l13 ++ [(0 : Int)]) ≤ bigLen))
 (lp k spec_l16Wishes [] fu 3 n (qpf x0 x1 (IntKind.wrap .i64 (x2 + (1 : Int))) z3 l4 z5 l6 z7 l8 z9 l10 x11 (z12 && decide (List.length (l13 ++ [(0 : Int)]) = 0)) (l13 ++ [(0 : Int)])))
 (none)))
 (none))
 (cond (decide (List.length (l13 ++ [(0 : Int)]) ≤ bigLen))
 (lp k spec_l16Wishes [] fu 3 n (qpf x0 x1 (IntKind.wrap .i64 (x2 + (1 : Int))) z3 l4 z5 l6 z7 l8 z9 l10 x11 (z12 && decide (List.length (l13 ++ [(0 : Int)]) = 0)) (l13 ++ [(0 : Int)])))
 (none))))
 (some [(.arr true (z12) (.ints .i64 (l13)))]) := by kernel_rfl
theorem qih (k : Nat) (a0 : Int) (a1z : Bool) (a1 : List (Int × Int × Int)) (a2z : Bool) (a2 : List Int) (a3z : Bool) (a3 : List Int) (a4z : Bool) (a4 : List Int) (b : Int) : go (k + 1) spec_l16Jump [(.agg [(.int .i64 (a0)), (.arr false (a1z) (.r3 (a1))), (.arr false (a2z) (.ints .i64 (a2))), (.arr false (a3z) (.ints .i64 (a3))), (.arr false (a4z) (.ints .i64 (a4)))]), (.int .i64 (b))] =
 cond (decide ((0 : Int) < b))
 ((go k spec_l09Surface [(.agg [(.int .i64 (a0)), (.arr false (a1z) (.r3 (a1))), (.arr false (a2z) (.ints .i64 (a2))), (.arr false (a3z) (.ints .i64 (a3))), (.arr false (a4z) (.ints .i64 (a4)))]), (.int .i64 (b))]).bind fun r0 =>
 (go k spec_l09Surface [(.agg [(.int .i64 (a0)), (.arr false (a1z) (.r3 (a1))), (.arr false (a2z) (.ints .i64 (a2))), (.arr false (a3z) (.ints .i64 (a3))), (.arr false (a4z) (.ints .i64 (a4)))]), (.int .i64 (IntKind.wrap .i64 (b - (1 : Int))))]).bind fun r1 =>
 (go k spec_l09Gap [(.int .i64 (D.toInt (nth r0 0))), (.int .i64 (D.toInt (nth r1 0)))]).bind fun r2 =>
 cond (decide (IntKind.wrap .i64 (b + (1 : Int)) < nI (List.length a2)))
 ((go k spec_l09Surface [(.agg [(.int .i64 (a0)), (.arr false (a1z) (.r3 (a1))), (.arr false (a2z) (.ints .i64 (a2))), (.arr false (a3z) (.ints .i64 (a3))), (.arr false (a4z) (.ints .i64 (a4)))]), (.int .i64 (b))]).bind fun r3 =>
 (go k spec_l09Surface [(.agg [(.int .i64 (a0)), (.arr false (a1z) (.r3 (a1))), (.arr false (a2z) (.ints .i64 (a2))), (.arr false (a3z) (.ints .i64 (a3))), (.arr false (a4z) (.ints .i64 (a4)))]), (.int .i64 (IntKind.wrap .i64 (b + (1 : Int))))]).bind fun r4 =>
 (go k spec_l09Gap [(.int .i64 (D.toInt (nth r3 0))), (.int .i64 (D.toInt (nth r4 0)))]).bind fun r5 =>
 some [(.int .i64 (if D.toInt (nth r5 0) > D.toInt (nth r2 0) then D.toInt (nth r5 0) else D.toInt (nth r2 0)))])
 (some [(.int .i64 (D.toInt (nth r2 0)))]))
 (cond (decide (IntKind.wrap .i64 (b + (1 : Int)) < nI (List.length a2)))
 ((go k spec_l09Surface [(.agg [(.int .i64 (a0)), (.arr false (a1z) (.r3 (a1))), (.arr false (a2z) (.ints .i64 (a2))), (.arr false (a3z) (.ints .i64 (a3))), (.arr false (a4z) (.ints .i64 (a4)))]), (.int .i64 (b))]).bind fun r6 =>
 (go k spec_l09Surface [(.agg [(.int .i64 (a0)), (.arr false (a1z) (.r3 (a1))), (.arr false (a2z) (.ints .i64 (a2))), (.arr false (a3z) (.ints .i64 (a3))), (.arr false (a4z) (.ints .i64 (a4)))]), (.int .i64 (IntKind.wrap .i64 (b + (1 : Int))))]).bind fun r7 =>
 (go k spec_l09Gap [(.int .i64 (D.toInt (nth r6 0))), (.int .i64 (D.toInt (nth r7 0)))]).bind fun r8 =>
 some [(.int .i64 (if D.toInt (nth r8 0) > (0 : Int) then D.toInt (nth r8 0) else (0 : Int)))])
 (some [(.int .i64 (0 : Int))])) := by kernel_rfl
def qoz (x0 : Int) (z1 : Bool) (l2 : List (Int × Int × Int)) (x3 x4 x5 x6 : Int) : St := ⟨fill 21 [(2, (.ptr 1 (0) (0))), (3, (.ptr 2 (0) (0))), (5, (.int .i64 (x0)))], [], [(.arr false (z1) (.r3 (l2))), (.box true [(.int .i64 (x3)), (.sl 0 none)]), (.box true [(.int .i64 (x4)), (.int .i64 (x5)), (.int .i64 (x6))])]⟩
theorem qg6 (k : Nat) (a0 : Int) (a1z : Bool) (a1 : List (Int × Int × Int)) (b0 b1 b2 : Int) : go (k + 1) spec_LeafOf [(.agg [(.int .i64 (a0)), (.arr false (a1z) (.r3 (a1)))]), (.agg [(.int .i64 (b0)), (.int .i64 (b1)), (.int .i64 (b2))])] =
 lp k spec_LeafOf [] [] 2 k (qoz (0 : Int) a1z a1 a0 b0 b1 b2) := by kernel_rfl
theorem qki (k n : Nat) (fu : List (Nat × Nat)) (x0 : Int) (z1 : Bool) (l2 : List (Int × Int × Int)) (x3 x4 x5 x6 : Int) : lp k spec_LeafOf [] fu 2 (n + 1) (qoz x0 z1 l2 x3 x4 x5 x6) =
 cond (decide (x0 < nI (List.length l2)))
 (cond (decide ((0 : Int) ≤ x0) && decide (x0 < nI (List.length l2)))
 (cond (decide (Prod.fst (List.getD l2 (Int.toNat x0) zz3) = x4) && (decide (Prod.fst (Prod.snd (List.getD l2 (Int.toNat x0) zz3)) = x5) && (decide (Prod.snd (Prod.snd (List.getD l2 (Int.toNat x0) zz3)) = x6) && true)))
 (some [(.int .i64 (x0))])
 (lp k spec_LeafOf [] fu 2 n (qoz (IntKind.wrap .i64 (x0 + (1 : Int))) z1 l2 x3 x4 x5 x6)))
 (none))
 (some [(.int .i64 ((-1 : Int)))]) := by kernel_rfl

end Go.Proofs.YtjfjniebmdafeaaGreatDoor
end
section
namespace Go.Proofs.YtjfjniebmdafeaaGreatDoor
open Go.Ev
theorem qhd (k : Nat) (a : Int) : go (k + 1) spec_SplitEven [(.int .i64 (a))] =
 cond (decide (a < (0 : Int)))
 (some [(.int .i64 (0 : Int)), (.int .i64 (0 : Int))])
 (some [(.int .i64 (IntKind.wrap .i64 (a - IntKind.wrap .i64 (Int.tdiv a (2 : Int))))), (.int .i64 (IntKind.wrap .i64 (Int.tdiv a (2 : Int))))]) := by kernel_rfl
theorem qh5 (k : Nat) (a0 : Int) (a1z : Bool) (a1 : List (Int × Int × Int)) (a2z : Bool) (a2 : List Int) (a3z : Bool) (a3 : List Int) (a4z : Bool) (a4 : List Int) (b : Int) : go (k + 1) spec_l08Split [(.agg [(.int .i64 (a0)), (.arr false (a1z) (.r3 (a1))), (.arr false (a2z) (.ints .i64 (a2))), (.arr false (a3z) (.ints .i64 (a3))), (.arr false (a4z) (.ints .i64 (a4)))]), (.int .i64 (b))] =
 cond (decide ((0 : Int) ≤ b) && decide (b < nI (List.length a2)))
 ((go k spec_SplitEven [(.int .i64 (List.getD a2 (Int.toNat b) (0 : Int)))]).bind fun r0 =>
 cond (decide ((0 : Int) ≤ b) && decide (b < nI (List.length a3)))
 (cond (decide ((0 : Int) ≤ b) && decide (b < nI (List.length a2)))
 ((go k spec_ShareOut [(.int .i64 (List.getD a3 (Int.toNat b) (0 : Int))), (.int .i64 (D.toInt (nth r0 0))), (.int .i64 (List.getD a2 (Int.toNat b) (0 : Int)))]).bind fun r1 =>
 cond (decide ((0 : Int) ≤ (0 : Int)) && decide ((0 : Int) ≤ b) && decide (b ≤ nI (List.length a2)))
 (cond (decide (List.length ([] ++ List.take (Int.toNat b - Int.toNat (0 : Int)) (List.drop (0 + Int.toNat (0 : Int)) a2)) ≤ bigLen))
 (cond (decide (List.length ([] ++ List.take (Int.toNat b - Int.toNat (0 : Int)) (List.drop (0 + Int.toNat (0 : Int)) a2) ++ [D.toInt (nth r0 0), D.toInt (nth r0 1)]) ≤ bigLen))
 (cond (decide ((0 : Int) ≤ (0 : Int)) && decide ((0 : Int) ≤ b) && decide (b ≤ nI (List.length a3)))
 (cond (decide (List.length ([] ++ List.take (Int.toNat b - Int.toNat (0 : Int)) (List.drop (0 + Int.toNat (0 : Int)) a3)) ≤ bigLen))
 (cond (decide ((0 : Int) ≤ b) && decide (b < nI (List.length a3)))
 (cond (decide (List.length ([] ++ List.take (Int.toNat b - Int.toNat (0 : Int)) (List.drop (0 + Int.toNat (0 : Int)) a3) ++ [D.toInt (nth r1 0), IntKind.wrap .i64 (List.getD a3 (Int.toNat b) (0 : Int) - D.toInt (nth r1 0))]) ≤ bigLen))
 ((go k spec_l05Split [(.agg [(.int .i64 (a0)), (.arr false (a1z) (.r3 (a1)))]), (.int .i64 (b))]).bind fun r2 =>
 cond (decide ((0 : Int) ≤ IntKind.wrap .i64 (b + (1 : Int))) && decide (IntKind.wrap .i64 (b + (1 : Int)) ≤ nI (List.length a2)) && decide (nI (List.length a2) ≤ nI (List.length a2)))
 (cond (decide (List.length ([] ++ List.take (Int.toNat b - Int.toNat (0 : Int)) (List.drop (0 + Int.toNat (0 : Int)) a2) ++ [D.toInt (nth r0 0), D.toInt (nth r0 1)] ++ List.take (Int.toNat (nI (List.length a2)) - Int.toNat (IntKind.wrap .i64 (b + (1 : Int)))) (List.drop (0 + Int.toNat (IntKind.wrap .i64 (b + (1 : Int)))) a2)) ≤ bigLen))
 (cond (decide ((0 : Int) ≤ IntKind.wrap .i64 (b + (1 : Int))) && decide (IntKind.wrap .i64 (b + (1 : Int)) ≤ nI (List.length a3)) && decide (nI (List.length a3) ≤ nI (List.length a3)))
 (cond (decide (List.length ([] ++ List.take (Int.toNat b - Int.toNat (0 : Int)) (List.drop (0 + Int.toNat (0 : Int)) a3) ++ [D.toInt (nth r1 0), IntKind.wrap .i64 (List.getD a3 (Int.toNat b) (0 : Int) - D.toInt (nth r1 0))] ++ List.take (Int.toNat (nI (List.length a3)) - Int.toNat (IntKind.wrap .i64 (b + (1 : Int)))) (List.drop (0 + Int.toNat (IntKind.wrap .i64 (b + (1 : Int)))) a3)) ≤ bigLen))
 (cond (decide (List.length ([] ++ a4) ≤ bigLen))
 (some [(.agg [(.int .i64 (D.toInt (D.cell 0 (nth r2 0)))), (.arr true (D.nil (D.cell 1 (nth r2 0))) (.r3 (D.r3 (D.cell 1 (nth r2 0))))), (.arr true (false && decide (List.length ([] ++ List.take (Int.toNat b - Int.toNat (0 : Int)) (List.drop (0 + Int.toNat (0 : Int)) a2)) = 0) && decide (List.length ([] ++ List.take (Int.toNat b - Int.toNat (0 : Int)) (List.drop (0 + Int.toNat (0 : Int)) a2) ++ [D.toInt (nth r0 0), D.toInt (nth r0 1)]) = 0) && decide (List.length ([] ++ List.take (Int.toNat b - Int.toNat (0 : Int)) (List.drop (0 + Int.toNat (0 : Int)) a2) ++ [D.toInt (nth r0 0), D.toInt (nth r0 1)] ++ List.take (Int.toNat (nI (List.length a2)) - Int.toNat (IntKind.wrap .i64 (b + (1 : Int)))) (List.drop (0 + Int.toNat (IntKind.wrap .i64 (b + (1 : Int)))) a2)) = 0)) (.ints .i64 ([] ++ List.take (Int.toNat b - Int.toNat (0 : Int)) (List.drop (0 + Int.toNat (0 : Int)) a2) ++ [D.toInt (nth r0 0), D.toInt (nth r0 1)] ++ List.take (Int.toNat (nI (List.length a2)) - Int.toNat (IntKind.wrap .i64 (b + (1 : Int)))) (List.drop (0 + Int.toNat (IntKind.wrap .i64 (b + (1 : Int)))) a2)))), (.arr true (false && decide (List.length ([] ++ List.take (Int.toNat b - Int.toNat (0 : Int)) (List.drop (0 + Int.toNat (0 : Int)) a3)) = 0) && decide (List.length ([] ++ List.take (Int.toNat b - Int.toNat (0 : Int)) (List.drop (0 + Int.toNat (0 : Int)) a3) ++ [D.toInt (nth r1 0), IntKind.wrap .i64 (List.getD a3 (Int.toNat b) (0 : Int) - D.toInt (nth r1 0))]) = 0) && decide (List.length ([] ++ List.take (Int.toNat b - Int.toNat (0 : Int)) (List.drop (0 + Int.toNat (0 : Int)) a3) ++ [D.toInt (nth r1 0), IntKind.wrap .i64 (List.getD a3 (Int.toNat b) (0 : Int) - D.toInt (nth r1 0))] ++ List.take (Int.toNat (nI (List.length a3)) - Int.toNat (IntKind.wrap .i64 (b + (1 : Int)))) (List.drop (0 + Int.toNat (IntKind.wrap .i64 (b + (1 : Int)))) a3)) = 0)) (.ints .i64 ([] ++ List.take (Int.toNat b - Int.toNat (0 : Int)) (List.drop (0 + Int.toNat (0 : Int)) a3) ++ [D.toInt (nth r1 0), IntKind.wrap .i64 (List.getD a3 (Int.toNat b) (0 : Int) - D.toInt (nth r1 0))] ++ List.take (Int.toNat (nI (List.length a3)) - Int.toNat (IntKind.wrap .i64 (b + (1 : Int)))) (List.drop (0 + Int.toNat (IntKind.wrap .i64 (b + (1 : Int)))) a3)))), (.arr true (false && decide (List.length ([] ++ a4) = 0)) (.ints .i64 ([] ++ a4)))])])
 (none))
 (none))
 (none))
 (none))
 (none))
 (none))
 (none))
 (none))
 (none))
 (none))
 (none))
 (none))
 (none))
 (none))
 (none) := by kernel_rfl
theorem qh4 (k : Nat) (a0 : Int) (a1z : Bool) (a1 : List (Int × Int × Int)) (a2z : Bool) (a2 : List Int) (a3z : Bool) (a3 : List Int) (a4z : Bool) (a4 : List Int) (b : Int) : go (k + 1) spec_l08Merge [(.agg [(.int .i64 (a0)), (.arr false (a1z) (.r3 (a1))), (.arr false (a2z) (.ints .i64 (a2))), (.arr false (a3z) (.ints .i64 (a3))), (.arr false (a4z) (.ints .i64 (a4)))]), (.int .i64 (b))] =
 cond (decide ((0 : Int) ≤ (0 : Int)) && decide ((0 : Int) ≤ b) && decide (b ≤ nI (List.length a2)))
 (cond (decide (List.length ([] ++ List.take (Int.toNat b - Int.toNat (0 : Int)) (List.drop (0 + Int.toNat (0 : Int)) a2)) ≤ bigLen))
 (cond (decide ((0 : Int) ≤ b) && decide (b < nI (List.length a2)))
 (cond (decide ((0 : Int) ≤ IntKind.wrap .i64 (b + (1 : Int))) && decide (IntKind.wrap .i64 (b + (1 : Int)) < nI (List.length a2)))
 (cond (decide (List.length ([] ++ List.take (Int.toNat b - Int.toNat (0 : Int)) (List.drop (0 + Int.toNat (0 : Int)) a2) ++ [IntKind.wrap .i64 (List.getD a2 (Int.toNat b) (0 : Int) + List.getD a2 (Int.toNat (IntKind.wrap .i64 (b + (1 : Int)))) (0 : Int))]) ≤ bigLen))
 (cond (decide ((0 : Int) ≤ (0 : Int)) && decide ((0 : Int) ≤ b) && decide (b ≤ nI (List.length a3)))
 (cond (decide (List.length ([] ++ List.take (Int.toNat b - Int.toNat (0 : Int)) (List.drop (0 + Int.toNat (0 : Int)) a3)) ≤ bigLen))
 (cond (decide ((0 : Int) ≤ b) && decide (b < nI (List.length a3)))
 (cond (decide ((0 : Int) ≤ IntKind.wrap .i64 (b + (1 : Int))) && decide (IntKind.wrap .i64 (b + (1 : Int)) < nI (List.length a3)))
 (cond (decide (List.length ([] ++ List.take (Int.toNat b - Int.toNat (0 : Int)) (List.drop (0 + Int.toNat (0 : Int)) a3) ++ [IntKind.wrap .i64 (List.getD a3 (Int.toNat b) (0 : Int) + List.getD a3 (Int.toNat (IntKind.wrap .i64 (b + (1 : Int)))) (0 : Int))]) ≤ bigLen))
 ((go k spec_l06Merge [(.agg [(.int .i64 (a0)), (.arr false (a1z) (.r3 (a1)))]), (.int .i64 (b))]).bind fun r0 =>
 cond (decide ((0 : Int) ≤ IntKind.wrap .i64 (b + (2 : Int))) && decide (IntKind.wrap .i64 (b + (2 : Int)) ≤ nI (List.length a2)) && decide (nI (List.length a2) ≤ nI (List.length a2)))
 (cond (decide (List.length ([] ++ List.take (Int.toNat b - Int.toNat (0 : Int)) (List.drop (0 + Int.toNat (0 : Int)) a2) ++ [IntKind.wrap .i64 (List.getD a2 (Int.toNat b) (0 : Int) + List.getD a2 (Int.toNat (IntKind.wrap .i64 (b + (1 : Int)))) (0 : Int))] ++ List.take (Int.toNat (nI (List.length a2)) - Int.toNat (IntKind.wrap .i64 (b + (2 : Int)))) (List.drop (0 + Int.toNat (IntKind.wrap .i64 (b + (2 : Int)))) a2)) ≤ bigLen))
 (cond (decide ((0 : Int) ≤ IntKind.wrap .i64 (b + (2 : Int))) && decide (IntKind.wrap .i64 (b + (2 : Int)) ≤ nI (List.length a3)) && decide (nI (List.length a3) ≤ nI (List.length a3)))
 (cond (decide (List.length ([] ++ List.take (Int.toNat b - Int.toNat (0 : Int)) (List.drop (0 + Int.toNat (0 : Int)) a3) ++ [IntKind.wrap .i64 (List.getD a3 (Int.toNat b) (0 : Int) + List.getD a3 (Int.toNat (IntKind.wrap .i64 (b + (1 : Int)))) (0 : Int))] ++ List.take (Int.toNat (nI (List.length a3)) - Int.toNat (IntKind.wrap .i64 (b + (2 : Int)))) (List.drop (0 + Int.toNat (IntKind.wrap .i64 (b + (2 : Int)))) a3)) ≤ bigLen))
 (cond (decide (List.length ([] ++ a4) ≤ bigLen))
 (some [(.agg [(.int .i64 (D.toInt (D.cell 0 (nth r0 0)))), (.arr true (D.nil (D.cell 1 (nth r0 0))) (.r3 (D.r3 (D.cell 1 (nth r0 0))))), (.arr true (false && decide (List.length ([] ++ List.take (Int.toNat b - Int.toNat (0 : Int)) (List.drop (0 + Int.toNat (0 : Int)) a2)) = 0) && decide (List.length ([] ++ List.take (Int.toNat b - Int.toNat (0 : Int)) (List.drop (0 + Int.toNat (0 : Int)) a2) ++ [IntKind.wrap .i64 (List.getD a2 (Int.toNat b) (0 : Int) + List.getD a2 (Int.toNat (IntKind.wrap .i64 (b + (1 : Int)))) (0 : Int))]) = 0) && decide (List.length ([] ++ List.take (Int.toNat b - Int.toNat (0 : Int)) (List.drop (0 + Int.toNat (0 : Int)) a2) ++ [IntKind.wrap .i64 (List.getD a2 (Int.toNat b) (0 : Int) + List.getD a2 (Int.toNat (IntKind.wrap .i64 (b + (1 : Int)))) (0 : Int))] ++ List.take (Int.toNat (nI (List.length a2)) - Int.toNat (IntKind.wrap .i64 (b + (2 : Int)))) (List.drop (0 + Int.toNat (IntKind.wrap .i64 (b + (2 : Int)))) a2)) = 0)) (.ints .i64 ([] ++ List.take (Int.toNat b - Int.toNat (0 : Int)) (List.drop (0 + Int.toNat (0 : Int)) a2) ++ [IntKind.wrap .i64 (List.getD a2 (Int.toNat b) (0 : Int) + List.getD a2 (Int.toNat (IntKind.wrap .i64 (b + (1 : Int)))) (0 : Int))] ++ List.take (Int.toNat (nI (List.length a2)) - Int.toNat (IntKind.wrap .i64 (b + (2 : Int)))) (List.drop (0 + Int.toNat (IntKind.wrap .i64 (b + (2 : Int)))) a2)))), (.arr true (false && decide (List.length ([] ++ List.take (Int.toNat b - Int.toNat (0 : Int)) (List.drop (0 + Int.toNat (0 : Int)) a3)) = 0) && decide (List.length ([] ++ List.take (Int.toNat b - Int.toNat (0 : Int)) (List.drop (0 + Int.toNat (0 : Int)) a3) ++ [IntKind.wrap .i64 (List.getD a3 (Int.toNat b) (0 : Int) + List.getD a3 (Int.toNat (IntKind.wrap .i64 (b + (1 : Int)))) (0 : Int))]) = 0) && decide (List.length ([] ++ List.take (Int.toNat b - Int.toNat (0 : Int)) (List.drop (0 + Int.toNat (0 : Int)) a3) ++ [IntKind.wrap .i64 (List.getD a3 (Int.toNat b) (0 : Int) + List.getD a3 (Int.toNat (IntKind.wrap .i64 (b + (1 : Int)))) (0 : Int))] ++ List.take (Int.toNat (nI (List.length a3)) - Int.toNat (IntKind.wrap .i64 (b + (2 : Int)))) (List.drop (0 + Int.toNat (IntKind.wrap .i64 (b + (2 : Int)))) a3)) = 0)) (.ints .i64 ([] ++ List.take (Int.toNat b - Int.toNat (0 : Int)) (List.drop (0 + Int.toNat (0 : Int)) a3) ++ [IntKind.wrap .i64 (List.getD a3 (Int.toNat b) (0 : Int) + List.getD a3 (Int.toNat (IntKind.wrap .i64 (b + (1 : Int)))) (0 : Int))] ++ List.take (Int.toNat (nI (List.length a3)) - Int.toNat (IntKind.wrap .i64 (b + (2 : Int)))) (List.drop (0 + Int.toNat (IntKind.wrap .i64 (b + (2 : Int)))) a3)))), (.arr true (false && decide (List.length ([] ++ a4) = 0)) (.ints .i64 ([] ++ a4)))])])
 (none))
 (none))
 (none))
 (none))
 (none))
 (none))
 (none))
 (none))
 (none))
 (none))
 (none))
 (none))
 (none))
 (none))
 (none) := by kernel_rfl
theorem qhz (k : Nat) (a0 : Int) (a1z : Bool) (a1 : List (Int × Int × Int)) (b : Int) : go (k + 1) spec_l06Merge [(.agg [(.int .i64 (a0)), (.arr false (a1z) (.r3 (a1)))]), (.int .i64 (b))] =
 cond (decide ((0 : Int) ≤ b) && decide (b < nI (List.length a1)))
 ((go k spec_ParentOf [(.agg [(.int .i64 (Prod.fst (List.getD a1 (Int.toNat b) zz3))), (.int .i64 (Prod.fst (Prod.snd (List.getD a1 (Int.toNat b) zz3)))), (.int .i64 (Prod.snd (Prod.snd (List.getD a1 (Int.toNat b) zz3))))])]).bind fun r0 =>
 cond (decide ((0 : Int) ≤ (0 : Int)) && decide ((0 : Int) ≤ b) && decide (b ≤ nI (List.length a1)))
 (cond (decide (List.length ([] ++ List.take (Int.toNat b - Int.toNat (0 : Int)) (List.drop (0 + Int.toNat (0 : Int)) a1)) ≤ bigLen))
 (cond (decide (List.length ([] ++ List.take (Int.toNat b - Int.toNat (0 : Int)) (List.drop (0 + Int.toNat (0 : Int)) a1) ++ [(D.toInt (D.cell 0 (nth r0 0)), D.toInt (D.cell 1 (nth r0 0)), D.toInt (D.cell 2 (nth r0 0)))]) ≤ bigLen))
 (cond (decide ((0 : Int) ≤ IntKind.wrap .i64 (b + (2 : Int))) && decide (IntKind.wrap .i64 (b + (2 : Int)) ≤ nI (List.length a1)) && decide (nI (List.length a1) ≤ nI (List.length a1)))
 (cond (decide (List.length ([] ++ List.take (Int.toNat b - Int.toNat (0 : Int)) (List.drop (0 + Int.toNat (0 : Int)) a1) ++ [(D.toInt (D.cell 0 (nth r0 0)), D.toInt (D.cell 1 (nth r0 0)), D.toInt (D.cell 2 (nth r0 0)))] ++ List.take (Int.toNat (nI (List.length a1)) - Int.toNat (IntKind.wrap .i64 (b + (2 : Int)))) (List.drop (0 + Int.toNat (IntKind.wrap .i64 (b + (2 : Int)))) a1)) ≤ bigLen))
 (some [(.agg [(.int .i64 (a0)), (.arr true (false && decide (List.length ([] ++ List.take (Int.toNat b - Int.toNat (0 : Int)) (List.drop (0 + Int.toNat (0 : Int)) a1)) = 0) && decide (List.length ([] ++ List.take (Int.toNat b - Int.toNat (0 : Int)) (List.drop (0 + Int.toNat (0 : Int)) a1) ++ [(D.toInt (D.cell 0 (nth r0 0)), D.toInt (D.cell 1 (nth r0 0)), D.toInt (D.cell 2 (nth r0 0)))]) = 0) && decide (List.length ([] ++ List.take (Int.toNat b - Int.toNat (0 : Int)) (List.drop (0 + Int.toNat (0 : Int)) a1) ++ [(D.toInt (D.cell 0 (nth r0 0)), D.toInt (D.cell 1 (nth r0 0)), D.toInt (D.cell 2 (nth r0 0)))] ++ List.take (Int.toNat (nI (List.length a1)) - Int.toNat (IntKind.wrap .i64 (b + (2 : Int)))) (List.drop (0 + Int.toNat (IntKind.wrap .i64 (b + (2 : Int)))) a1)) = 0)) (.r3 ([] ++ List.take (Int.toNat b - Int.toNat (0 : Int)) (List.drop (0 + Int.toNat (0 : Int)) a1) ++ [(D.toInt (D.cell 0 (nth r0 0)), D.toInt (D.cell 1 (nth r0 0)), D.toInt (D.cell 2 (nth r0 0)))] ++ List.take (Int.toNat (nI (List.length a1)) - Int.toNat (IntKind.wrap .i64 (b + (2 : Int)))) (List.drop (0 + Int.toNat (IntKind.wrap .i64 (b + (2 : Int)))) a1))))])])
 (none))
 (none))
 (none))
 (none))
 (none))
 (none) := by kernel_rfl
theorem qha (k : Nat) (a0 a1 a2 : Int) : go (k + 1) spec_ParentOf [(.agg [(.int .i64 (a0)), (.int .i64 (a1)), (.int .i64 (a2))])] =
 (go k spec_IdOk [(.agg [(.int .i64 (a0)), (.int .i64 (a1)), (.int .i64 (a2))])]).bind fun r0 =>
 cond (!bit (nth r0 0))
 (some [(.agg [(.int .i64 (0 : Int)), (.int .i64 (0 : Int)), (.int .i64 (0 : Int))]), (.bool (false))])
 (cond (decide (a1 = (0 : Int)))
 (some [(.agg [(.int .i64 (0 : Int)), (.int .i64 (0 : Int)), (.int .i64 (0 : Int))]), (.bool (false))])
 (some [(.agg [(.int .i64 (a0)), (.int .i64 (IntKind.wrap .i64 (a1 - (1 : Int)))), (.int .i64 (IntKind.wrap .i64 (Int.tdiv a2 (2 : Int))))]), (.bool (true))])) := by kernel_rfl
theorem qg4 (k : Nat) (a0 a1 a2 b0 b1 b2 : Int) : go (k + 1) spec_IsSibling [(.agg [(.int .i64 (a0)), (.int .i64 (a1)), (.int .i64 (a2))]), (.agg [(.int .i64 (b0)), (.int .i64 (b1)), (.int .i64 (b2))])] =
 (go k spec_IdOk [(.agg [(.int .i64 (a0)), (.int .i64 (a1)), (.int .i64 (a2))])]).bind fun r0 =>
 cond (bit (nth r0 0))
 ((go k spec_IdOk [(.agg [(.int .i64 (b0)), (.int .i64 (b1)), (.int .i64 (b2))])]).bind fun r1 =>
 cond (bit (nth r1 0))
 (cond (decide (a0 = b0))
 (cond (decide (a1 = b1))
 (cond (decide (Int.tmod a2 (2 : Int) = (0 : Int)))
 (some [(.bool (decide (b2 = IntKind.wrap .i64 (a2 + (1 : Int)))))])
 (some [(.bool (false))]))
 (some [(.bool (false))]))
 (some [(.bool (false))]))
 (some [(.bool (false))]))
 (some [(.bool (false))]) := by kernel_rfl
theorem qhy (k : Nat) (a0 : Int) (a1z : Bool) (a1 : List (Int × Int × Int)) (b : Int) : go (k + 1) spec_l06May [(.agg [(.int .i64 (a0)), (.arr false (a1z) (.r3 (a1)))]), (.int .i64 (b))] =
 cond (decide ((0 : Int) ≤ b) && decide (b < nI (List.length a1)))
 (cond (decide ((0 : Int) ≤ b) && decide (b < nI (List.length a1)))
 (cond (decide ((0 : Int) ≤ IntKind.wrap .i64 (b + (1 : Int))) && decide (IntKind.wrap .i64 (b + (1 : Int)) < nI (List.length a1)))
 ((go k spec_IsSibling [(.agg [(.int .i64 (Prod.fst (List.getD a1 (Int.toNat b) zz3))), (.int .i64 (Prod.fst (Prod.snd (List.getD a1 (Int.toNat b) zz3)))), (.int .i64 (Prod.snd (Prod.snd (List.getD a1 (Int.toNat b) zz3))))]), (.agg [(.int .i64 (Prod.fst (List.getD a1 (Int.toNat (IntKind.wrap .i64 (b + (1 : Int)))) zz3))), (.int .i64 (Prod.fst (Prod.snd (List.getD a1 (Int.toNat (IntKind.wrap .i64 (b + (1 : Int)))) zz3)))), (.int .i64 (Prod.snd (Prod.snd (List.getD a1 (Int.toNat (IntKind.wrap .i64 (b + (1 : Int)))) zz3))))])]).bind fun r0 =>
 cond (!bit (nth r0 0))
 (some [(.bool (false))])
 (cond (decide (b = (0 : Int)))
 (cond (decide (nI (List.length a1) ≤ IntKind.wrap .i64 (b + (2 : Int))))
 (some [(.bool (true))])
 (cond (decide ((0 : Int) ≤ IntKind.wrap .i64 (b + (2 : Int))) && decide (IntKind.wrap .i64 (b + (2 : Int)) < nI (List.length a1)))
 (some [(.bool (decide (Prod.fst (Prod.snd (List.getD a1 (Int.toNat (IntKind.wrap .i64 (b + (2 : Int)))) zz3)) ≤ Prod.fst (Prod.snd (List.getD a1 (Int.toNat b) zz3)))))])
 (none)))
 (cond (decide ((0 : Int) ≤ IntKind.wrap .i64 (b - (1 : Int))) && decide (IntKind.wrap .i64 (b - (1 : Int)) < nI (List.length a1)))
 (cond (decide (Prod.fst (Prod.snd (List.getD a1 (Int.toNat (IntKind.wrap .i64 (b - (1 : Int)))) zz3)) ≤ Prod.fst (Prod.snd (List.getD a1 (Int.toNat b) zz3))))
 (cond (decide (nI (List.length a1) ≤ IntKind.wrap .i64 (b + (2 : Int))))
 (some [(.bool (true))])
 (cond (decide ((0 : Int) ≤ IntKind.wrap .i64 (b + (2 : Int))) && decide (IntKind.wrap .i64 (b + (2 : Int)) < nI (List.length a1)))
 (some [(.bool (decide (Prod.fst (Prod.snd (List.getD a1 (Int.toNat (IntKind.wrap .i64 (b + (2 : Int)))) zz3)) ≤ Prod.fst (Prod.snd (List.getD a1 (Int.toNat b) zz3)))))])
 (none)))
 (some [(.bool (false))]))
 (none))))
 (none))
 (none))
 (none) := by kernel_rfl
end Go.Proofs.YtjfjniebmdafeaaGreatDoor
end
section
namespace Go.Proofs.YtjfjniebmdafeaaGreatDoor
open Go.Ev
def okp : Int → List Cell → Bool
  | _, [] => true
  | p, x :: l => idOk x.1 x.2.1 x.2.2 && (decide (qqc x.1 x.2.1 x.2.2 = p) && okp (p + qrw x.2.1) l)
def endp : Int → List Cell → Int
  | p, [] => p
  | p, x :: l => endp (p + qrw x.2.1) l
theorem qmy : ∀ (l : List Cell) (r p : Int), qmx r p l = (okp p l && (inR r 1 8 && decide (endp p l = r * 16)))
  | [], r, p => rfl
  | x :: l, r, p => by
    simp only [qmx, okp, endp]
    by_cases h : qqc x.1 x.2.1 x.2.2 = p
    · rw [h, qmy l r]; simp only [Bool.and_assoc]; rfl
    · rw [dF h]; simp
theorem qmz {l : List Cell} {r p : Int} : qmx r p l = true ↔ okp p l = true ∧ (1 ≤ r ∧ r ≤ 8) ∧ endp p l = r * 16 := by
  rw [qmy]; simp only [Bool.and_eq_true, qjf, decide_eq_true_eq]
theorem qnj {x : Cell} {l : List Cell} {p : Int} : okp p (x :: l) = true ↔ idOk x.1 x.2.1 x.2.2 = true ∧ qqc x.1 x.2.1 x.2.2 = p ∧ okp (p + qrw x.2.1) l = true := by
  simp only [okp, Bool.and_eq_true, decide_eq_true_eq]
theorem qit (x : Cell) (l : List Cell) (p : Int) : endp p (x :: l) = endp (p + qrw x.2.1) l := rfl
theorem qni : ∀ (a b : List Cell) (p : Int), okp p (a ++ b) = (okp p a && okp (endp p a) b)
  | [], b, p => by simp [okp, endp]
  | x :: a, b, p => by simp only [List.cons_append, okp, endp, qni a b, Bool.and_assoc]
theorem qis : ∀ (a b : List Cell) (p : Int), endp p (a ++ b) = endp (endp p a) b
  | [], b, p => by simp [endp]
  | x :: a, b, p => by simp only [List.cons_append, endp, qis a b]
theorem qri (l : List Cell) : ∀ n i, (qrh l n i < 0 ↔ ∀ j, i ≤ j → j < i + n → ¬ (1 < qla l j - qla l (j + 1) ∨ qla l j - qla l (j + 1) < -1)) ∧ (0 ≤ qrh l n i → ∃ j : Nat, qrh l n i = j ∧ i ≤ j ∧ j < i + n ∧ (1 < qla l j - qla l (j + 1) ∨ qla l j - qla l (j + 1) < -1))
  | 0, i => by refine ⟨⟨fun _ j h1 h2 => by omega, fun _ => by simp [qrh]⟩, fun h => by simp [qrh] at h⟩
  | n + 1, i => by
    have ih := qri l n (i + 1)
    unfold qrh
    by_cases g : 1 < qla l i - qla l (i + 1) ∨ qla l i - qla l (i + 1) < -1
    · rw [if_pos g]
      refine ⟨⟨fun h => by omega, fun h => absurd g (h i (Nat.le_refl _) (by omega))⟩, fun _ => ⟨i, rfl, Nat.le_refl _, by omega, g⟩⟩
    · rw [if_neg g]
      refine ⟨⟨fun h j h1 h2 => ?_, fun h => ih.1.2 fun j h1 h2 => h j (by omega) (by omega)⟩, fun h => ?_⟩
      · by_cases e : j = i
        · subst e; exact g
        · exact ih.1.1 h j (by omega) (by omega)
      · obtain ⟨j, e, h1, h2, h3⟩ := ih.2 h
        exact ⟨j, e, by omega, by omega, h3⟩
theorem qrk (l : List Cell) : unb l < 0 ↔ ∀ j, j + 1 < l.length → -1 ≤ qla l j - qla l (j + 1) ∧ qla l j - qla l (j + 1) ≤ 1 := by
  unfold unb
  rw [(qri l _ _).1]
  refine ⟨fun h j hj => ?_, fun h j _ hj => ?_⟩
  · have := h j (by omega) (by omega); omega
  · have := h j (by omega); omega
theorem qrj {l : List Cell} (h : 0 ≤ unb l) : ∃ j : Nat, unb l = j ∧ j + 1 < l.length ∧ (1 < qla l j - qla l (j + 1) ∨ qla l j - qla l (j + 1) < -1) := by
  unfold unb at *
  obtain ⟨j, e, h1, h2, h3⟩ := (qri l _ _).2 h
  exact ⟨j, e, by omega, h3⟩
end Go.Proofs.YtjfjniebmdafeaaGreatDoor
end
section
namespace Go.Proofs.YtjfjniebmdafeaaGreatDoor
open Go.Ev
theorem w0 : qrw 0 = 16 := by decide
theorem w1_ : qrw 1 = 8 := by decide
theorem w2_ : qrw 2 = 4 := by decide
theorem w3_ : qrw 3 = 2 := by decide
theorem w4_ : qrw 4 = 1 := by decide
theorem qjb {r l i : Int} : idOk r l i = true ↔ (0 ≤ r ∧ r ≤ 7) ∧ (0 ≤ l ∧ l ≤ 4) ∧ 0 ≤ i ∧ i < pow2 l := by
  simp only [idOk, Bool.and_eq_true, qjf, decide_eq_true_eq]
theorem qqe {r l i : Int} (h : idOk r l i = true) : qqc r l i = r * 16 + i * qrw l := by simp [qqc, h]
abbrev ch0 (x : Cell) : Cell := (x.1, x.2.1 + 1, 2 * x.2.2)
abbrev ch1 (x : Cell) : Cell := (x.1, x.2.1 + 1, 2 * x.2.2 + 1)
theorem qe3 {r l i : Int} (h : idOk r l i = true) (hl : l < 4) : idOk r (l + 1) (2 * i) = true ∧ idOk r (l + 1) (2 * i + 1) = true ∧ qqc r (l + 1) (2 * i) = qqc r l i ∧ qqc r (l + 1) (2 * i + 1) = qqc r l i + qrw (l + 1) ∧ qrw (l + 1) + qrw (l + 1) = qrw l := by
  have h' := qjb.1 h
  rcases lev (qjf.2 h'.2.1) with rfl | rfl | rfl | rfl | rfl
  · have p := h'.2.2; simp only [p20] at p
    have a : idOk r 1 (2 * i) = true := qjb.2 ⟨h'.1, by omega, by rw [p21]; omega⟩
    have b : idOk r 1 (2 * i + 1) = true := qjb.2 ⟨h'.1, by omega, by rw [p21]; omega⟩
    refine ⟨a, b, ?_, ?_, rfl⟩
    · show qqc r 1 (2 * i) = _; rw [qqe a, qqe h, w0, w1_]; omega
    · show qqc r 1 (2 * i + 1) = _ + qrw 1; rw [qqe b, qqe h, w0, w1_]; omega
  · have p := h'.2.2; simp only [p21] at p
    have a : idOk r 2 (2 * i) = true := qjb.2 ⟨h'.1, by omega, by rw [p22]; omega⟩
    have b : idOk r 2 (2 * i + 1) = true := qjb.2 ⟨h'.1, by omega, by rw [p22]; omega⟩
    refine ⟨a, b, ?_, ?_, rfl⟩
    · show qqc r 2 (2 * i) = _; rw [qqe a, qqe h, w1_, w2_]; omega
    · show qqc r 2 (2 * i + 1) = _ + qrw 2; rw [qqe b, qqe h, w1_, w2_]; omega
  · have p := h'.2.2; simp only [p22] at p
    have a : idOk r 3 (2 * i) = true := qjb.2 ⟨h'.1, by omega, by rw [p23]; omega⟩
    have b : idOk r 3 (2 * i + 1) = true := qjb.2 ⟨h'.1, by omega, by rw [p23]; omega⟩
    refine ⟨a, b, ?_, ?_, rfl⟩
    · show qqc r 3 (2 * i) = _; rw [qqe a, qqe h, w2_, w3_]; omega
    · show qqc r 3 (2 * i + 1) = _ + qrw 3; rw [qqe b, qqe h, w2_, w3_]; omega
  · have p := h'.2.2; simp only [p23] at p
    have a : idOk r 4 (2 * i) = true := qjb.2 ⟨h'.1, by omega, by rw [p24]; omega⟩
    have b : idOk r 4 (2 * i + 1) = true := qjb.2 ⟨h'.1, by omega, by rw [p24]; omega⟩
    refine ⟨a, b, ?_, ?_, rfl⟩
    · show qqc r 4 (2 * i) = _; rw [qqe a, qqe h, w3_, w4_]; omega
    · show qqc r 4 (2 * i + 1) = _ + qrw 4; rw [qqe b, qqe h, w3_, w4_]; omega
  · omega
def qp3 (l : List Cell) (i : Nat) : List Cell := l.take i ++ ch0 (l.getD i zz3) :: ch1 (l.getD i zz3) :: l.drop (i + 1)
theorem qp4 {l : List Cell} {i : Nat} (h : i < l.length) : (qp3 l i).length = l.length + 1 := by
  simp only [qp3, List.length_append, List.length_take, List.length_cons, List.length_drop]; omega
theorem qfe {α : Type} {l : List α} {i : Nat} (h : i < l.length) (d : α) : l = l.take i ++ l.getD i d :: l.drop (i + 1) := by
  rw [← qfo h d, List.take_append_drop]
theorem qp6 {l : List Cell} {r p : Int} {i : Nat} (h : qmx r p l = true) (hi : i < l.length) (hl : (l.getD i zz3).2.1 < 4) : qmx r p (qp3 l i) = true := by
  rw [qmz] at *
  have e := qfe hi zz3
  have h1 := h
  rw [e, qni, qis] at h1
  unfold qp3
  rw [qni, qis]
  simp only [qnj, qit, Bool.and_eq_true] at h1 ⊢
  have c := qe3 h1.1.2.1 hl
  refine ⟨⟨h1.1.1, c.1, ?_, c.2.1, ?_, ?_⟩, h1.2.1, ?_⟩
  · rw [c.2.2.1]; exact h1.1.2.2.1
  · rw [c.2.2.2.1, h1.1.2.2.1]
  · rw [Int.add_assoc, c.2.2.2.2]; exact h1.1.2.2.2
  · rw [Int.add_assoc, c.2.2.2.2]; exact h1.2.2
def qe6 (l : List Cell) (i : Nat) : Nat := if qla l (i + 1) < qla l i then i + 1 else i
theorem qe7 {l : List Cell} {r p : Int} {i : Nat} (h : qmx r p l = true) (hi : i + 1 < l.length) (hu : 1 < qla l i - qla l (i + 1) ∨ qla l i - qla l (i + 1) < -1) : qe6 l i < l.length ∧ qla l (qe6 l i) < 4 := by
  have h1 := qm3 _ _ _ h i; have h2 := qm3 _ _ _ h (i + 1)
  unfold qe6
  by_cases g : qla l (i + 1) < qla l i
  · rw [if_pos g]; exact ⟨hi, by omega⟩
  · rw [if_neg g]; exact ⟨by omega, by omega⟩
def balN : Nat → List Cell → List Cell
  | 0, l => l
  | n + 1, l => if unb l < 0 then l else balN n (qp3 l (qe6 l (unb l).toNat))
theorem qar : ∀ (n : Nat) (l : List Cell) (r : Int), qmx r 0 l = true → 129 ≤ n + l.length → qmx r 0 (balN n l) = true ∧ unb (balN n l) < 0
  | 0, l, r, h, hn => by have := qm2 h; omega
  | n + 1, l, r, h, hn => by
    unfold balN
    by_cases g : unb l < 0
    · rw [if_pos g]; exact ⟨h, g⟩
    · rw [if_neg g]
      obtain ⟨j, e, h1, h2⟩ := qrj (by omega : 0 ≤ unb l)
      have c := qe7 h h1 h2
      rw [e, Int.toNat_natCast]
      exact qar n _ r (qp6 h c.1 c.2) (by rw [qp4 c.1]; omega)
def bal (l : List Cell) : List Cell := balN (129 - l.length) l
theorem qat {l : List Cell} {r : Int} (h : qmx r 0 l = true) : qmx r 0 (bal l) = true ∧ unb (bal l) < 0 := qar _ l r h (by have := qm2 h; omega)
abbrev par (x : Cell) : Cell := (x.1, x.2.1 - 1, x.2.2 / 2)
def sib (a b : Cell) : Bool := idOk a.1 a.2.1 a.2.2 && (idOk b.1 b.2.1 b.2.2 && (decide (a.1 = b.1) && (decide (a.2.1 = b.2.1) && (decide (a.2.2 % 2 = 0) && decide (b.2.2 = a.2.2 + 1)))))
theorem qnt {r l i : Int} (h : idOk r l i = true) (h' : idOk r l (i + 1) = true) (he : i % 2 = 0) : 1 ≤ l ∧ idOk r (l - 1) (i / 2) = true ∧ qqc r (l - 1) (i / 2) = qqc r l i ∧ qqc r l (i + 1) = qqc r l i + qrw l ∧ qrw l + qrw l = qrw (l - 1) := by
  have a := qjb.1 h; have b := qjb.1 h'
  have hl : 1 ≤ l := by
    rcases Int.lt_or_le l 1 with g | g
    · have : l = 0 := by omega
      subst this; rw [p20] at b; omega
    · exact g
  have q : l - 1 + 1 = l := by omega
  have hi : 2 * (i / 2) = i := by omega
  have p0 : idOk r (l - 1) (i / 2) = true := by
    rcases lev (qjf.2 a.2.1) with rfl | rfl | rfl | rfl | rfl
    · omega
    · rw [p21] at b; exact qjb.2 ⟨a.1, by omega, by rw [show (1 : Int) - 1 = 0 from rfl, p20]; omega⟩
    · rw [p22] at b; exact qjb.2 ⟨a.1, by omega, by rw [show (2 : Int) - 1 = 1 from rfl, p21]; omega⟩
    · rw [p23] at b; exact qjb.2 ⟨a.1, by omega, by rw [show (3 : Int) - 1 = 2 from rfl, p22]; omega⟩
    · rw [p24] at b; exact qjb.2 ⟨a.1, by omega, by rw [show (4 : Int) - 1 = 3 from rfl, p23]; omega⟩
  have c := qe3 p0 (by omega)
  rw [q, hi] at c
  exact ⟨hl, p0, c.2.2.1.symm, by rw [c.2.2.2.1, c.2.2.1], c.2.2.2.2⟩
def qmt (l : List Cell) (i : Nat) : List Cell := l.take i ++ par (l.getD i zz3) :: l.drop (i + 2)
theorem qmu {l : List Cell} {i : Nat} (h : i + 1 < l.length) : (qmt l i).length + 1 = l.length := by
  simp only [qmt, List.length_append, List.length_take, List.length_cons, List.length_drop]; omega
theorem qmv {l : List Cell} {r p : Int} {i : Nat} (h : qmx r p l = true) (hi : i + 1 < l.length) (hs : sib (l.getD i zz3) (l.getD (i + 1) zz3) = true) : qmx r p (qmt l i) = true := by
  rw [qmz] at *
  have e := qfe (by omega : i < l.length) zz3
  rw [qfo hi zz3] at e
  have h1 := h
  rw [e, qni, qis] at h1
  unfold qmt
  rw [qni, qis]
  simp only [sib, Bool.and_eq_true, decide_eq_true_eq] at hs
  simp only [qnj, qit, Bool.and_eq_true] at h1 ⊢
  obtain ⟨s1, s2, s3, s4, s5, s6⟩ := hs
  have s2' := s2
  rw [← s3, ← s4, s6] at s2'
  have c := qnt s1 s2' s5
  have e2 : qrw (l.getD (i + 1) zz3).2.1 = qrw (l.getD i zz3).2.1 := by rw [s4]
  rw [e2] at h1
  refine ⟨⟨h1.1.1, c.2.1, ?_, ?_⟩, h1.2.1, ?_⟩
  · rw [c.2.2.1]; exact h1.1.2.2.1
  · rw [← c.2.2.2.2, ← Int.add_assoc]; exact h1.1.2.2.2.2.2
  · rw [← c.2.2.2.2, ← Int.add_assoc]; exact h1.2.2
end Go.Proofs.YtjfjniebmdafeaaGreatDoor
end
section
namespace Go.Proofs.YtjfjniebmdafeaaGreatDoor
open Go.Ev
def qji (t lv : Int) : Bool := inR lv 0 4 && (decide (0 ≤ t) && decide (Int.tmod t (qrw lv) = 0))
theorem qr0 {l : Int} (h : inR l 0 4 = true) : 0 < qrw l := by
  rcases lev h with rfl | rfl | rfl | rfl | rfl <;> decide
theorem qrz {l : Int} (h : inR l 0 4 = false) : qrw l = 0 := by simp [qrw, h]
theorem qcl (k : Nat) (hk : 2000000 ≤ k) (a : Int) (b : Int) : go (k + 3) spec_IsActive [(.int .i64 (a)), (.int .i64 (b))] = some [.bool (qji a b)] := by
  rw [qg2]
  simp (disch := omega) only [qay, nth0, nth1, nth2, nth3, bit, qef, qeg, qer, qew, qex, qey, qez, qe0, qe1, qe2, qeh, qei, qej, qek, qel, qem, qen, qeo, qep, qeq, qes, qet, qeu, qev, qrf, qre, qrg, qnd, qn3, qn5, qjh, qa5, qqo, nI, qfb, qe9, Bool.not_true, Bool.not_false, Bool.and_true, Bool.true_and, Bool.and_false, Bool.false_and, Bool.or_true, Bool.true_or, Bool.or_false, Bool.false_or, beq_self_eq_true, dTT, dFF, dT, dF, bigI, big0, qnc, qr4, qr5, List.length_set, List.length_replicate, Int.toNat_natCast, qed, qee, imax, imin, qc0]
  unfold qji
  cases h : inR b 0 4
  · rw [qrz h]; cases decide ((0 : Int) ≤ a) <;> simp
  · have := qr0 h
    simp (disch := omega) only [qay, nth0, nth1, nth2, nth3, bit, qef, qeg, qer, qew, qex, qey, qez, qe0, qe1, qe2, qeh, qei, qej, qek, qel, qem, qen, qeo, qep, qeq, qes, qet, qeu, qev, qrf, qre, qrg, qnd, qn3, qn5, qjh, qa5, qqo, nI, qfb, qe9, Bool.not_true, Bool.not_false, Bool.and_true, Bool.true_and, Bool.and_false, Bool.false_and, Bool.or_true, Bool.true_or, Bool.or_false, Bool.false_or, beq_self_eq_true, dTT, dFF, dT, dF, bigI, big0, qnc, qr4, qr5, List.length_set, List.length_replicate, Int.toNat_natCast, qed, qee, imax, imin, decide_not]
    cases decide ((0 : Int) ≤ a) <;> simp
def qiu (l : List Cell) (i : Nat) : Int := max (qla l (i + 1)) (qla l i)
theorem qdh (k : Nat) (hk : 2000000 ≤ k) (a0 : Int) (a1z : Bool) (a1 : List Cell) (i : Nat) (hi : i + 1 < a1.length) (hl : (a1.length : Int) ≤ 1048576) : go (k + 1) spec_l05Face [.agg [.int .i64 a0, .arr false a1z (.r3 a1)], .int .i64 (i : Int)] = some [.int .i64 (qiu a1 i)] := by
  rw [qhu]
  simp (disch := omega) only [qay, nth0, nth1, nth2, nth3, bit, qef, qeg, qer, qew, qex, qey, qez, qe0, qe1, qe2, qeh, qei, qej, qek, qel, qem, qen, qeo, qep, qeq, qes, qet, qeu, qev, qrf, qre, qrg, qnd, qn3, qn5, qjh, qa5, qqo, nI, qfb, qe9, Bool.not_true, Bool.not_false, Bool.and_true, Bool.true_and, Bool.and_false, Bool.false_and, Bool.or_true, Bool.true_or, Bool.or_false, Bool.false_or, beq_self_eq_true, dTT, dFF, dT, dF, bigI, big0, qnc, qr4, qr5, List.length_set, List.length_replicate, Int.toNat_natCast, qed, qee, imax, imin]
  rfl
def qah (t : Int) (l : List Cell) (i : Nat) : Bool := decide (i + 1 < l.length) && qji t (qiu l i)
end Go.Proofs.YtjfjniebmdafeaaGreatDoor
end
section
namespace Go.Proofs.YtjfjniebmdafeaaGreatDoor
open Go.Ev
def tab (L : Nat) (g : Nat → Int) : List Int := (List.range L).map g
theorem qqy (L : Nat) (g : Nat → Int) : (tab L g).length = L := by simp [tab]
theorem qqx {L : Nat} {g : Nat → Int} {i : Nat} (h : i < L) : (tab L g).getD i 0 = g i := by simp [tab, h]
theorem qqw {L : Nat} {g g' : Nat → Int} (h : ∀ j, j < L → g j = g' j) : tab L g = tab L g' := by
  unfold tab
  exact List.map_congr_left fun j hj => h j (by simpa using hj)
theorem qq1 {L : Nat} {g : Nat → Int} (i : Nat) (v : Int) : (tab L g).set i v = tab L (fun j => if j = i then v else g j) := by
  apply List.ext_getElem
  · simp [tab]
  · intro j h1 h2
    simp only [tab, List.getElem_set, List.getElem_map, List.getElem_range]
    by_cases h : i = j
    · simp [h]
    · rw [if_neg h, if_neg (fun e => h e.symm)]
theorem qq0 (l : List Int) : l = tab l.length (fun j => l.getD j 0) := by
  apply List.ext_getElem
  · simp [tab]
  · intro j h1 h2
    simp [tab, h1]
theorem qq3 (L : Nat) : List.replicate L (0 : Int) = tab L (fun _ => 0) := by
  apply List.ext_getElem
  · simp [tab]
  · intro j h1 h2; simp [tab]
theorem qq8 {x y B : Int} (hy : 0 < y) (h : -B ≤ x) (h' : x ≤ B) : -B ≤ Int.tdiv x y ∧ Int.tdiv x y ≤ B := by
  by_cases hx : 0 ≤ x
  · rw [Int.tdiv_eq_ediv_of_nonneg hx]
    have h1 := Int.ediv_nonneg hx (by omega : 0 ≤ y)
    have h2 := Int.ediv_le_self y hx
    omega
  · obtain ⟨z, rfl⟩ : ∃ z, x = -z := ⟨-x, by omega⟩
    rw [Int.neg_tdiv, Int.tdiv_eq_ediv_of_nonneg (by omega : 0 ≤ z)]
    have h1 := Int.ediv_nonneg (by omega : 0 ≤ z) (by omega : 0 ≤ y)
    have h2 := Int.ediv_le_self y (by omega : 0 ≤ z)
    omega
theorem qm8 {x w A : Int} (hx : -A ≤ x) (hx' : x ≤ A) (hw : 0 ≤ w) (hw' : w ≤ 16) : -(16 * A) ≤ x * w ∧ x * w ≤ 16 * A := by
  have hA : 0 ≤ A := by omega
  have h1 : x * w ≤ A * w := Int.mul_le_mul_of_nonneg_right hx' hw
  have h2 : A * w ≤ A * 16 := Int.mul_le_mul_of_nonneg_left hw' hA
  have h3 : (-A) * w ≤ x * w := Int.mul_le_mul_of_nonneg_right hx hw
  have h4 : (-A) * w = -(A * w) := Int.neg_mul A w
  omega
def qpm (t p m : Int) : Int := cond (inR m 1 10000000 && (inR p 0 m && inR t 0 (1000 * m))) (Int.tdiv (t * p) m) 0
theorem qpq {t p m : Int} (hm : inR m 1 10000000 = true) (hp : inR p 0 m = true) (ht : inR t 0 (1000 * m) = true) : 0 ≤ t * p ∧ t * p ≤ 100000000000000000 := by
  rw [qjf] at *
  refine ⟨Int.mul_nonneg (by omega) (by omega), ?_⟩
  calc t * p ≤ 10000000000 * p := Int.mul_le_mul_of_nonneg_right (by omega) (by omega)
    _ ≤ 10000000000 * 10000000 := Int.mul_le_mul_of_nonneg_left (by omega) (by omega)
theorem qpo (t p m : Int) : 0 ≤ qpm t p m ∧ qpm t p m ≤ 100000000000000000 := by
  unfold qpm
  cases hm : inR m 1 10000000
  · simp
  cases hp : inR p 0 m
  · simp
  cases ht : inR t 0 (1000 * m)
  · simp
  have := qpq hm hp ht
  have hm' := qjf.1 hm
  simp only [Bool.and_self, qfb]
  rw [Int.tdiv_eq_ediv_of_nonneg this.1]
  exact ⟨Int.ediv_nonneg this.1 (by omega), Int.le_trans (Int.ediv_le_self m this.1) this.2⟩
theorem qpp {t p m : Int} (ht : 0 ≤ t) (hp : 0 ≤ p) (h : t ≤ 1000 * m) : qpm t p m ≤ 1000 * p := by
  unfold qpm
  cases hh : (inR m 1 10000000 && (inR p 0 m && inR t 0 (1000 * m)))
  · simp only [qe9]; omega
  · simp only [Bool.and_eq_true, qjf] at hh
    simp only [qfb]
    rw [Int.tdiv_eq_ediv_of_nonneg (Int.mul_nonneg ht hp)]
    apply Int.ediv_le_of_le_mul (by omega)
    calc t * p ≤ (1000 * m) * p := Int.mul_le_mul_of_nonneg_right h hp
      _ = 1000 * p * m := by rw [Int.mul_assoc, Int.mul_assoc, Int.mul_comm m p]
def loOk (t m r l : Int) : Bool := inR m 1 10000000 && (inR t 0 (1000 * m) && (inR r 0 m && inR l 0 (m - r)))
def loA (t m r l : Int) : Int := cond (loOk t m r l) (qpm t r m) 0
def loB (t m r l : Int) : Int := cond (loOk t m r l) (qpm t (r + l) m - qpm t r m) 0
def quo (sa sb la lb : Int) : Int := Int.tdiv ((sa - sb) * qrw (max lb la)) (32 * (qrw la + qrw lb))
def qns (sa sb ma mb la lb : Int) : Int := max (0 - mb / 4) (min (ma / 4) (quo sa sb la lb))
def fl (l : List Cell) (m b : List Int) (i : Nat) : Int := qns (surf l m b i) (surf l m b (i + 1)) (m.getD i 0) (m.getD (i + 1) 0) (qla l i) (qla l (i + 1))
def ff (t : Int) (l : List Cell) (m b : List Int) (i : Nat) : Int := cond (qah t l i) (fl l m b i) 0
theorem qiv {t : Int} {l : List Cell} {m b : List Int} {i : Nat} (h : l.length ≤ i + 1) : ff t l m b i = 0 := by
  unfold ff qah
  rw [dF (p := i + 1 < l.length) (by omega)]; rfl
theorem qix {r : Int} {l : List Cell} {m t b : List Int} (F : StF r l m t b) (i : Nat) : 0 - m.getD (i + 1) 0 / 4 ≤ fl l m b i ∧ fl l m b i ≤ m.getD i 0 / 4 := by
  have h1 := F.at i; have h2 := F.at (i + 1)
  unfold fl qns
  omega
theorem qiw {r : Int} {l : List Cell} {m t b : List Int} (F : StF r l m t b) (tk : Int) (i : Nat) : 0 - m.getD (i + 1) 0 / 4 ≤ ff tk l m b i ∧ ff tk l m b i ≤ m.getD i 0 / 4 := by
  have h1 := F.at i; have h2 := F.at (i + 1); have h3 := qix F i
  unfold ff
  cases qah tk l i
  · simp only [qe9]; omega
  · simp only [qfb]; omega
def rgt (tk : Int) (l : List Cell) (m b : List Int) (i : Nat) : Int := max 0 (ff tk l m b i)
def lft (tk : Int) (l : List Cell) (m b : List Int) (i : Nat) : Int := if 1 ≤ i then max 0 (0 - ff tk l m b (i - 1)) else 0
def outA (tk : Int) (l : List Cell) (m t b : List Int) (i : Nat) : Int := loA (t.getD i 0) (m.getD i 0) (rgt tk l m b i) (lft tk l m b i)
def outB (tk : Int) (l : List Cell) (m t b : List Int) (i : Nat) : Int := loB (t.getD i 0) (m.getD i 0) (rgt tk l m b i) (lft tk l m b i)
def stM (tk : Int) (l : List Cell) (m b : List Int) (j : Nat) : Int := m.getD j 0 - ff tk l m b j + (if 1 ≤ j then ff tk l m b (j - 1) else 0)
def stT (tk : Int) (l : List Cell) (m t b : List Int) (j : Nat) : Int := t.getD j 0 - outA tk l m t b j - outB tk l m t b j + (if 1 ≤ j then outA tk l m t b (j - 1) else 0) + outB tk l m t b (j + 1)
theorem qlc (t m l : Int) : loA t m 0 l = 0 := by
  unfold loA qpm
  cases loOk t m 0 l
  · rfl
  · simp
theorem qld (t m r : Int) : loB t m r 0 = 0 := by
  unfold loB
  cases loOk t m r 0
  · rfl
  · simp
theorem qnm {tk : Int} {l : List Cell} {m t b : List Int} {i : Nat} (h : rgt tk l m b i = 0) : outA tk l m t b i = 0 := by unfold outA; rw [h, qlc]
theorem qno {tk : Int} {l : List Cell} {m t b : List Int} {i : Nat} (h : lft tk l m b i = 0) : outB tk l m t b i = 0 := by unfold outB; rw [h, qld]
theorem qnl (tk : Int) (l : List Cell) (m t b : List Int) (i : Nat) : 0 ≤ outA tk l m t b i ∧ outA tk l m t b i ≤ 100000000000000000 := by
  unfold outA loA
  cases loOk (t.getD i 0) (m.getD i 0) (rgt tk l m b i) (lft tk l m b i)
  · simp
  · exact qpo _ _ _
theorem qnn (tk : Int) (l : List Cell) (m t b : List Int) (i : Nat) : -100000000000000000 ≤ outB tk l m t b i ∧ outB tk l m t b i ≤ 100000000000000000 := by
  unfold outB loB
  cases loOk (t.getD i 0) (m.getD i 0) (rgt tk l m b i) (lft tk l m b i)
  · simp
  · have h1 := qpo (t.getD i 0) (rgt tk l m b i) (m.getD i 0)
    have h2 := qpo (t.getD i 0) (rgt tk l m b i + lft tk l m b i) (m.getD i 0)
    simp only [qfb]; omega
def Tk (tk : Int) (l : List Cell) (m t b : List Int) (k j : Nat) : Int := t.getD j 0 - (if j < k then outA tk l m t b j + outB tk l m t b j else 0) + (if 1 ≤ j ∧ j ≤ k then outA tk l m t b (j - 1) else 0) + (if j + 1 < k then outB tk l m t b (j + 1) else 0)
def upd (G : Nat → Int) (i : Nat) (A B : Int) (j : Nat) : Int := if 1 ≤ i ∧ j = i - 1 then G j + B else if j = i + 1 then G j + A else if j = i then G j - A - B else G j
theorem qro {G : Nat → Int} {i : Nat} {A B : Int} (g : 1 ≤ i) : (fun j => if j = i - 1 then G (i - 1) + B else if j = i + 1 then G (i + 1) + A else if j = i then G i - A - B else G j) = upd G i A B := by
  funext j
  unfold upd
  by_cases q1 : j = i - 1
  · rw [if_pos q1, if_pos ⟨g, q1⟩, q1]
  · rw [if_neg q1, if_neg (show ¬ (1 ≤ i ∧ j = i - 1) from fun hh => q1 hh.2)]
    by_cases q2 : j = i + 1
    · rw [if_pos q2, if_pos q2, q2]
    · rw [if_neg q2, if_neg q2]
      by_cases q3 : j = i
      · rw [if_pos q3, if_pos q3, q3]
      · rw [if_neg q3, if_neg q3]
theorem qrn {G : Nat → Int} {i : Nat} {A B : Int} (hB : B = 0) : (fun j => if j = i + 1 then G (i + 1) + A else if j = i then G i - A - B else G j) = upd G i A B := by
  funext j
  unfold upd
  by_cases q1 : 1 ≤ i ∧ j = i - 1
  · rw [if_pos q1, if_neg (by omega), if_neg (by omega), hB]; omega
  · rw [if_neg q1]
    by_cases q2 : j = i + 1
    · rw [if_pos q2, if_pos q2, q2]
    · rw [if_neg q2, if_neg q2]
      by_cases q3 : j = i
      · rw [if_pos q3, if_pos q3, q3]
      · rw [if_neg q3, if_neg q3]
theorem qrm {G : Nat → Int} {i : Nat} {A B : Int} (g : 1 ≤ i) (hA : A = 0) : (fun j => if j = i - 1 then G (i - 1) + B else if j = i then G i - A - B else G j) = upd G i A B := by
  funext j
  unfold upd
  by_cases q1 : j = i - 1
  · rw [if_pos q1, if_pos ⟨g, q1⟩, q1]
  · rw [if_neg q1, if_neg (show ¬ (1 ≤ i ∧ j = i - 1) from fun hh => q1 hh.2)]
    by_cases q2 : j = i + 1
    · rw [if_pos q2, if_neg (by omega), hA]; omega
    · rw [if_neg q2]
      by_cases q3 : j = i
      · rw [if_pos q3, if_pos q3, q3]
      · rw [if_neg q3, if_neg q3]
theorem qrl {G : Nat → Int} {i : Nat} {A B : Int} (hA : A = 0) (hB : B = 0) : (fun j => if j = i then G i - A - B else G j) = upd G i A B := by
  funext j
  unfold upd
  by_cases q1 : 1 ≤ i ∧ j = i - 1
  · rw [if_pos q1, if_neg (by omega), hB]; omega
  · rw [if_neg q1]
    by_cases q2 : j = i + 1
    · rw [if_pos q2, if_neg (by omega), hA]; omega
    · rw [if_neg q2]
      by_cases q3 : j = i
      · rw [if_pos q3, if_pos q3, q3]
      · rw [if_neg q3, if_neg q3]
theorem qaf (tk : Int) (l : List Cell) (m t b : List Int) (i : Nat) (hi : i < l.length) :
    tab l.length (upd (Tk tk l m t b i) i (outA tk l m t b i) (outB tk l m t b i)) = tab l.length (Tk tk l m t b (i + 1)) := qqw fun j hj => by
  unfold upd
  by_cases g1 : 1 ≤ i ∧ j = i - 1
  · obtain ⟨g1, rfl⟩ := g1
    rw [if_pos ⟨g1, rfl⟩]
    unfold Tk
    rw [if_pos (show i - 1 < i by omega), if_neg (show ¬ (i - 1 + 1 < i) by omega), if_pos (show i - 1 < i + 1 by omega), if_pos (show i - 1 + 1 < i + 1 by omega), show i - 1 + 1 = i by omega]
    have e2 : (1 ≤ i - 1 ∧ i - 1 ≤ i) = (1 ≤ i - 1 ∧ i - 1 ≤ i + 1) := by rw [eq_iff_iff]; omega
    simp only [e2]; omega
  · rw [if_neg g1]
    by_cases g2 : j = i + 1
    · subst g2
      rw [if_pos rfl]
      unfold Tk
      rw [if_neg (show ¬ (i + 1 < i) by omega), if_neg (show ¬ (1 ≤ i + 1 ∧ i + 1 ≤ i) by omega), if_neg (show ¬ (i + 1 + 1 < i) by omega), if_neg (show ¬ (i + 1 < i + 1) by omega), if_pos (show 1 ≤ i + 1 ∧ i + 1 ≤ i + 1 by omega), if_neg (show ¬ (i + 1 + 1 < i + 1) by omega), Nat.add_sub_cancel]; omega
    · rw [if_neg g2]
      by_cases g3 : j = i
      · subst g3
        rw [if_pos rfl]
        unfold Tk
        rw [if_neg (show ¬ (j < j) by omega), if_neg (show ¬ (j + 1 < j) by omega), if_pos (show j < j + 1 by omega), if_neg (show ¬ (j + 1 < j + 1) by omega)]
        have e2 : (1 ≤ j ∧ j ≤ j) = (1 ≤ j ∧ j ≤ j + 1) := by rw [eq_iff_iff]; omega
        simp only [e2]; omega
      · rw [if_neg g3]
        unfold Tk
        have e1 : (j < i) = (j < i + 1) := by rw [eq_iff_iff]; omega
        have e2 : (1 ≤ j ∧ j ≤ i) = (1 ≤ j ∧ j ≤ i + 1) := by rw [eq_iff_iff]; omega
        have e3 : (j + 1 < i) = (j + 1 < i + 1) := by rw [eq_iff_iff]; omega
        simp only [e1, e2, e3]
theorem qae (tk : Int) (l : List Cell) (m t b : List Int) (hm : m.length = l.length) : tab l.length (Tk tk l m t b l.length) = tab l.length (stT tk l m t b) := qqw fun j hj => by
  unfold Tk stT
  rw [if_pos hj]
  have e2 : (1 ≤ j ∧ j ≤ l.length) = (1 ≤ j) := by rw [eq_iff_iff]; omega
  simp only [e2]
  by_cases g : j + 1 < l.length
  · rw [if_pos g]; omega
  · rw [if_neg g]
    have : outB tk l m t b (j + 1) = 0 := by
      apply qno
      unfold lft
      rw [if_pos (by omega), Nat.add_sub_cancel, qiv (by omega)]; rfl
    omega
theorem qag (tk : Int) (l : List Cell) (m t b : List Int) (ht : t.length = l.length) : t = tab l.length (Tk tk l m t b 0) := by
  have h := qq0 t
  rw [ht] at h
  refine h.trans (qqw fun j hj => ?_)
  unfold Tk
  rw [if_neg (by omega), if_neg (by omega), if_neg (by omega)]; omega
end Go.Proofs.YtjfjniebmdafeaaGreatDoor
end
section
namespace Go.Proofs.YtjfjniebmdafeaaGreatDoor
open Go.Ev
def qqp (g : Nat → Int) : Nat → Int
  | 0 => 0
  | n + 1 => qqp g n + g n
theorem qjk : ∀ (a b : List Int), isum (a ++ b) = isum a + isum b
  | [], b => by simp [isum]
  | x :: a, b => by simp only [List.cons_append, isum, qjk a b]; omega
theorem qjs (g : Nat → Int) : ∀ n, isum (tab n g) = qqp g n
  | 0 => by simp [tab, isum, qqp]
  | n + 1 => by
    have := qjs g n
    unfold tab at *
    rw [List.range_succ, List.map_append, qjk, this]
    simp [isum, qqp]
theorem qjr (l : List Int) : isum l = qqp (fun j => l.getD j 0) l.length := by
  have h := qq0 l
  have e := qjs (fun j => l.getD j 0) l.length
  rw [← h] at e; exact e
theorem qmr : ∀ (m t : List Int), m.length = t.length → (∀ i, i < m.length → (0 ≤ m.getD i 0 ∧ m.getD i 0 ≤ 10000000) ∧ 0 ≤ t.getD i 0 ∧ t.getD i 0 ≤ 1000 * m.getD i 0) → qmo m t = true
  | [], t, hl, h => by simp [qmo]
  | x :: m, [], hl, h => by simp at hl
  | x :: m, y :: t, hl, h => by
    have h0 := h 0 (by simp)
    simp only [List.getD_cons_zero] at h0
    have ih := qmr m t (by simpa using hl) fun i hi => by simpa using h (i + 1) (by simpa using hi)
    simp only [qmo, ih, Bool.and_true, Bool.and_eq_true, qjf]
    exact h0
theorem qip : ∀ (l : List Int), (∀ x ∈ l, 0 ≤ x) → ∀ x ∈ l, x ≤ isum l
  | [], h, x, hx => by cases hx
  | y :: l, h, x, hx => by
    have hn : 0 ≤ isum l := by
      clear hx
      induction l with
      | nil => simp [isum]
      | cons z l ih =>
        have := ih (fun w hw => h w (by simp only [List.mem_cons] at *; rcases hw with rfl | hw <;> simp_all))
        have := h z (by simp)
        simp only [isum]; omega
    have hy := h y (by simp)
    simp only [isum]
    rcases List.mem_cons.1 hx with rfl | hx
    · omega
    · have := qip l (fun w hw => h w (by simp [hw])) x hx
      omega
theorem qpn {t p m : Int} (hm : 1 ≤ m) (hm' : m ≤ 10000000) (hp : 0 ≤ p) (hp' : p ≤ m) (ht : 0 ≤ t) (ht' : t ≤ 1000 * m) : qpm t p m = t * p / m := by
  unfold qpm
  rw [qjf.2 ⟨hm, hm'⟩, qjf.2 ⟨hp, hp'⟩, qjf.2 ⟨ht, ht'⟩]
  simp only [Bool.and_self, qfb]
  exact Int.tdiv_eq_ediv_of_nonneg (Int.mul_nonneg ht hp)
theorem qpr {t p m : Int} (hm : 1 ≤ m) (hp : 0 ≤ p) (hp' : p ≤ m) (ht : 0 ≤ t) (ht' : t ≤ 1000 * m) : 0 ≤ t * p / m ∧ t * p / m ≤ t ∧ t - 1000 * (m - p) ≤ t * p / m := by
  refine ⟨Int.ediv_nonneg (Int.mul_nonneg ht hp) (by omega), ?_, ?_⟩
  · apply Int.ediv_le_of_le_mul (by omega)
    exact Int.mul_le_mul_of_nonneg_left hp' ht
  · apply Int.le_ediv_of_mul_le (by omega)
    have h1 : t * (m - p) ≤ 1000 * m * (m - p) := Int.mul_le_mul_of_nonneg_right ht' (by omega)
    have e1 : t * (m - p) = t * m - t * p := Int.mul_sub t m p
    have e2 : 1000 * m * (m - p) = 1000 * (m - p) * m := by rw [Int.mul_assoc, Int.mul_comm m (m - p), ← Int.mul_assoc]
    have e3 : (t - 1000 * (m - p)) * m = t * m - 1000 * (m - p) * m := Int.sub_mul _ _ _
    omega
theorem qps {t r l m : Int} (hm : 1 ≤ m) (hr : 0 ≤ r) (hl : 0 ≤ l) (ht : 0 ≤ t) (ht' : t ≤ 1000 * m) : t * r / m ≤ t * (r + l) / m ∧ t * (r + l) / m ≤ t * r / m + 1000 * l := by
  have e : t * (r + l) = t * r + t * l := Int.mul_add t r l
  have n := Int.mul_nonneg ht hl
  have h1 : t * l ≤ 1000 * m * l := Int.mul_le_mul_of_nonneg_right ht' hl
  have e2 : 1000 * m * l = 1000 * l * m := by rw [Int.mul_assoc, Int.mul_comm m l, ← Int.mul_assoc]
  refine ⟨Int.ediv_le_ediv (by omega) (by omega), ?_⟩
  rw [← Int.add_mul_ediv_right _ _ (by omega : m ≠ 0)]
  exact Int.ediv_le_ediv (by omega) (by omega)
section
variable {r : Int} {l : List Cell} {m t b : List Int}
theorem qoe (F : StF r l m t b) (tk : Int) (i : Nat) : 0 ≤ rgt tk l m b i ∧ rgt tk l m b i ≤ m.getD i 0 / 4 := by
  have := qiw F tk i; have := F.at i
  unfold rgt; omega
theorem qlb (F : StF r l m t b) (tk : Int) (i : Nat) : 0 ≤ lft tk l m b i ∧ lft tk l m b i ≤ m.getD i 0 / 4 := by
  have h := qiw F tk (i - 1); have := F.at i
  unfold lft
  by_cases g : 1 ≤ i
  · rw [if_pos g]; rw [show i - 1 + 1 = i by omega] at h; omega
  · rw [if_neg g]; omega
theorem qnp (F : StF r l m t b) (tk : Int) (i : Nat) : 0 ≤ outA tk l m t b i ∧ outA tk l m t b i ≤ 1000 * rgt tk l m b i ∧ 0 ≤ outB tk l m t b i ∧ outB tk l m t b i ≤ 1000 * lft tk l m b i ∧
    outA tk l m t b i + outB tk l m t b i ≤ t.getD i 0 ∧ t.getD i 0 - 1000 * (m.getD i 0 - rgt tk l m b i - lft tk l m b i) ≤ outA tk l m t b i + outB tk l m t b i := by
  have h := F.at i; have R := qoe F tk i; have L := qlb F tk i
  by_cases hm : 1 ≤ m.getD i 0
  · have ok : loOk (t.getD i 0) (m.getD i 0) (rgt tk l m b i) (lft tk l m b i) = true := by
      unfold loOk
      rw [qjf.2 ⟨hm, h.2.1⟩, qjf.2 ⟨h.2.2.1, h.2.2.2⟩, qjf.2 ⟨R.1, by omega⟩, qjf.2 ⟨L.1, by omega⟩]; rfl
    have s1 := qpn (t := t.getD i 0) (p := rgt tk l m b i) hm h.2.1 R.1 (by omega) h.2.2.1 h.2.2.2
    have s2 := qpn (t := t.getD i 0) (p := rgt tk l m b i + lft tk l m b i) hm h.2.1 (by omega) (by omega) h.2.2.1 h.2.2.2
    have c1 := qpr (t := t.getD i 0) (p := rgt tk l m b i + lft tk l m b i) hm (by omega) (by omega) h.2.2.1 h.2.2.2
    have c2 := qps (t := t.getD i 0) (r := rgt tk l m b i) (l := lft tk l m b i) hm R.1 L.1 h.2.2.1 h.2.2.2
    have c3 := qpp (t := t.getD i 0) (p := rgt tk l m b i) (m := m.getD i 0) h.2.2.1 R.1 h.2.2.2
    have c4 := (qpo (t.getD i 0) (rgt tk l m b i) (m.getD i 0)).1
    unfold outA outB loA loB
    rw [ok]
    simp only [qfb]
    omega
  · have z : m.getD i 0 = 0 := by omega
    have ok : loOk (t.getD i 0) (m.getD i 0) (rgt tk l m b i) (lft tk l m b i) = false := by
      unfold loOk
      have : inR (m.getD i 0) 1 10000000 = false := by rw [← Bool.not_eq_true, qjf]; omega
      rw [this]; rfl
    unfold outA outB loA loB
    rw [ok]
    simp only [qe9]
    omega
theorem qp7 (F : StF r l m t b) (tk : Int) (j : Nat) : stM tk l m b j = m.getD j 0 - rgt tk l m b j - lft tk l m b j + (if 1 ≤ j then rgt tk l m b (j - 1) else 0) + lft tk l m b (j + 1) := by
  unfold stM rgt lft
  rw [if_pos (show 1 ≤ j + 1 by omega), Nat.add_sub_cancel]
  by_cases g : 1 ≤ j
  · simp only [if_pos g]; omega
  · simp only [if_neg g]; omega
theorem qp8 (F : StF r l m t b) (tk : Int) (j : Nat) : 0 ≤ stM tk l m b j := by
  rw [qp7 F]
  have R := qoe F tk j; have L := qlb F tk j; have R' := qoe F tk (j - 1); have L' := qlb F tk (j + 1); have := F.at j
  by_cases g : 1 ≤ j
  · rw [if_pos g]; omega
  · rw [if_neg g]; omega
theorem qqa (F : StF r l m t b) (tk : Int) (j : Nat) : 0 ≤ stT tk l m t b j ∧ stT tk l m t b j ≤ 1000 * stM tk l m b j := by
  rw [qp7 F]
  unfold stT
  have a := qnp F tk j; have a1 := qnp F tk (j - 1); have a2 := qnp F tk (j + 1)
  by_cases g : 1 ≤ j
  · rw [if_pos g, if_pos g]; omega
  · rw [if_neg g, if_neg g]; omega
theorem qp9 (tk : Int) (l : List Cell) (m b : List Int) : ∀ n, qqp (stM tk l m b) n = qqp (fun j => m.getD j 0) n - (if 1 ≤ n then ff tk l m b (n - 1) else 0)
  | 0 => by simp [qqp]
  | n + 1 => by
    have ih := qp9 tk l m b n
    simp only [qqp, ih]
    rw [if_pos (show 1 ≤ n + 1 by omega), Nat.add_sub_cancel]
    unfold stM
    by_cases g : 1 ≤ n
    · simp only [if_pos g]; omega
    · simp only [if_neg g]; omega
theorem qqb (tk : Int) (l : List Cell) (m t b : List Int) : ∀ n, qqp (stT tk l m t b) n = qqp (fun j => t.getD j 0) n - (if 1 ≤ n then outA tk l m t b (n - 1) else 0) - outB tk l m t b 0 + outB tk l m t b n
  | 0 => by simp [qqp]; omega
  | n + 1 => by
    have ih := qqb tk l m t b n
    simp only [qqp, ih]
    rw [if_pos (show 1 ≤ n + 1 by omega), Nat.add_sub_cancel]
    unfold stT
    by_cases g : 1 ≤ n
    · simp only [if_pos g]; omega
    · simp only [if_neg g]; omega
theorem qqj (F : StF r l m t b) (tk : Int) : isum (tab l.length (stM tk l m b)) = isum m := by
  have L := F.len
  rw [qjs, qp9, qjr m, F.ml, if_pos L.1, qiv (by omega)]; omega
theorem qqk (F : StF r l m t b) (tk : Int) : isum (tab l.length (stT tk l m t b)) = isum t := by
  have L := F.len
  have z1 : outA tk l m t b (l.length - 1) = 0 := qnm (by unfold rgt; rw [qiv (by omega)]; rfl)
  have z2 : outB tk l m t b 0 = 0 := qno (by unfold lft; rw [if_neg (by omega)])
  have z3 : outB tk l m t b l.length = 0 := qno (by unfold lft; rw [if_pos L.1, qiv (by omega)]; rfl)
  rw [qjs, qqb, qjr t, F.tl, if_pos L.1, z1, z2, z3]; omega
theorem qqg (F : StF r l m t b) (tk : Int) : StF r l (tab l.length (stM tk l m b)) (tab l.length (stT tk l m t b)) b := by
  have hs := qqj F tk
  have hn : ∀ x ∈ tab l.length (stM tk l m b), 0 ≤ x := by
    intro x hx
    simp only [tab, List.mem_map] at hx
    obtain ⟨j, _, rfl⟩ := hx
    exact qp8 F tk j
  refine ⟨F.mesh, F.bal, qqy _ _, qqy _ _, F.bl, ?_, F.bed, by rw [hs]; exact F.sum⟩
  refine qmr _ _ (by rw [qqy, qqy]) fun i hi => ?_
  rw [qqy] at hi
  have h1 := qip _ hn _ (qja (by rw [qqy]; exact hi : i < (tab l.length (stM tk l m b)).length) 0)
  rw [hs] at h1
  have := F.sum
  rw [qqx hi] at *
  rw [qqx hi]
  exact ⟨⟨qp8 F tk i, by omega⟩, qqa F tk i⟩
end
end Go.Proofs.YtjfjniebmdafeaaGreatDoor
end
section
namespace Go.Proofs.YtjfjniebmdafeaaGreatDoor
open Go.Ev
abbrev S3 := List Cell × List Int × List Int
structure StU (r : Int) (s : S3) (b : List Int) : Prop where
  mesh : qmx r 0 s.1 = true
  ml : s.2.1.length = s.1.length
  tl : s.2.2.length = s.1.length
  bl : (b.length : Int) = r
  mt : qmo s.2.1 s.2.2 = true
  bed : qav b = true
  sum : isum s.2.1 ≤ 10000000
theorem StF.toU {r : Int} {l : List Cell} {m t b : List Int} (F : StF r l m t b) : StU r (l, m, t) b := ⟨F.mesh, F.ml, F.tl, F.bl, F.mt, F.bed, F.sum⟩
theorem StU.toF {r : Int} {s : S3} {b : List Int} (U : StU r s b) (h : unb s.1 < 0) : StF r s.1 s.2.1 s.2.2 b := ⟨U.mesh, h, U.ml, U.tl, U.bl, U.mt, U.bed, U.sum⟩
theorem StU.len {r : Int} {s : S3} {b : List Int} (U : StU r s b) : 1 ≤ s.1.length ∧ s.1.length ≤ 128 := qm2 U.mesh
theorem StU.rr {r : Int} {s : S3} {b : List Int} (U : StU r s b) : 1 ≤ r ∧ r ≤ 8 := ⟨(qm1 _ _ _ U.mesh).1, (qm1 _ _ _ U.mesh).2.1⟩
theorem StU.at {r : Int} {s : S3} {b : List Int} (U : StU r s b) (i : Nat) : 0 ≤ s.2.1.getD i 0 ∧ s.2.1.getD i 0 ≤ 10000000 ∧ 0 ≤ s.2.2.getD i 0 ∧ s.2.2.getD i 0 ≤ 1000 * s.2.1.getD i 0 := qmp _ _ (by rw [U.ml, U.tl]) U.mt i
theorem StU.id {r : Int} {s : S3} {b : List Int} (U : StU r s b) {i : Nat} (h : i < s.1.length) : idOk (s.1.getD i zz3).1 (s.1.getD i zz3).2.1 (s.1.getD i zz3).2.2 = true := ((qm1 _ _ _ U.mesh).2.2.2.1 _ h).2.2
theorem qlm : ∀ (n : Nat) (m t : List Int), qmo m t = true → qmo (m.take n) (t.take n) = true
  | 0, m, t, h => by simp [qmo]
  | n + 1, [], t, h => by simp [qmo]
  | n + 1, x :: m, [], h => by simp [qmo]
  | n + 1, x :: m, y :: t, h => by
    simp only [List.take_succ_cons, qmo, Bool.and_eq_true] at h ⊢
    exact ⟨h.1, h.2.1, qlm n m t h.2.2⟩
theorem qll : ∀ (n : Nat) (m t : List Int), qmo m t = true → qmo (m.drop n) (t.drop n) = true
  | 0, m, t, h => by simpa using h
  | n + 1, [], t, h => by simp [qmo]
  | n + 1, x :: m, [], h => by cases h' : List.drop n m <;> simp [qmo, h']
  | n + 1, x :: m, y :: t, h => by
    simp only [List.drop_succ_cons, qmo, Bool.and_eq_true] at h ⊢
    exact qll n m t h.2.2
theorem qlj : ∀ (m t m' t' : List Int), m.length = t.length → qmo m t = true → qmo m' t' = true → qmo (m ++ m') (t ++ t') = true
  | [], [], m', t', _, _, h => h
  | [], _ :: _, _, _, h, _, _ => by simp at h
  | _ :: _, [], _, _, h, _, _ => by simp at h
  | x :: m, y :: t, m', t', hl, h, h' => by
    simp only [List.cons_append, qmo, Bool.and_eq_true] at h ⊢
    exact ⟨h.1, h.2.1, qlj m t m' t' (by simpa using hl) h.2.2 h'⟩
theorem qlk {x y : Int} {m t : List Int} (h1 : 0 ≤ x ∧ x ≤ 10000000) (h2 : 0 ≤ y ∧ y ≤ 1000 * x) (h : qmo m t = true) : qmo (x :: m) (y :: t) = true := by
  simp only [qmo, Bool.and_eq_true, qjf]; exact ⟨h1, h2, h⟩
theorem qjl {m : List Int} {i : Nat} (h : i < m.length) : isum (m.take i) + m.getD i 0 + isum (m.drop (i + 1)) = isum m := by
  have e := qfe h 0
  have := congrArg isum e
  rw [qjk, isum] at this
  omega
abbrev hA (x : Int) : Int := x - x / 2
abbrev hB (x : Int) : Int := x / 2
theorem hAB {x : Int} (h : 0 ≤ x) : hA x + hB x = x ∧ 0 ≤ hB x ∧ hB x ≤ x ∧ 0 ≤ hA x ∧ hA x ≤ x := by unfold hA hB; omega
def rfM (m : List Int) (i : Nat) : List Int := m.take i ++ hA (m.getD i 0) :: hB (m.getD i 0) :: m.drop (i + 1)
abbrev shr (t m : Int) : Int := qpm t (hA m) m
def rfT (t m : List Int) (i : Nat) : List Int := t.take i ++ shr (t.getD i 0) (m.getD i 0) :: (t.getD i 0 - shr (t.getD i 0) (m.getD i 0)) :: t.drop (i + 1)
def rfS (s : S3) (i : Nat) : S3 := (qp3 s.1 i, rfM s.2.1 i, rfT s.2.2 s.2.1 i)
theorem qpt {t m : Int} (hm : 0 ≤ m ∧ m ≤ 10000000) (ht : 0 ≤ t ∧ t ≤ 1000 * m) : (0 ≤ shr t m ∧ shr t m ≤ 1000 * hA m) ∧ 0 ≤ t - shr t m ∧ t - shr t m ≤ 1000 * hB m := by
  have q := hAB hm.1
  have p1 := (qpo t (hA m) m).1
  have p2 := qpp (t := t) (p := hA m) (m := m) ht.1 (by omega) ht.2
  by_cases h0 : m = 0
  · subst h0
    have : t = 0 := by omega
    subst this
    have p3 : shr 0 0 = 0 := by unfold shr; omega
    rw [p3] at *
    exact ⟨⟨by omega, by omega⟩, by omega, by omega⟩
  · have e : shr t m = (t * hA m) / m := by
      unfold shr qpm
      rw [show inR m 1 10000000 = true from qjf.2 (by omega), show inR (hA m) 0 m = true from qjf.2 (by omega), show inR t 0 (1000 * m) = true from qjf.2 ht]
      simp only [Bool.and_self, qfb]
      exact Int.tdiv_eq_ediv_of_nonneg (Int.mul_nonneg ht.1 (by omega))
    refine ⟨⟨p1, p2⟩, ?_, ?_⟩
    · have : (t * hA m) / m ≤ t := by
        apply Int.ediv_le_of_le_mul (by omega)
        exact Int.mul_le_mul_of_nonneg_left (by omega) ht.1
      omega
    · have hx : t * hB m ≤ 1000 * m * hB m := Int.mul_le_mul_of_nonneg_right ht.2 (by omega)
      have hs : t * hA m + t * hB m = t * m := by rw [← Int.mul_add, q.1]
      have h2 : (t - 1000 * hB m) * m ≤ t * hA m := by
        rw [Int.sub_mul, Int.mul_right_comm 1000 (hB m) m]
        rw [show 1000 * m * hB m = 1000 * m * hB m from rfl] at hx
        omega
      have : t - 1000 * hB m ≤ (t * hA m) / m := (Int.le_ediv_iff_mul_le (by omega)).2 h2
      omega
theorem qoa {m : List Int} {i : Nat} (h : i < m.length) : (rfM m i).length = m.length + 1 := by
  simp only [rfM, List.length_append, List.length_take, List.length_cons, List.length_drop]; omega
theorem qoc {t m : List Int} {i : Nat} (h : i < t.length) : (rfT t m i).length = t.length + 1 := by
  simp only [rfT, List.length_append, List.length_take, List.length_cons, List.length_drop]; omega
theorem qob {m : List Int} {i : Nat} (h : i < m.length) (h0 : 0 ≤ m.getD i 0) : isum (rfM m i) = isum m := by
  have := qjl h; have := hAB h0
  simp only [rfM, qjk, isum]
  omega
theorem qod {t m : List Int} {i : Nat} (h : i < t.length) : isum (rfT t m i) = isum t := by
  have := qjl h
  simp only [rfT, qjk, isum]
  omega
theorem rf_U {r : Int} {s : S3} {b : List Int} (U : StU r s b) {i : Nat} (hi : i < s.1.length) (hl : qla s.1 i < 4) : StU r (rfS s i) b := by
  have a := U.at i; have ml := U.ml; have tl := U.tl; have q := hAB a.1
  have sh := qpt ⟨a.1, a.2.1⟩ ⟨a.2.2.1, a.2.2.2⟩
  refine ⟨qp6 U.mesh hi hl, ?_, ?_, U.bl, ?_, U.bed, ?_⟩
  · show (rfM s.2.1 i).length = (qp3 s.1 i).length
    rw [qoa (by omega), qp4 hi]; omega
  · show (rfT s.2.2 s.2.1 i).length = (qp3 s.1 i).length
    rw [qoc (by omega), qp4 hi]; omega
  · exact qlj _ _ _ _ (by rw [List.length_take, List.length_take]; omega) (qlm i _ _ U.mt) (qlk (by omega) sh.1 (qlk (by omega) sh.2 (qll _ _ _ U.mt)))
  · show isum (rfM s.2.1 i) ≤ _
    rw [qob (by omega) a.1]; exact U.sum
def cmM (m : List Int) (i : Nat) : List Int := m.take i ++ (m.getD i 0 + m.getD (i + 1) 0) :: m.drop (i + 2)
def cmS (s : S3) (i : Nat) : S3 := (qmt s.1 i, cmM s.2.1 i, cmM s.2.2 i)
theorem qe4 {m : List Int} {i : Nat} (h : i + 1 < m.length) : (cmM m i).length + 1 = m.length := by
  simp only [cmM, List.length_append, List.length_take, List.length_cons, List.length_drop]; omega
theorem qjm {m : List Int} {i : Nat} (h : i + 1 < m.length) : isum (m.take i) + m.getD i 0 + m.getD (i + 1) 0 + isum (m.drop (i + 2)) = isum m := by
  have e := qjl (show i < m.length by omega)
  rw [qfo h 0, isum, show i + 1 + 1 = i + 2 from rfl] at e
  omega
theorem qe5 {m : List Int} {i : Nat} (h : i + 1 < m.length) : isum (cmM m i) = isum m := by
  have := qjm h
  simp only [cmM, qjk, isum]
  omega
theorem qjp {m : List Int} (h : ∀ x ∈ m, 0 ≤ x) : 0 ≤ isum m := by
  induction m with
  | nil => simp [isum]
  | cons x m ih => have := h x (by simp); have := ih fun y hy => h y (by simp [hy]); simp only [isum]; omega
theorem cm_U {r : Int} {s : S3} {b : List Int} (U : StU r s b) {i : Nat} (hi : i + 1 < s.1.length) (hs : sib (s.1.getD i zz3) (s.1.getD (i + 1) zz3) = true) : StU r (cmS s i) b := by
  have a := U.at i; have a' := U.at (i + 1); have ml := U.ml; have tl := U.tl
  have mem := qmq _ _ (by rw [ml, tl]) U.mt
  have s1 := qjp (m := s.2.1.take i) fun x hx => (mem.1 x (List.mem_of_mem_take hx)).1
  have s2 := qjp (m := s.2.1.drop (i + 2)) fun x hx => (mem.1 x (List.mem_of_mem_drop hx)).1
  have s3 := qjm (m := s.2.1) (i := i) (by omega)
  have s4 := U.sum
  refine ⟨qmv U.mesh hi hs, ?_, ?_, U.bl, ?_, U.bed, ?_⟩
  · show (cmM s.2.1 i).length = (qmt s.1 i).length
    have h1 := qe4 (m := s.2.1) (i := i) (by omega); have h2 := qmu hi; omega
  · show (cmM s.2.2 i).length = (qmt s.1 i).length
    have h1 := qe4 (m := s.2.2) (i := i) (by omega); have h2 := qmu hi; omega
  · exact qlj _ _ _ _ (by rw [List.length_take, List.length_take]; omega) (qlm i _ _ U.mt) (qlk (by omega) (by omega) (qll _ _ _ U.mt))
  · show isum (cmM s.2.1 i) ≤ _
    rw [qe5 (by omega)]; exact U.sum
def lvS : Nat → S3 → S3
  | 0, s => s
  | n + 1, s => if unb s.1 < 0 then s else lvS n (rfS s (qe6 s.1 (unb s.1).toNat))
theorem qlh {r : Int} {b : List Int} : ∀ (n : Nat) (s : S3), StU r s b → 129 ≤ n + s.1.length → StU r (lvS n s) b ∧ unb (lvS n s).1 < 0
  | 0, s, U, hn => by have := U.len; omega
  | n + 1, s, U, hn => by
    unfold lvS
    by_cases g : unb s.1 < 0
    · rw [if_pos g]; exact ⟨U, g⟩
    · rw [if_neg g]
      obtain ⟨j, e, h1, h2⟩ := qrj (by omega : 0 ≤ unb s.1)
      have c := qe7 U.mesh h1 h2
      rw [e, Int.toNat_natCast]
      exact qlh n _ (rf_U U c.1 c.2) (by show 129 ≤ n + (qp3 s.1 _).length; rw [qp4 c.1]; omega)
def spS (w : List Int) : Nat → S3 → S3
  | 0, s => s
  | n + 1, s => spS w n (if w.getD n 0 = 1 then rfS s n else s)
def mayC (l : List Cell) (i : Nat) : Bool := sib (l.getD i zz3) (l.getD (i + 1) zz3) && ((decide (i = 0) || decide (qla l (i - 1) ≤ qla l i)) && (decide (l.length ≤ i + 2) || decide (qla l (i + 2) ≤ qla l i)))
def mgS (P : Cell → Bool) : Nat → Nat → S3 → S3
  | 0, i, s => s
  | n + 1, i, s => if i + 1 < s.1.length then mgS P n (i + 1) (if (P (s.1.getD i zz3) && (P (s.1.getD (i + 1) zz3) && mayC s.1 i)) = true then cmS s i else s) else s
theorem qp5 {l : List Cell} {i j : Nat} (hi : i < l.length) (h : j < i) : (qp3 l i).getD j zz3 = l.getD j zz3 := by
  unfold qp3
  simp only [List.getD_eq_getElem?_getD]
  rw [List.getElem?_append_left (by rw [List.length_take]; omega), List.getElem?_take, if_pos h]
theorem qpz {r : Int} {b : List Int} (w : List Int) (l0 : List Cell) (hw : ∀ j, w.getD j 0 = 1 → qla l0 j < 4) : ∀ (n : Nat) (s : S3), StU r s b → n ≤ s.1.length → (∀ j, j < n → s.1.getD j zz3 = l0.getD j zz3) → StU r (spS w n s) b
  | 0, s, U, hn, he => U
  | n + 1, s, U, hn, he => by
    unfold spS
    by_cases g : w.getD n 0 = 1
    · rw [if_pos g]
      have hl : qla s.1 n < 4 := by have := hw n g; unfold qla at *; rw [he n (by omega)]; exact this
      exact qpz w l0 hw n _ (rf_U U (by omega) hl) (by show n ≤ (qp3 s.1 n).length; rw [qp4 (by omega)]; omega) fun j hj => by
        show (qp3 s.1 n).getD j zz3 = _
        rw [qp5 (by omega) hj]; exact he j (by omega)
    · rw [if_neg g]
      exact qpz w l0 hw n s U (by omega) fun j hj => he j (by omega)
theorem qm5 {r : Int} {b : List Int} (P : Cell → Bool) : ∀ (n i : Nat) (s : S3), StU r s b → StU r (mgS P n i s) b
  | 0, i, s, U => U
  | n + 1, i, s, U => by
    unfold mgS
    by_cases g : i + 1 < s.1.length
    · rw [if_pos g]
      by_cases h : (P (s.1.getD i zz3) && (P (s.1.getD (i + 1) zz3) && mayC s.1 i)) = true
      · rw [if_pos h]
        simp only [Bool.and_eq_true, mayC] at h
        exact qm5 P n (i + 1) _ (cm_U U g h.2.2.1)
      · rw [if_neg h]; exact qm5 P n (i + 1) s U
    · rw [if_neg g]; exact U
theorem qmw {l : List Cell} {i : Nat} (hi : i + 1 < l.length) (hu : unb l < 0) (hm : mayC l i = true) (h1 : 1 ≤ qla l i) : unb (qmt l i) < 0 := by
  have ml := qmu hi
  simp only [mayC, Bool.and_eq_true, Bool.or_eq_true, decide_eq_true_eq, sib] at hm
  obtain ⟨⟨_, _, _, hlev, _⟩, hlo, hhi⟩ := hm
  rw [qrk] at hu ⊢
  have lv : ∀ j, qla (qmt l i) j = if j < i then qla l j else if j = i then qla l i - 1 else qla l (j + 1) := fun j => by
    unfold qmt qla
    simp only [List.getD_eq_getElem?_getD]
    by_cases g : j < i
    · rw [if_pos g, List.getElem?_append_left (by rw [List.length_take]; omega), List.getElem?_take, if_pos g]
    · rw [if_neg g, List.getElem?_append_right (by rw [List.length_take]; omega), List.length_take, Nat.min_eq_left (by omega)]
      by_cases g2 : j = i
      · subst g2; rw [if_pos rfl, Nat.sub_self]; simp [par]
      · rw [if_neg g2, show j - i = (j - i - 1) + 1 by omega, List.getElem?_cons_succ, List.getElem?_drop]
        congr 4; omega
  intro j hj
  have hj' : j + 1 < l.length - 1 := by omega
  rw [lv, lv]
  have hu1 := fun q (hq : q + 1 < l.length) => hu q hq
  have hle : qla l i = qla l (i + 1) := hlev
  by_cases g : j + 1 < i
  · rw [if_pos (by omega), if_pos g]; exact hu j (by omega)
  by_cases g1 : j + 1 = i
  · rw [if_pos (by omega), if_neg (by omega), if_pos g1]
    have := hu j (by omega)
    rw [g1] at this
    rcases hlo with h | h
    · omega
    · rw [show i - 1 = j by omega] at h; omega
  by_cases g2 : j = i
  · subst g2
    rw [if_neg (by omega), if_pos rfl, if_neg (by omega), if_neg (by omega)]
    have := hu (j + 1) (by omega)
    rcases hhi with h | h
    · omega
    · rw [show j + 1 + 1 = j + 2 by omega] at *; omega
  · rw [if_neg (by omega), if_neg (by omega), if_neg (by omega), if_neg (by omega)]; exact hu (j + 1) (by omega)
theorem qpu {a b : Cell} (h : sib a b = true) : 1 ≤ a.2.1 := by
  simp only [sib, Bool.and_eq_true, decide_eq_true_eq] at h
  obtain ⟨h1, h2, h3, h4, h5, h6⟩ := h
  rw [← h3, ← h4, h6] at h2
  exact (qnt h1 h2 h5).1
theorem qm7 (P : Cell → Bool) : ∀ (n i : Nat) (s : S3), unb s.1 < 0 → unb (mgS P n i s).1 < 0
  | 0, i, s, U => U
  | n + 1, i, s, U => by
    unfold mgS
    by_cases g : i + 1 < s.1.length
    · rw [if_pos g]
      by_cases h : (P (s.1.getD i zz3) && (P (s.1.getD (i + 1) zz3) && mayC s.1 i)) = true
      · rw [if_pos h]
        simp only [Bool.and_eq_true] at h
        have h2 := h.2.2
        simp only [mayC, Bool.and_eq_true] at h2
        exact qm7 P n (i + 1) _ (qmw g U h.2.2 (qpu h2.1))
      · rw [if_neg h]; exact qm7 P n (i + 1) s U
    · rw [if_neg g]; exact U
end Go.Proofs.YtjfjniebmdafeaaGreatDoor
end
section
namespace Go.Proofs.YtjfjniebmdafeaaGreatDoor
open Go.Ev
theorem qh8 (k : Nat) (a b c d e f : Int) : go (k + 1) spec_l09Pair [(.int .i64 (a)), (.int .i64 (b)), (.int .i64 (c)), (.int .i64 (d)), (.int .i64 (e)), (.int .i64 (f))] =
 (go k spec_WidthOf [(.int .i64 (if f > e then f else e))]).bind fun r0 =>
 (go k spec_WidthOf [(.int .i64 (e))]).bind fun r1 =>
 (go k spec_WidthOf [(.int .i64 (f))]).bind fun r2 =>
 (go k spec_DivTrunc [(.int .i64 (IntKind.wrap .i64 (IntKind.wrap .i64 (a - b) * D.toInt (nth r0 0)))), (.int .i64 (IntKind.wrap .i64 ((32 : Int) * IntKind.wrap .i64 (D.toInt (nth r1 0) + D.toInt (nth r2 0)))))]).bind fun r3 =>
 some [(.int .i64 (if IntKind.wrap .i64 ((0 : Int) - IntKind.wrap .i64 (Int.tdiv d (4 : Int))) > if IntKind.wrap .i64 (Int.tdiv c (4 : Int)) < D.toInt (nth r3 0) then IntKind.wrap .i64 (Int.tdiv c (4 : Int)) else D.toInt (nth r3 0) then IntKind.wrap .i64 ((0 : Int) - IntKind.wrap .i64 (Int.tdiv d (4 : Int))) else if IntKind.wrap .i64 (Int.tdiv c (4 : Int)) < D.toInt (nth r3 0) then IntKind.wrap .i64 (Int.tdiv c (4 : Int)) else D.toInt (nth r3 0)))] := by kernel_rfl
theorem qh6 (k : Nat) (a0 : Int) (a1z : Bool) (a1 : List (Int × Int × Int)) (a2z : Bool) (a2 : List Int) (a3z : Bool) (a3 : List Int) (a4z : Bool) (a4 : List Int) (b : Int) : go (k + 1) spec_l09Flux [(.agg [(.int .i64 (a0)), (.arr false (a1z) (.r3 (a1))), (.arr false (a2z) (.ints .i64 (a2))), (.arr false (a3z) (.ints .i64 (a3))), (.arr false (a4z) (.ints .i64 (a4)))]), (.int .i64 (b))] =
 (go k spec_l09Surface [(.agg [(.int .i64 (a0)), (.arr false (a1z) (.r3 (a1))), (.arr false (a2z) (.ints .i64 (a2))), (.arr false (a3z) (.ints .i64 (a3))), (.arr false (a4z) (.ints .i64 (a4)))]), (.int .i64 (b))]).bind fun r0 =>
 (go k spec_l09Surface [(.agg [(.int .i64 (a0)), (.arr false (a1z) (.r3 (a1))), (.arr false (a2z) (.ints .i64 (a2))), (.arr false (a3z) (.ints .i64 (a3))), (.arr false (a4z) (.ints .i64 (a4)))]), (.int .i64 (IntKind.wrap .i64 (b + (1 : Int))))]).bind fun r1 =>
 cond (decide ((0 : Int) ≤ b) && decide (b < nI (List.length a2)))
 (cond (decide ((0 : Int) ≤ IntKind.wrap .i64 (b + (1 : Int))) && decide (IntKind.wrap .i64 (b + (1 : Int)) < nI (List.length a2)))
 (cond (decide ((0 : Int) ≤ b) && decide (b < nI (List.length a1)))
 (cond (decide ((0 : Int) ≤ IntKind.wrap .i64 (b + (1 : Int))) && decide (IntKind.wrap .i64 (b + (1 : Int)) < nI (List.length a1)))
 ((go k spec_l09Pair [(.int .i64 (D.toInt (nth r0 0))), (.int .i64 (D.toInt (nth r1 0))), (.int .i64 (List.getD a2 (Int.toNat b) (0 : Int))), (.int .i64 (List.getD a2 (Int.toNat (IntKind.wrap .i64 (b + (1 : Int)))) (0 : Int))), (.int .i64 (Prod.fst (Prod.snd (List.getD a1 (Int.toNat b) zz3)))), (.int .i64 (Prod.fst (Prod.snd (List.getD a1 (Int.toNat (IntKind.wrap .i64 (b + (1 : Int)))) zz3))))]).bind fun r2 =>
 some [(.int .i64 (D.toInt (nth r2 0)))])
 (none))
 (none))
 (none))
 (none) := by kernel_rfl
theorem qg7 (k : Nat) (a b c d : Int) : go (k + 1) spec_LeafOut [(.int .i64 (a)), (.int .i64 (b)), (.int .i64 (c)), (.int .i64 (d))] =
 (go k spec_l01In [(.int .i64 (b)), (.int .i64 ((1 : Int))), (.int .i64 ((10000000 : Int)))]).bind fun r0 =>
 cond (!bit (nth r0 0))
 (some [(.int .i64 (0 : Int)), (.int .i64 (0 : Int))])
 ((go k spec_l01In [(.int .i64 (a)), (.int .i64 (0 : Int)), (.int .i64 (IntKind.wrap .i64 ((1000 : Int) * b)))]).bind fun r1 =>
 cond (!bit (nth r1 0))
 (some [(.int .i64 (0 : Int)), (.int .i64 (0 : Int))])
 ((go k spec_l01In [(.int .i64 (c)), (.int .i64 (0 : Int)), (.int .i64 (b))]).bind fun r2 =>
 cond (!bit (nth r2 0))
 (some [(.int .i64 (0 : Int)), (.int .i64 (0 : Int))])
 ((go k spec_l01In [(.int .i64 (d)), (.int .i64 (0 : Int)), (.int .i64 (IntKind.wrap .i64 (b - c)))]).bind fun r3 =>
 cond (!bit (nth r3 0))
 (some [(.int .i64 (0 : Int)), (.int .i64 (0 : Int))])
 ((go k spec_ShareOut [(.int .i64 (a)), (.int .i64 (c)), (.int .i64 (b))]).bind fun r4 =>
 (go k spec_ShareOut [(.int .i64 (a)), (.int .i64 (IntKind.wrap .i64 (c + d))), (.int .i64 (b))]).bind fun r5 =>
 some [(.int .i64 (D.toInt (nth r4 0))), (.int .i64 (IntKind.wrap .i64 (D.toInt (nth r5 0) - D.toInt (nth r4 0))))])))) := by kernel_rfl
theorem qhc (k : Nat) (a b c : Int) : go (k + 1) spec_ShareOut [(.int .i64 (a)), (.int .i64 (b)), (.int .i64 (c))] =
 (go k spec_l01In [(.int .i64 (c)), (.int .i64 ((1 : Int))), (.int .i64 ((10000000 : Int)))]).bind fun r0 =>
 cond (!bit (nth r0 0))
 (some [(.int .i64 (0 : Int))])
 ((go k spec_l01In [(.int .i64 (b)), (.int .i64 (0 : Int)), (.int .i64 (c))]).bind fun r1 =>
 cond (!bit (nth r1 0))
 (some [(.int .i64 (0 : Int))])
 ((go k spec_l01In [(.int .i64 (a)), (.int .i64 (0 : Int)), (.int .i64 (IntKind.wrap .i64 ((1000 : Int) * c)))]).bind fun r2 =>
 cond (!bit (nth r2 0))
 (some [(.int .i64 (0 : Int))])
 (cond (!decide (c = (0 : Int)))
 (some [(.int .i64 (IntKind.wrap .i64 (Int.tdiv (IntKind.wrap .i64 (a * b)) c)))])
 (none)))) := by kernel_rfl
theorem qgx (k : Nat) (a b : Int) : go (k + 1) spec_DivTrunc [(.int .i64 (a)), (.int .i64 (b))] =
 cond (decide (b ≤ (0 : Int)))
 (some [(.int .i64 (0 : Int))])
 (cond (!decide (b = (0 : Int)))
 (some [(.int .i64 (IntKind.wrap .i64 (Int.tdiv a b)))])
 (none)) := by kernel_rfl
def qpa (x0 : Int) (z1 : Bool) (l2 : List (Int × Int × Int)) (z3 : Bool) (l4 : List Int) (z5 : Bool) (l6 : List Int) (z7 : Bool) (l8 : List Int) (x9 : Int) (z10 : Bool) (l11 : List (Int × Int × Int)) (z12 : Bool) (l13 : List Int) (z14 : Bool) (l15 : List Int) (z16 : Bool) (l17 : List Int) (x18 : Int) (z19 : Bool) (l20 : List (Int × Int × Int)) (z21 : Bool) (l22 : List Int) (z23 : Bool) (l24 : List Int) (z25 : Bool) (l26 : List Int) (x27 : Int) (z28 : Bool) (l29 : List Int) : St := ⟨fill 151 [(2, (.ptr 4 (0) (0))), (4, (.ptr 9 (0) (0))), (5, (.ptr 14 (0) (0))), (6, (.sl 15 none)), (8, (.int .i64 (x0)))], [], [(.arr false (z1) (.r3 (l2))), (.arr false (z3) (.ints .i64 (l4))), (.arr false (z5) (.ints .i64 (l6))), (.arr false (z7) (.ints .i64 (l8))), (.box true [(.int .i64 (x9)), (.sl 0 none), (.sl 1 none), (.sl 2 none), (.sl 3 none)]), (.arr true (z10) (.r3 (l11))), (.arr true (z12) (.ints .i64 (l13))), (.arr true (z14) (.ints .i64 (l15))), (.arr true (z16) (.ints .i64 (l17))), (.box true [(.int .i64 (x18)), (.sl 5 none), (.sl 6 none), (.sl 7 none), (.sl 8 none)]), (.arr true (z19) (.r3 (l20))), (.arr true (z21) (.ints .i64 (l22))), (.arr true (z23) (.ints .i64 (l24))), (.arr true (z25) (.ints .i64 (l26))), (.box true [(.int .i64 (x27)), (.sl 10 none), (.sl 11 none), (.sl 12 none), (.sl 13 none)]), (.arr true (z28) (.ints .i64 (l29)))]⟩
def qpb (x0 x1 : Int) (z2 : Bool) (l3 : List (Int × Int × Int)) (z4 : Bool) (l5 : List Int) (z6 : Bool) (l7 : List Int) (z8 : Bool) (l9 : List Int) (x10 : Int) (z11 : Bool) (l12 : List (Int × Int × Int)) (z13 : Bool) (l14 : List Int) (z15 : Bool) (l16 : List Int) (z17 : Bool) (l18 : List Int) (x19 : Int) (z20 : Bool) (l21 : List (Int × Int × Int)) (z22 : Bool) (l23 : List Int) (z24 : Bool) (l25 : List Int) (z26 : Bool) (l27 : List Int) (x28 : Int) (z29 : Bool) (l30 : List Int) : St := ⟨fill 151 [(1, (.int .i64 (x0))), (2, (.ptr 4 (0) (0))), (4, (.ptr 9 (0) (0))), (5, (.ptr 14 (0) (0))), (6, (.sl 15 none)), (7, (.int .i64 (x1)))], [], [(.arr false (z2) (.r3 (l3))), (.arr false (z4) (.ints .i64 (l5))), (.arr false (z6) (.ints .i64 (l7))), (.arr false (z8) (.ints .i64 (l9))), (.box true [(.int .i64 (x10)), (.sl 0 none), (.sl 1 none), (.sl 2 none), (.sl 3 none)]), (.arr true (z11) (.r3 (l12))), (.arr true (z13) (.ints .i64 (l14))), (.arr true (z15) (.ints .i64 (l16))), (.arr true (z17) (.ints .i64 (l18))), (.box true [(.int .i64 (x19)), (.sl 5 none), (.sl 6 none), (.sl 7 none), (.sl 8 none)]), (.arr true (z20) (.r3 (l21))), (.arr true (z22) (.ints .i64 (l23))), (.arr true (z24) (.ints .i64 (l25))), (.arr true (z26) (.ints .i64 (l27))), (.box true [(.int .i64 (x28)), (.sl 10 none), (.sl 11 none), (.sl 12 none), (.sl 13 none)]), (.arr true (z29) (.ints .i64 (l30)))]⟩
theorem qia (k : Nat) (a0 : Int) (a1z : Bool) (a1 : List (Int × Int × Int)) (a2z : Bool) (a2 : List Int) (a3z : Bool) (a3 : List Int) (a4z : Bool) (a4 : List Int) (b : Int) : go (k + 1) spec_l11Step [(.agg [(.int .i64 (a0)), (.arr false (a1z) (.r3 (a1))), (.arr false (a2z) (.ints .i64 (a2))), (.arr false (a3z) (.ints .i64 (a3))), (.arr false (a4z) (.ints .i64 (a4)))]), (.int .i64 (b))] =
 (go k spec_l07Copy [(.agg [(.int .i64 (a0)), (.arr false (a1z) (.r3 (a1))), (.arr false (a2z) (.ints .i64 (a2))), (.arr false (a3z) (.ints .i64 (a3))), (.arr false (a4z) (.ints .i64 (a4)))])]).bind fun r0 =>
 cond (decide ((0 : Int) ≤ nI (List.length a2)) && decide (nI (List.length a2) ≤ nI (List.length a2)) && decide (nI (List.length a2) ≤ nI bigLen))
 (lp k spec_l11Step [] [] 4 k (qpb b (0 : Int) a1z a1 a2z a2 a3z a3 a4z a4 a0 true ([]) true ([]) true ([]) true ([]) (0 : Int) (D.nil (D.cell 1 (nth r0 0))) (D.r3 (D.cell 1 (nth r0 0))) (D.nil (D.cell 2 (nth r0 0))) (D.ints (D.cell 2 (nth r0 0))) (D.nil (D.cell 3 (nth r0 0))) (D.ints (D.cell 3 (nth r0 0))) (D.nil (D.cell 4 (nth r0 0))) (D.ints (D.cell 4 (nth r0 0))) (D.toInt (D.cell 0 (nth r0 0))) false (List.replicate (Int.toNat (nI (List.length a2))) (0 : Int))))
 (none) := by kernel_rfl
theorem qkt (k n : Nat) (fu : List (Nat × Nat)) (x0 : Int) (z1 : Bool) (l2 : List (Int × Int × Int)) (z3 : Bool) (l4 : List Int) (z5 : Bool) (l6 : List Int) (z7 : Bool) (l8 : List Int) (x9 : Int) (z10 : Bool) (l11 : List (Int × Int × Int)) (z12 : Bool) (l13 : List Int) (z14 : Bool) (l15 : List Int) (z16 : Bool) (l17 : List Int) (x18 : Int) (z19 : Bool) (l20 : List (Int × Int × Int)) (z21 : Bool) (l22 : List Int) (z23 : Bool) (l24 : List Int) (z25 : Bool) (l26 : List Int) (x27 : Int) (z28 : Bool) (l29 : List Int) : lp k spec_l11Step [] fu 11 (n + 1) (qpa x0 z1 l2 z3 l4 z5 l6 z7 l8 x9 z10 l11 z12 l13 z14 l15 z16 l17 x18 z19 l20 z21 l22 z23 l24 z25 l26 x27 z28 l29) =
 cond (decide (x0 < nI (List.length l4)))
 (cond (decide ((0 : Int) ≤ x0) && decide (x0 < nI (List.length l29)))
 (cond (decide ((0 : Int) < x0))
 (cond (decide ((0 : Int) ≤ IntKind.wrap .i64 (x0 - (1 : Int))) && decide (IntKind.wrap .i64 (x0 - (1 : Int)) < nI (List.length l29)))
 (cond (decide ((0 : Int) ≤ x0) && decide (x0 < nI (List.length l6)))
 (cond (decide ((0 : Int) ≤ x0) && decide (x0 < nI (List.length l4)))
 ((go k spec_LeafOut [(.int .i64 (List.getD l6 (Int.toNat x0) (0 : Int))), (.int .i64 (List.getD l4 (Int.toNat x0) (0 : Int))), (.int .i64 (if (0 : Int) > List.getD l29 (Int.toNat x0) (0 : Int) then (0 : Int) else List.getD l29 (Int.toNat x0) (0 : Int))), (.int .i64 (if (0 : Int) > IntKind.wrap .i64 ((0 : Int) - List.getD l29 (Int.toNat (IntKind.wrap .i64 (x0 - (1 : Int)))) (0 : Int)) then (0 : Int) else IntKind.wrap .i64 ((0 : Int) - List.getD l29 (Int.toNat (IntKind.wrap .i64 (x0 - (1 : Int)))) (0 : Int))))]).bind fun r0 =>
 cond (decide ((0 : Int) ≤ x0) && decide (x0 < nI (List.length l24)))
 (cond (decide ((0 : Int) ≤ x0) && decide (x0 < nI (List.length l24)))
 (cond (decide ((0 : Int) < if (0 : Int) > List.getD l29 (Int.toNat x0) (0 : Int) then (0 : Int) else List.getD l29 (Int.toNat x0) (0 : Int)))
 (cond (decide ((0 : Int) ≤ IntKind.wrap .i64 (x0 + (1 : Int))) && decide (IntKind.wrap .i64 (x0 + (1 : Int)) < nI (List.length (List.set l24 (Int.toNat x0) (IntKind.wrap .i64 (IntKind.wrap .i64 (List.getD l24 (Int.toNat x0) (0 : Int) - D.toInt (nth r0 0)) - D.toInt (nth r0 1)))))))
 (cond (decide ((0 : Int) ≤ IntKind.wrap .i64 (x0 + (1 : Int))) && decide (IntKind.wrap .i64 (x0 + (1 : Int)) < nI (List.length (List.set l24 (Int.toNat x0) (IntKind.wrap .i64 (IntKind.wrap .i64 (List.getD l24 (Int.toNat x0) (0 : Int) - D.toInt (nth r0 0)) - D.toInt (nth r0 1)))))))
 (cond (decide ((0 : Int) < if (0 : Int) > IntKind.wrap .i64 ((0 : Int) - List.getD l29 (Int.toNat (IntKind.wrap .i64 (x0 - (1 : Int)))) (0 : Int)) then (0 : Int) else IntKind.wrap .i64 ((0 : Int) - List.getD l29 (Int.toNat (IntKind.wrap .i64 (x0 - (1 : Int)))) (0 : Int))))
 (cond (decide ((0 : Int) ≤ IntKind.wrap .i64 (x0 - (1 : Int))) && decide (IntKind.wrap .i64 (x0 - (1 : Int)) < nI (List.length (List.set (List.set l24 (Int.toNat x0) (IntKind.wrap .i64 (IntKind.wrap .i64 (List.getD l24 (Int.toNat x0) (0 : Int) - D.toInt (nth r0 0)) - D.toInt (nth r0 1)))) (Int.toNat (IntKind.wrap .i64 (x0 + (1 : Int)))) (IntKind.wrap .i64 (List.getD (List.set l24 (Int.toNat x0) (IntKind.wrap .i64 (IntKind.wrap .i64 (List.getD l24 (Int.toNat x0) (0 : Int) - D.toInt (nth r0 0)) - D.toInt (nth r0 1)))) (Int.toNat (IntKind.wrap .i64 (x0 + (1 : Int)))) (0 : Int) + D.toInt (nth r0 0)))))))
 (cond (decide ((0 : Int) ≤ IntKind.wrap .i64 (x0 - (1 : Int))) && decide (IntKind.wrap .i64 (x0 - (1 : Int)) < nI (List.length (List.set (List.set l24 (Int.toNat x0) (IntKind.wrap .i64 (IntKind.wrap .i64 (List.getD l24 (Int.toNat x0) (0 : Int) - D.toInt (nth r0 0)) - D.toInt (nth r0 1)))) (Int.toNat (IntKind.wrap .i64 (x0 + (1 : Int)))) (IntKind.wrap .i64 (List.getD (List.set l24 (Int.toNat x0) (IntKind.wrap .i64 (IntKind.wrap .i64 (List.getD l24 (Int.toNat x0) (0 : Int) - D.toInt (nth r0 0)) - D.toInt (nth r0 1)))) (Int.toNat (IntKind.wrap .i64 (x0 + (1 : Int)))) (0 : Int) + D.toInt (nth r0 0)))))))
 (lp k spec_l11Step [] fu 11 n (qpa (IntKind.wrap .i64 (x0 + (1 : Int))) z1 l2 z3 l4 z5 l6 z7 l8 x9 z10 l11 z12 l13 z14 l15 z16 l17 x18 z19 l20 z21 l22 z23 (List.set (List.set (List.set l24 (Int.toNat x0) (IntKind.wrap .i64 (IntKind.wrap .i64 (List.getD l24 (Int.toNat x0) (0 : Int) - D.toInt (nth r0 0)) - D.toInt (nth r0 1)))) (Int.toNat (IntKind.wrap .i64 (x0 + (1 : Int)))) (IntKind.wrap .i64 (List.getD (List.set l24 (Int.toNat x0) (IntKind.wrap .i64 (IntKind.wrap .i64 (List.getD l24 (Int.toNat x0) (0 : Int) - D.toInt (nth r0 0)) - D.toInt (nth r0 1)))) (Int.toNat (IntKind.wrap .i64 (x0 + (1 : Int)))) (0 : Int) + D.toInt (nth r0 0)))) (Int.toNat (IntKind.wrap .i64 (x0 - (1 : Int)))) (IntKind.wrap .i64 (List.getD (List.set (List.set l24 (Int.toNat x0) (IntKind.wrap .i64 (IntKind.wrap .i64 (List.getD l24 (Int.toNat x0) (0 : Int) - D.toInt (nth r0 0)) - D.toInt (nth r0 1)))) (Int.toNat (IntKind.wrap .i64 (x0 + (1 : Int)))) (IntKind.wrap .i64 (List.getD (List.set l24 (Int.toNat x0) (IntKind.wrap .i64 (IntKind.wrap .i64 (List.getD l24 (Int.toNat x0) (0 : Int) - D.toInt (nth r0 0)) - D.toInt (nth r0 1)))) (Int.toNat (IntKind.wrap .i64 (x0 + (1 : Int)))) (0 : Int) + D.toInt (nth r0 0)))) (Int.toNat (IntKind.wrap .i64 (x0 - (1 : Int)))) (0 : Int) + D.toInt (nth r0 1)))) z25 l26 x27 z28 l29))
 (none))
 (none))
 (lp k spec_l11Step [] fu 11 n (qpa (IntKind.wrap .i64 (x0 + (1 : Int))) z1 l2 z3 l4 z5 l6 z7 l8 x9 z10 l11 z12 l13 z14 l15 z16 l17 x18 z19 l20 z21 l22 z23 (List.set (List.set l24 (Int.toNat x0) (IntKind.wrap .i64 (IntKind.wrap .i64 (List.getD l24 (Int.toNat x0) (0 : Int) - D.toInt (nth r0 0)) - D.toInt (nth r0 1)))) (Int.toNat (IntKind.wrap .i64 (x0 + (1 : Int)))) (IntKind.wrap .i64 (List.getD (List.set l24 (Int.toNat x0) (IntKind.wrap .i64 (IntKind.wrap .i64 (List.getD l24 (Int.toNat x0) (0 : Int) - D.toInt (nth r0 0)) - D.toInt (nth r0 1)))) (Int.toNat (IntKind.wrap .i64 (x0 + (1 : Int)))) (0 : Int) + D.toInt (nth r0 0)))) z25 l26 x27 z28 l29)))
 (none))
 (none))
 (cond (decide ((0 : Int) < if (0 : Int) > IntKind.wrap .i64 ((0 : Int) - List.getD l29 (Int.toNat (IntKind.wrap .i64 (x0 - (1 : Int)))) (0 : Int)) then (0 : Int) else IntKind.wrap .i64 ((0 : Int) - List.getD l29 (Int.toNat (IntKind.wrap .i64 (x0 - (1 : Int)))) (0 : Int))))
 (cond (decide ((0 : Int) ≤ IntKind.wrap .i64 (x0 - (1 : Int))) && decide (IntKind.wrap .i64 (x0 - (1 : Int)) < nI (List.length (List.set l24 (Int.toNat x0) (IntKind.wrap .i64 (IntKind.wrap .i64 (List.getD l24 (Int.toNat x0) (0 : Int) - D.toInt (nth r0 0)) - D.toInt (nth r0 1)))))))
 (cond (decide ((0 : Int) ≤ IntKind.wrap .i64 (x0 - (1 : Int))) && decide (IntKind.wrap .i64 (x0 - (1 : Int)) < nI (List.length (List.set l24 (Int.toNat x0) (IntKind.wrap .i64 (IntKind.wrap .i64 (List.getD l24 (Int.toNat x0) (0 : Int) - D.toInt (nth r0 0)) - D.toInt (nth r0 1)))))))
 (lp k spec_l11Step [] fu 11 n (qpa (IntKind.wrap .i64 (x0 + (1 : Int))) z1 l2 z3 l4 z5 l6 z7 l8 x9 z10 l11 z12 l13 z14 l15 z16 l17 x18 z19 l20 z21 l22 z23 (List.set (List.set l24 (Int.toNat x0) (IntKind.wrap .i64 (IntKind.wrap .i64 (List.getD l24 (Int.toNat x0) (0 : Int) - D.toInt (nth r0 0)) - D.toInt (nth r0 1)))) (Int.toNat (IntKind.wrap .i64 (x0 - (1 : Int)))) (IntKind.wrap .i64 (List.getD (List.set l24 (Int.toNat x0) (IntKind.wrap .i64 (IntKind.wrap .i64 (List.getD l24 (Int.toNat x0) (0 : Int) - D.toInt (nth r0 0)) - D.toInt (nth r0 1)))) (Int.toNat (IntKind.wrap .i64 (x0 - (1 : Int)))) (0 : Int) + D.toInt (nth r0 1)))) z25 l26 x27 z28 l29))
 (none))
 (none))
 (lp k spec_l11Step [] fu 11 n (qpa (IntKind.wrap .i64 (x0 + (1 : Int))) z1 l2 z3 l4 z5 l6 z7 l8 x9 z10 l11 z12 l13 z14 l15 z16 l17 x18 z19 l20 z21 l22 z23 (List.set l24 (Int.toNat x0) (IntKind.wrap .i64 (IntKind.wrap .i64 (List.getD l24 (Int.toNat x0) (0 : Int) - D.toInt (nth r0 0)) - D.toInt (nth r0 1)))) z25 l26 x27 z28 l29))))
 (none))
 (none))
 (none))
 (none))
 (none))
 (cond (decide ((0 : Int) ≤ x0) && decide (x0 < nI (List.length l6)))
 (cond (decide ((0 : Int) ≤ x0) && decide (x0 < nI (List.length l4)))
 ((go k spec_LeafOut [(.int .i64 (List.getD l6 (Int.toNat x0) (0 : Int))), (.int .i64 (List.getD l4 (Int.toNat x0) (0 : Int))), (.int .i64 (if (0 : Int) > List.getD l29 (Int.toNat x0) (0 : Int) then (0 : Int) else List.getD l29 (Int.toNat x0) (0 : Int))), (.int .i64 (0 : Int))]).bind fun r1 =>
 cond (decide ((0 : Int) ≤ x0) && decide (x0 < nI (List.length l24)))
 (cond (decide ((0 : Int) ≤ x0) && decide (x0 < nI (List.length l24)))
 (cond (decide ((0 : Int) < if (0 : Int) > List.getD l29 (Int.toNat x0) (0 : Int) then (0 : Int) else List.getD l29 (Int.toNat x0) (0 : Int)))
 (cond (decide ((0 : Int) ≤ IntKind.wrap .i64 (x0 + (1 : Int))) && decide (IntKind.wrap .i64 (x0 + (1 : Int)) < nI (List.length (List.set l24 (Int.toNat x0) (IntKind.wrap .i64 (IntKind.wrap .i64 (List.getD l24 (Int.toNat x0) (0 : Int) - D.toInt (nth r1 0)) - D.toInt (nth r1 1)))))))
 (cond (decide ((0 : Int) ≤ IntKind.wrap .i64 (x0 + (1 : Int))) && decide (IntKind.wrap .i64 (x0 + (1 : Int)) < nI (List.length (List.set l24 (Int.toNat x0) (IntKind.wrap .i64 (IntKind.wrap .i64 (List.getD l24 (Int.toNat x0) (0 : Int) - D.toInt (nth r1 0)) - D.toInt (nth r1 1)))))))
 (lp k spec_l11Step [] fu 11 n (qpa (IntKind.wrap .i64 (x0 + (1 : Int))) z1 l2 z3 l4 z5 l6 z7 l8 x9 z10 l11 z12 l13 z14 l15 z16 l17 x18 z19 l20 z21 l22 z23 (List.set (List.set l24 (Int.toNat x0) (IntKind.wrap .i64 (IntKind.wrap .i64 (List.getD l24 (Int.toNat x0) (0 : Int) - D.toInt (nth r1 0)) - D.toInt (nth r1 1)))) (Int.toNat (IntKind.wrap .i64 (x0 + (1 : Int)))) (IntKind.wrap .i64 (List.getD (List.set l24 (Int.toNat x0) (IntKind.wrap .i64 (IntKind.wrap .i64 (List.getD l24 (Int.toNat x0) (0 : Int) - D.toInt (nth r1 0)) - D.toInt (nth r1 1)))) (Int.toNat (IntKind.wrap .i64 (x0 + (1 : Int)))) (0 : Int) + D.toInt (nth r1 0)))) z25 l26 x27 z28 l29))
 (none))
 (none))
 (lp k spec_l11Step [] fu 11 n (qpa (IntKind.wrap .i64 (x0 + (1 : Int))) z1 l2 z3 l4 z5 l6 z7 l8 x9 z10 l11 z12 l13 z14 l15 z16 l17 x18 z19 l20 z21 l22 z23 (List.set l24 (Int.toNat x0) (IntKind.wrap .i64 (IntKind.wrap .i64 (List.getD l24 (Int.toNat x0) (0 : Int) - D.toInt (nth r1 0)) - D.toInt (nth r1 1)))) z25 l26 x27 z28 l29)))
 (none))
 (none))
 (none))
 (none)))
 (none))
 (some [(.agg [(.int .i64 (x27)), (.arr true (z19) (.r3 (l20))), (.arr true (z21) (.ints .i64 (l22))), (.arr true (z23) (.ints .i64 (l24))), (.arr true (z25) (.ints .i64 (l26)))])]) := by kernel_rfl
theorem qku (k n : Nat) (fu : List (Nat × Nat)) (x0 x1 : Int) (z2 : Bool) (l3 : List (Int × Int × Int)) (z4 : Bool) (l5 : List Int) (z6 : Bool) (l7 : List Int) (z8 : Bool) (l9 : List Int) (x10 : Int) (z11 : Bool) (l12 : List (Int × Int × Int)) (z13 : Bool) (l14 : List Int) (z15 : Bool) (l16 : List Int) (z17 : Bool) (l18 : List Int) (x19 : Int) (z20 : Bool) (l21 : List (Int × Int × Int)) (z22 : Bool) (l23 : List Int) (z24 : Bool) (l25 : List Int) (z26 : Bool) (l27 : List Int) (x28 : Int) (z29 : Bool) (l30 : List Int) : lp k spec_l11Step [] fu 4 (n + 1) (qpb x0 x1 z2 l3 z4 l5 z6 l7 z8 l9 x10 z11 l12 z13 l14 z15 l16 z17 l18 x19 z20 l21 z22 l23 z24 l25 z26 l27 x28 z29 l30) =
 cond (decide (IntKind.wrap .i64 (x1 + (1 : Int)) < nI (List.length l5)))
 ((go k spec_l05Face [(.agg [(.int .i64 (x10)), (.arr false (z2) (.r3 (l3)))]), (.int .i64 (x1))]).bind fun r0 =>
 (go k spec_IsActive [(.int .i64 (x0)), (.int .i64 (D.toInt (nth r0 0)))]).bind fun r1 =>
 cond (!bit (nth r1 0))
 (lp k spec_l11Step [] fu 4 n (qpb x0 (IntKind.wrap .i64 (x1 + (1 : Int))) z2 l3 z4 l5 z6 l7 z8 l9 x10 z11 l12 z13 l14 z15 l16 z17 l18 x19 z20 l21 z22 l23 z24 l25 z26 l27 x28 z29 l30))
 ((go k spec_l09Flux [(.agg [(.int .i64 (x10)), (.arr false (z2) (.r3 (l3))), (.arr false (z4) (.ints .i64 (l5))), (.arr false (z6) (.ints .i64 (l7))), (.arr false (z8) (.ints .i64 (l9)))]), (.int .i64 (x1))]).bind fun r2 =>
 cond (decide ((0 : Int) ≤ x1) && decide (x1 < nI (List.length l30)))
 (cond (decide ((0 : Int) ≤ x1) && decide (x1 < nI (List.length l23)))
 (cond (decide ((0 : Int) ≤ x1) && decide (x1 < nI (List.length (List.set l30 (Int.toNat x1) (D.toInt (nth r2 0))))))
 (cond (decide ((0 : Int) ≤ x1) && decide (x1 < nI (List.length l23)))
 (cond (decide ((0 : Int) ≤ IntKind.wrap .i64 (x1 + (1 : Int))) && decide (IntKind.wrap .i64 (x1 + (1 : Int)) < nI (List.length (List.set l23 (Int.toNat x1) (IntKind.wrap .i64 (List.getD l23 (Int.toNat x1) (0 : Int) - List.getD (List.set l30 (Int.toNat x1) (D.toInt (nth r2 0))) (Int.toNat x1) (0 : Int)))))))
 (cond (decide ((0 : Int) ≤ x1) && decide (x1 < nI (List.length (List.set l30 (Int.toNat x1) (D.toInt (nth r2 0))))))
 (cond (decide ((0 : Int) ≤ IntKind.wrap .i64 (x1 + (1 : Int))) && decide (IntKind.wrap .i64 (x1 + (1 : Int)) < nI (List.length (List.set l23 (Int.toNat x1) (IntKind.wrap .i64 (List.getD l23 (Int.toNat x1) (0 : Int) - List.getD (List.set l30 (Int.toNat x1) (D.toInt (nth r2 0))) (Int.toNat x1) (0 : Int)))))))
 (lp k spec_l11Step [] fu 4 n (qpb x0 (IntKind.wrap .i64 (x1 + (1 : Int))) z2 l3 z4 l5 z6 l7 z8 l9 x10 z11 l12 z13 l14 z15 l16 z17 l18 x19 z20 l21 z22 (List.set (List.set l23 (Int.toNat x1) (IntKind.wrap .i64 (List.getD l23 (Int.toNat x1) (0 : Int) - List.getD (List.set l30 (Int.toNat x1) (D.toInt (nth r2 0))) (Int.toNat x1) (0 : Int)))) (Int.toNat (IntKind.wrap .i64 (x1 + (1 : Int)))) (IntKind.wrap .i64 (List.getD (List.set l23 (Int.toNat x1) (IntKind.wrap .i64 (List.getD l23 (Int.toNat x1) (0 : Int) - List.getD (List.set l30 (Int.toNat x1) (D.toInt (nth r2 0))) (Int.toNat x1) (0 : Int)))) (Int.toNat (IntKind.wrap .i64 (x1 + (1 : Int)))) (0 : Int) + List.getD (List.set l30 (Int.toNat x1) (D.toInt (nth r2 0))) (Int.toNat x1) (0 : Int)))) z24 l25 z26 l27 x28 z29 (List.set l30 (Int.toNat x1) (D.toInt (nth r2 0)))))
 (none))
 (none))
 (none))
 (none))
 (none))
 (none))
 (none)))
 (lp k spec_l11Step [] fu 11 k (qpa (0 : Int) z2 l3 z4 l5 z6 l7 z8 l9 x10 z11 l12 z13 l14 z15 l16 z17 l18 x19 z20 l21 z22 l23 z24 l25 z26 l27 x28 z29 l30)) := by kernel_rfl

end Go.Proofs.YtjfjniebmdafeaaGreatDoor
end
section
namespace Go.Proofs.YtjfjniebmdafeaaGreatDoor
open Go.Ev
theorem qdc (k : Nat) (hk : 2000000 ≤ k) (a0 : Int) (a1z : Bool) (a1 : List (Int × Int × Int)) (h1 : (a1.length : Int) ≤ 1048576) : go (k + 1) spec_l04Copy [(.agg [(.int .i64 (a0)), (.arr false (a1z) (.r3 (a1)))])] = some [.agg [.int .i64 a0, .arr true false (.r3 a1)]] := by
  rw [qhp]
  simp (disch := omega) only [qay, nth0, nth1, nth2, nth3, bit, qef, qeg, qer, qew, qex, qey, qez, qe0, qe1, qe2, qeh, qei, qej, qek, qel, qem, qen, qeo, qep, qeq, qes, qet, qeu, qev, qrf, qre, qrg, qnd, qn3, qn5, qjh, qa5, qqo, nI, qfb, qe9, Bool.not_true, Bool.not_false, Bool.and_true, Bool.true_and, Bool.and_false, Bool.false_and, Bool.or_true, Bool.true_or, Bool.or_false, Bool.false_or, beq_self_eq_true, dTT, dFF, dT, dF, bigI, big0, qnc, qr4, qr5, List.length_set, List.length_replicate, Int.toNat_natCast, qed, qee, imax, imin]
theorem qdn (k : Nat) (hk : 2000000 ≤ k) (a0 : Int) (a1z : Bool) (a1 : List (Int × Int × Int)) (a2z : Bool) (a2 : List Int) (a3z : Bool) (a3 : List Int) (a4z : Bool) (a4 : List Int) (h1 : (a1.length : Int) ≤ 1048576) (h2 : (a2.length : Int) ≤ 1048576) (h3 : (a3.length : Int) ≤ 1048576) (h4 : (a4.length : Int) ≤ 1048576) : go (k + 2) spec_l07Copy [(.agg [(.int .i64 (a0)), (.arr false (a1z) (.r3 (a1))), (.arr false (a2z) (.ints .i64 (a2))), (.arr false (a3z) (.ints .i64 (a3))), (.arr false (a4z) (.ints .i64 (a4)))])] = some [.agg [.int .i64 a0, .arr true false (.r3 a1), .arr true false (.ints .i64 a2), .arr true false (.ints .i64 a3), .arr true false (.ints .i64 a4)]] := by
  rw [qh0]
  simp (disch := omega) only [qay, nth0, nth1, nth2, nth3, bit, qef, qeg, qer, qew, qex, qey, qez, qe0, qe1, qe2, qeh, qei, qej, qek, qel, qem, qen, qeo, qep, qeq, qes, qet, qeu, qev, qrf, qre, qrg, qnd, qn3, qn5, qjh, qa5, qqo, nI, qfb, qe9, Bool.not_true, Bool.not_false, Bool.and_true, Bool.true_and, Bool.and_false, Bool.false_and, Bool.or_true, Bool.true_or, Bool.or_false, Bool.false_or, beq_self_eq_true, dTT, dFF, dT, dF, bigI, big0, qnc, qr4, qr5, List.length_set, List.length_replicate, Int.toNat_natCast, qed, qee, imax, imin, qdc]
end Go.Proofs.YtjfjniebmdafeaaGreatDoor
end
section
namespace Go.Proofs.YtjfjniebmdafeaaGreatDoor
open Go.Ev
theorem qcv (k : Nat) (hk : 2000000 ≤ k) (a : Int) (b : Int) (c : Int) : go (k + 2) spec_ShareOut [(.int .i64 (a)), (.int .i64 (b)), (.int .i64 (c))] = some [.int .i64 (qpm a b c)] := by
  rw [qhc]
  unfold qpm
  cases hm : inR c 1 10000000
  · simp (disch := omega) only [qay, nth0, nth1, nth2, nth3, bit, qef, qeg, qer, qew, qex, qey, qez, qe0, qe1, qe2, qeh, qei, qej, qek, qel, qem, qen, qeo, qep, qeq, qes, qet, qeu, qev, qrf, qre, qrg, qnd, qn3, qn5, qjh, qa5, qqo, nI, qfb, qe9, Bool.not_true, Bool.not_false, Bool.and_true, Bool.true_and, Bool.and_false, Bool.false_and, Bool.or_true, Bool.true_or, Bool.or_false, Bool.false_or, beq_self_eq_true, dTT, dFF, dT, dF, bigI, big0, qnc, qr4, qr5, List.length_set, List.length_replicate, Int.toNat_natCast, qed, qee, imax, imin, qda, hm]
  cases hp : inR b 0 c
  · simp (disch := omega) only [qay, nth0, nth1, nth2, nth3, bit, qef, qeg, qer, qew, qex, qey, qez, qe0, qe1, qe2, qeh, qei, qej, qek, qel, qem, qen, qeo, qep, qeq, qes, qet, qeu, qev, qrf, qre, qrg, qnd, qn3, qn5, qjh, qa5, qqo, nI, qfb, qe9, Bool.not_true, Bool.not_false, Bool.and_true, Bool.true_and, Bool.and_false, Bool.false_and, Bool.or_true, Bool.true_or, Bool.or_false, Bool.false_or, beq_self_eq_true, dTT, dFF, dT, dF, bigI, big0, qnc, qr4, qr5, List.length_set, List.length_replicate, Int.toNat_natCast, qed, qee, imax, imin, qda, hm, hp]
  have hm' := qjf.1 hm
  cases ht : inR a 0 (1000 * c)
  · simp (disch := omega) only [qay, nth0, nth1, nth2, nth3, bit, qef, qeg, qer, qew, qex, qey, qez, qe0, qe1, qe2, qeh, qei, qej, qek, qel, qem, qen, qeo, qep, qeq, qes, qet, qeu, qev, qrf, qre, qrg, qnd, qn3, qn5, qjh, qa5, qqo, nI, qfb, qe9, Bool.not_true, Bool.not_false, Bool.and_true, Bool.true_and, Bool.and_false, Bool.false_and, Bool.or_true, Bool.true_or, Bool.or_false, Bool.false_or, beq_self_eq_true, dTT, dFF, dT, dF, bigI, big0, qnc, qr4, qr5, List.length_set, List.length_replicate, Int.toNat_natCast, qed, qee, imax, imin, qda, hm, hp, ht]
  have q := qpq hm hp ht
  have q2 : 0 ≤ Int.tdiv (a * b) c ∧ Int.tdiv (a * b) c ≤ 100000000000000000 := by
    have := qq8 (x := a * b) (y := c) (B := 100000000000000000) (by omega) (by omega) (by omega)
    rw [Int.tdiv_eq_ediv_of_nonneg q.1] at *
    exact ⟨Int.ediv_nonneg q.1 (by omega), this.2⟩
  simp (disch := omega) only [qay, nth0, nth1, nth2, nth3, bit, qef, qeg, qer, qew, qex, qey, qez, qe0, qe1, qe2, qeh, qei, qej, qek, qel, qem, qen, qeo, qep, qeq, qes, qet, qeu, qev, qrf, qre, qrg, qnd, qn3, qn5, qjh, qa5, qqo, nI, qfb, qe9, Bool.not_true, Bool.not_false, Bool.and_true, Bool.true_and, Bool.and_false, Bool.false_and, Bool.or_true, Bool.true_or, Bool.or_false, Bool.false_or, beq_self_eq_true, dTT, dFF, dT, dF, bigI, big0, qnc, qr4, qr5, List.length_set, List.length_replicate, Int.toNat_natCast, qed, qee, imax, imin, qda, hm, hp, ht]
theorem qcq (k : Nat) (hk : 2000000 ≤ k) (a : Int) (b : Int) (c : Int) (d : Int) : go (k + 3) spec_LeafOut [(.int .i64 (a)), (.int .i64 (b)), (.int .i64 (c)), (.int .i64 (d))] = some [.int .i64 (loA a b c d), .int .i64 (loB a b c d)] := by
  rw [qg7]
  unfold loA loB loOk
  cases hm : inR b 1 10000000
  · simp (disch := omega) only [qay, nth0, nth1, nth2, nth3, bit, qef, qeg, qer, qew, qex, qey, qez, qe0, qe1, qe2, qeh, qei, qej, qek, qel, qem, qen, qeo, qep, qeq, qes, qet, qeu, qev, qrf, qre, qrg, qnd, qn3, qn5, qjh, qa5, qqo, nI, qfb, qe9, Bool.not_true, Bool.not_false, Bool.and_true, Bool.true_and, Bool.and_false, Bool.false_and, Bool.or_true, Bool.true_or, Bool.or_false, Bool.false_or, beq_self_eq_true, dTT, dFF, dT, dF, bigI, big0, qnc, qr4, qr5, List.length_set, List.length_replicate, Int.toNat_natCast, qed, qee, imax, imin, qda, hm]
  have hm' := qjf.1 hm
  cases ht : inR a 0 (1000 * b)
  · simp (disch := omega) only [qay, nth0, nth1, nth2, nth3, bit, qef, qeg, qer, qew, qex, qey, qez, qe0, qe1, qe2, qeh, qei, qej, qek, qel, qem, qen, qeo, qep, qeq, qes, qet, qeu, qev, qrf, qre, qrg, qnd, qn3, qn5, qjh, qa5, qqo, nI, qfb, qe9, Bool.not_true, Bool.not_false, Bool.and_true, Bool.true_and, Bool.and_false, Bool.false_and, Bool.or_true, Bool.true_or, Bool.or_false, Bool.false_or, beq_self_eq_true, dTT, dFF, dT, dF, bigI, big0, qnc, qr4, qr5, List.length_set, List.length_replicate, Int.toNat_natCast, qed, qee, imax, imin, qda, hm, ht]
  cases hr : inR c 0 b
  · simp (disch := omega) only [qay, nth0, nth1, nth2, nth3, bit, qef, qeg, qer, qew, qex, qey, qez, qe0, qe1, qe2, qeh, qei, qej, qek, qel, qem, qen, qeo, qep, qeq, qes, qet, qeu, qev, qrf, qre, qrg, qnd, qn3, qn5, qjh, qa5, qqo, nI, qfb, qe9, Bool.not_true, Bool.not_false, Bool.and_true, Bool.true_and, Bool.and_false, Bool.false_and, Bool.or_true, Bool.true_or, Bool.or_false, Bool.false_or, beq_self_eq_true, dTT, dFF, dT, dF, bigI, big0, qnc, qr4, qr5, List.length_set, List.length_replicate, Int.toNat_natCast, qed, qee, imax, imin, qda, hm, ht, hr]
  have hr' := qjf.1 hr
  cases hl : inR d 0 (b - c)
  · simp (disch := omega) only [qay, nth0, nth1, nth2, nth3, bit, qef, qeg, qer, qew, qex, qey, qez, qe0, qe1, qe2, qeh, qei, qej, qek, qel, qem, qen, qeo, qep, qeq, qes, qet, qeu, qev, qrf, qre, qrg, qnd, qn3, qn5, qjh, qa5, qqo, nI, qfb, qe9, Bool.not_true, Bool.not_false, Bool.and_true, Bool.true_and, Bool.and_false, Bool.false_and, Bool.or_true, Bool.true_or, Bool.or_false, Bool.false_or, beq_self_eq_true, dTT, dFF, dT, dF, bigI, big0, qnc, qr4, qr5, List.length_set, List.length_replicate, Int.toNat_natCast, qed, qee, imax, imin, qda, hm, ht, hr, hl]
  have hl' := qjf.1 hl
  have s1 := qpo a c b; have s2 := qpo a (c + d) b
  simp (disch := omega) only [qay, nth0, nth1, nth2, nth3, bit, qef, qeg, qer, qew, qex, qey, qez, qe0, qe1, qe2, qeh, qei, qej, qek, qel, qem, qen, qeo, qep, qeq, qes, qet, qeu, qev, qrf, qre, qrg, qnd, qn3, qn5, qjh, qa5, qqo, nI, qfb, qe9, Bool.not_true, Bool.not_false, Bool.and_true, Bool.true_and, Bool.and_false, Bool.false_and, Bool.or_true, Bool.true_or, Bool.or_false, Bool.false_or, beq_self_eq_true, dTT, dFF, dT, dF, bigI, big0, qnc, qr4, qr5, List.length_set, List.length_replicate, Int.toNat_natCast, qed, qee, imax, imin, qda, hm, ht, hr, hl, qcv]
theorem qce (k : Nat) (hk : 2000000 ≤ k) (a b : Int) (hb : 0 < b) (ha : -1000000000000 ≤ a) (ha' : a ≤ 1000000000000) : go (k + 1) spec_DivTrunc [.int .i64 a, .int .i64 b] = some [.int .i64 (Int.tdiv a b)] := by
  rw [qgx]
  have := qq8 hb ha ha'
  simp (disch := omega) only [qay, nth0, nth1, nth2, nth3, bit, qef, qeg, qer, qew, qex, qey, qez, qe0, qe1, qe2, qeh, qei, qej, qek, qel, qem, qen, qeo, qep, qeq, qes, qet, qeu, qev, qrf, qre, qrg, qnd, qn3, qn5, qjh, qa5, qqo, nI, qfb, qe9, Bool.not_true, Bool.not_false, Bool.and_true, Bool.true_and, Bool.and_false, Bool.false_and, Bool.or_true, Bool.true_or, Bool.or_false, Bool.false_or, beq_self_eq_true, dTT, dFF, dT, dF, bigI, big0, qnc, qr4, qr5, List.length_set, List.length_replicate, Int.toNat_natCast, qed, qee, imax, imin]
theorem qdu (k : Nat) (hk : 2000000 ≤ k) (a : Int) (b : Int) (c : Int) (d : Int) (e : Int) (f : Int) (ha : 0 ≤ a ∧ a ≤ 161000000) (hb : 0 ≤ b ∧ b ≤ 161000000) (hc : 0 ≤ c ∧ c ≤ 10000000) (hd : 0 ≤ d ∧ d ≤ 10000000) (he : inR e 0 4 = true) (hf : inR f 0 4 = true) : go (k + 3) spec_l09Pair [(.int .i64 (a)), (.int .i64 (b)), (.int .i64 (c)), (.int .i64 (d)), (.int .i64 (e)), (.int .i64 (f))] = some [.int .i64 (qns a b c d e f)] := by
  rw [qh8]
  have w1 := qrx he; have w2 := qrx hf; have w3 := qry (max f e)
  have p := qm8 (x := a - b) (w := qrw (max f e)) (A := 161000000) (by omega) (by omega) w3.1 w3.2
  have t := qq8 (x := (a - b) * qrw (max f e)) (y := 32 * (qrw e + qrw f)) (B := 2576000000) (by omega) (by omega) (by omega)
  have t1 : Int.tdiv c 4 = c / 4 := Int.tdiv_eq_ediv_of_nonneg (by omega)
  have t2 : Int.tdiv d 4 = d / 4 := Int.tdiv_eq_ediv_of_nonneg (by omega)
  simp (disch := omega) only [qay, nth0, nth1, nth2, nth3, bit, qef, qeg, qer, qew, qex, qey, qez, qe0, qe1, qe2, qeh, qei, qej, qek, qel, qem, qen, qeo, qep, qeq, qes, qet, qeu, qev, qrf, qre, qrg, qnd, qn3, qn5, qjh, qa5, qqo, nI, qfb, qe9, Bool.not_true, Bool.not_false, Bool.and_true, Bool.true_and, Bool.and_false, Bool.false_and, Bool.or_true, Bool.true_or, Bool.or_false, Bool.false_or, beq_self_eq_true, dTT, dFF, dT, dF, bigI, big0, qnc, qr4, qr5, List.length_set, List.length_replicate, Int.toNat_natCast, qed, qee, imax, imin, qc0, qce, t1, t2]
  rfl
theorem qds (k : Nat) (hk : 2000000 ≤ k) (r : Int) (z1 z2 z3 z4 : Bool) (l : List Cell) (m t b : List Int) (F : StF r l m t b) (i : Nat) (hi : i + 1 < l.length) :
    go (k + 4) spec_l09Flux [.agg [.int .i64 r, .arr false z1 (.r3 l), .arr false z2 (.ints .i64 m), .arr false z3 (.ints .i64 t), .arr false z4 (.ints .i64 b)], .int .i64 (i : Int)] = some [.int .i64 (fl l m b i)] := by
  rw [qh6]
  have hl := F.len; have hm := F.ml
  have h1 := F.at i; have h2 := F.at (i + 1); have s1 := qqv F i; have s2 := qqv F (i + 1)
  have v1 := F.lev i; have v2 := F.lev (i + 1)
  have e1 := qdv (k + 3 - 1) (by omega) r z1 z2 z3 z4 l m t b F i (by omega)
  have e2 := qdv (k + 3 - 1) (by omega) r z1 z2 z3 z4 l m t b F (i + 1) hi
  rw [show k + 3 - 1 + 1 = k + 3 by omega] at e1 e2
  have e3 := qdu (k + 3 - 3) (by omega) (surf l m b i) (surf l m b (i + 1)) (m.getD i 0) (m.getD (i + 1) 0) (l.getD i zz3).2.1 (l.getD (i + 1) zz3).2.1 s1 s2 ⟨h1.1, h1.2.1⟩ ⟨h2.1, h2.2.1⟩ v1 v2
  rw [show k + 3 - 3 + 3 = k + 3 by omega] at e3
  simp (disch := omega) only [qay, nth0, nth1, nth2, nth3, bit, qef, qeg, qer, qew, qex, qey, qez, qe0, qe1, qe2, qeh, qei, qej, qek, qel, qem, qen, qeo, qep, qeq, qes, qet, qeu, qev, qrf, qre, qrg, qnd, qn3, qn5, qjh, qa5, qqo, nI, qfb, qe9, Bool.not_true, Bool.not_false, Bool.and_true, Bool.true_and, Bool.and_false, Bool.false_and, Bool.or_true, Bool.true_or, Bool.or_false, Bool.false_or, beq_self_eq_true, dTT, dFF, dT, dF, bigI, big0, qnc, qr4, qr5, List.length_set, List.length_replicate, Int.toNat_natCast, qed, qee, imax, imin, e1, e2, e3]
  rfl
def Fk (tk : Int) (l : List Cell) (m b : List Int) (k j : Nat) : Int := if j < k then ff tk l m b j else 0
def Mk (tk : Int) (l : List Cell) (m b : List Int) (k j : Nat) : Int := m.getD j 0 - (if j < k then ff tk l m b j else 0) + (if 1 ≤ j ∧ j ≤ k then ff tk l m b (j - 1) else 0)
theorem ql8 (k : Nat) (hk : 2000000 ≤ k) (fu : List (Nat × Nat)) (r tk : Int) (z1 z2 z3 z4 y1 y2 y3 y4 x1 x2 x3 x4 : Bool) (c1 : List Cell) (c2 c3 c4 : List Int) (c0 : Int) (l : List Cell) (m t b tr bd : List Int) (ld : List Cell) (r' : Int) (F : StF r l m t b) : ∀ (n i : Nat), i < l.length → l.length - i < n →
    lp (k + 4) spec_l11Step [] fu 4 (n) (qpb tk (i : Int) z1 l z2 m z3 t z4 b r y1 c1 y2 c2 y3 c3 y4 c4 c0 x1 ld x2 (tab l.length (Mk tk l m b i)) x3 tr x4 bd r' false (tab l.length (Fk tk l m b i))) = lp (k + 4) spec_l11Step [] fu 11 (k + 4) (qpa 0 z1 l z2 m z3 t z4 b r y1 c1 y2 c2 y3 c3 y4 c4 c0 x1 ld x2 (tab l.length (stM tk l m b)) x3 tr x4 bd r' false (tab l.length (ff tk l m b)))
  | 0, i, hi, hn => by omega
  | n + 1, i, hi, hn => by
    have hl := F.len; have hm := F.ml
    rw [qku]
    by_cases h : i + 1 < l.length
    · have IH := ql8 k hk fu r tk z1 z2 z3 z4 y1 y2 y3 y4 x1 x2 x3 x4 c1 c2 c3 c4 c0 l m t b tr bd ld r' F n (i + 1) h (by omega)
      have b0 := qix F i; have b1 := qiw F tk (i - 1); have a0 := F.at i; have a1 := F.at (i + 1); have a2 := F.at (i - 1)
      have eF := qds (k + 4 - 4) (by omega) r z1 z2 z3 z4 l m t b F i h
      rw [show k + 4 - 4 + 4 = k + 4 by omega] at eF
      cases ha : qji tk (qiu l i)
      · have hz : ff tk l m b i = 0 := by unfold ff qah; rw [ha]; simp
        simp (disch := omega) only [qay, nth0, nth1, nth2, nth3, bit, qef, qeg, qer, qew, qex, qey, qez, qe0, qe1, qe2, qeh, qei, qej, qek, qel, qem, qen, qeo, qep, qeq, qes, qet, qeu, qev, qrf, qre, qrg, qnd, qn3, qn5, qjh, qa5, qqo, nI, qfb, qe9, Bool.not_true, Bool.not_false, Bool.and_true, Bool.true_and, Bool.and_false, Bool.false_and, Bool.or_true, Bool.true_or, Bool.or_false, Bool.false_or, beq_self_eq_true, dTT, dFF, dT, dF, bigI, big0, qnc, qr4, qr5, List.length_set, List.length_replicate, Int.toNat_natCast, qed, qee, imax, imin, qdh, qcl, ha]
        rw [← IH]
        have q1 : tab l.length (Mk tk l m b i) = tab l.length (Mk tk l m b (i + 1)) := qqw fun j hj => by
          unfold Mk
          by_cases g1 : j = i
          · subst g1
            by_cases g2 : 1 ≤ j
            · simp (disch := omega) only [itT, itF, if_pos, if_neg, hz]
            · simp (disch := omega) only [itT, itF, if_pos, if_neg, hz]
          · by_cases g2 : j = i + 1
            · subst g2; simp (disch := omega) only [itT, itF, if_pos, if_neg, Nat.add_sub_cancel, hz]
            · have e1 : (j < i) = (j < i + 1) := by rw [eq_iff_iff]; omega
              have e2 : (1 ≤ j ∧ j ≤ i) = (1 ≤ j ∧ j ≤ i + 1) := by rw [eq_iff_iff]; omega
              simp only [e1, e2]
        have q2 : tab l.length (Fk tk l m b i) = tab l.length (Fk tk l m b (i + 1)) := qqw fun j hj => by
          unfold Fk
          by_cases g1 : j = i
          · subst g1; rw [if_neg (by omega), if_pos (by omega), hz]
          · have e1 : (j < i) = (j < i + 1) := by rw [eq_iff_iff]; omega
            simp only [e1]
        rw [q1, q2]
      · have hz : ff tk l m b i = fl l m b i := by unfold ff qah; rw [ha, dT h]; rfl
        have v1 : Mk tk l m b i i = m.getD i 0 + (if 1 ≤ i then ff tk l m b (i - 1) else 0) := by
          unfold Mk; rw [if_neg (by omega)]
          by_cases g2 : 1 ≤ i
          · rw [if_pos (by omega), if_pos g2]; omega
          · rw [if_neg (by omega), if_neg g2]; omega
        have v2 : Mk tk l m b i (i + 1) = m.getD (i + 1) 0 := by
          unfold Mk; rw [if_neg (by omega), if_neg (by omega)]; omega
        have bb : -5000000 ≤ (if 1 ≤ i then ff tk l m b (i - 1) else 0) ∧ (if 1 ≤ i then ff tk l m b (i - 1) else 0) ≤ 5000000 := by
          by_cases g2 : 1 ≤ i
          · rw [if_pos g2]; rw [show i - 1 + 1 = i by omega] at b1; omega
          · rw [if_neg g2]; omega
        have w1 : -20000000 ≤ Mk tk l m b i i ∧ Mk tk l m b i i ≤ 20000000 := by rw [v1]; omega
        have w2 : -20000000 ≤ Mk tk l m b i (i + 1) ∧ Mk tk l m b i (i + 1) ≤ 20000000 := by rw [v2]; omega
        simp (disch := omega) only [qay, nth0, nth1, nth2, nth3, bit, qef, qeg, qer, qew, qex, qey, qez, qe0, qe1, qe2, qeh, qei, qej, qek, qel, qem, qen, qeo, qep, qeq, qes, qet, qeu, qev, qrf, qre, qrg, qnd, qn3, qn5, qjh, qa5, qqo, nI, qfb, qe9, Bool.not_true, Bool.not_false, Bool.and_true, Bool.true_and, Bool.and_false, Bool.false_and, Bool.or_true, Bool.true_or, Bool.or_false, Bool.false_or, beq_self_eq_true, dTT, dFF, dT, dF, bigI, big0, qnc, qr4, qr5, List.length_set, List.length_replicate, Int.toNat_natCast, qed, qee, imax, imin, qdh, qcl, ha, eF, qqy, qq1, qqx, itT, itF, if_pos, if_neg]
        rw [v1, v2]
        rw [← IH]
        have q1 : tab l.length (fun j => if j = i + 1 then m.getD (i + 1) 0 + fl l m b i else if j = i then m.getD i 0 + (if 1 ≤ i then ff tk l m b (i - 1) else 0) - fl l m b i else Mk tk l m b i j) = tab l.length (Mk tk l m b (i + 1)) := qqw fun j hj => by
          by_cases g2 : j = i + 1
          · subst g2; unfold Mk; simp (disch := omega) only [itT, itF, if_pos, if_neg, Nat.add_sub_cancel, hz]; omega
          · by_cases g1 : j = i
            · subst g1; unfold Mk
              by_cases g3 : 1 ≤ j
              · simp (disch := omega) only [itT, itF, if_pos, if_neg, hz]; omega
              · simp (disch := omega) only [itT, itF, if_pos, if_neg, hz]; omega
            · rw [if_neg g2, if_neg g1]
              have e1 : (j < i) = (j < i + 1) := by rw [eq_iff_iff]; omega
              have e2 : (1 ≤ j ∧ j ≤ i) = (1 ≤ j ∧ j ≤ i + 1) := by rw [eq_iff_iff]; omega
              unfold Mk
              simp only [e1, e2]
        have q2 : tab l.length (fun j => if j = i then fl l m b i else Fk tk l m b i j) = tab l.length (Fk tk l m b (i + 1)) := qqw fun j hj => by
          by_cases g1 : j = i
          · subst g1; unfold Fk; rw [if_pos rfl, if_pos (by omega), hz]
          · rw [if_neg g1]
            have e1 : (j < i) = (j < i + 1) := by rw [eq_iff_iff]; omega
            unfold Fk
            simp only [e1]
        rw [q1, q2]
    · simp (disch := omega) only [qay, nth0, nth1, nth2, nth3, bit, qef, qeg, qer, qew, qex, qey, qez, qe0, qe1, qe2, qeh, qei, qej, qek, qel, qem, qen, qeo, qep, qeq, qes, qet, qeu, qev, qrf, qre, qrg, qnd, qn3, qn5, qjh, qa5, qqo, nI, qfb, qe9, Bool.not_true, Bool.not_false, Bool.and_true, Bool.true_and, Bool.and_false, Bool.false_and, Bool.or_true, Bool.true_or, Bool.or_false, Bool.false_or, beq_self_eq_true, dTT, dFF, dT, dF, bigI, big0, qnc, qr4, qr5, List.length_set, List.length_replicate, Int.toNat_natCast, qed, qee, imax, imin]
      have q1 : tab l.length (Mk tk l m b i) = tab l.length (stM tk l m b) := qqw fun j hj => by
        unfold Mk stM
        by_cases g1 : j = i
        · subst g1; rw [if_neg (by omega), qiv (i := j) (show l.length ≤ j + 1 by omega)]
          by_cases g3 : 1 ≤ j
          · rw [if_pos g3, if_pos (by omega)]
          · rw [if_neg g3, if_neg (by omega)]
        · rw [if_pos (by omega)]
          by_cases g3 : 1 ≤ j
          · rw [if_pos g3, if_pos (by omega)]
          · rw [if_neg g3, if_neg (by omega)]
      have q2 : tab l.length (Fk tk l m b i) = tab l.length (ff tk l m b) := qqw fun j hj => by
        unfold Fk
        by_cases g1 : j = i
        · subst g1; rw [if_neg (by omega), qiv (i := j) (show l.length ≤ j + 1 by omega)]
        · rw [if_pos (by omega)]
      rw [q1, q2]
set_option maxHeartbeats 2000000 in
theorem ql7 (k : Nat) (hk : 2000000 ≤ k) (fu : List (Nat × Nat)) (r tk : Int) (z1 z2 z3 z4 y1 y2 y3 y4 : Bool) (c1 : List Cell) (c2 c3 c4 : List Int) (c0 : Int) (l : List Cell) (m t b mm bd : List Int) (ld : List Cell) (r' : Int) (F : StF r l m t b) : ∀ (n i : Nat), i ≤ l.length → l.length - i < n →
    lp (k + 4) spec_l11Step [] fu 11 (n) (qpa (i : Int) z1 l z2 m z3 t z4 b r y1 c1 y2 c2 y3 c3 y4 c4 c0 false ld false mm false (tab l.length (Tk tk l m t b i)) false bd r' false (tab l.length (ff tk l m b))) = some [.agg [.int .i64 r', .arr true false (.r3 ld), .arr true false (.ints .i64 mm), .arr true false (.ints .i64 (tab l.length (stT tk l m t b))), .arr true false (.ints .i64 bd)]]
  | 0, i, hi, hn => by omega
  | n + 1, i, hi, hn => by
    have hl := F.len; have hm := F.ml; have ht := F.tl
    rw [qkt]
    by_cases h : i < l.length
    · have IH := ql7 k hk fu r tk z1 z2 z3 z4 y1 y2 y3 y4 c1 c2 c3 c4 c0 l m t b mm bd ld r' F n (i + 1) (by omega) (by omega)
      rw [← qaf tk l m t b i h] at IH
      have f1 := qiw F tk i; have f2 := qiw F tk (i - 1); have a0 := F.at i; have a1 := F.at (i + 1); have a2 := F.at (i - 1)
      have A := qnl tk l m t b i; have B := qnn tk l m t b i
      have A' := qnl tk l m t b (i - 1); have B' := qnn tk l m t b (i - 1); have A'' := qnl tk l m t b (i - 1 - 1)
      have v1 : Tk tk l m t b i i = t.getD i 0 + (if 1 ≤ i then outA tk l m t b (i - 1) else 0) := by
        unfold Tk; rw [if_neg (by omega), if_neg (show ¬ (i + 1 < i) by omega)]
        by_cases g2 : 1 ≤ i
        · rw [if_pos (by omega), if_pos g2]; omega
        · rw [if_neg (by omega), if_neg g2]; omega
      have w1 : 0 ≤ Tk tk l m t b i i ∧ Tk tk l m t b i i ≤ 200000000000000000 := by
        rw [v1]
        by_cases g2 : 1 ≤ i
        · rw [if_pos g2]; omega
        · rw [if_neg g2]; omega
      have w2 : 0 ≤ Tk tk l m t b i (i + 1) ∧ Tk tk l m t b i (i + 1) ≤ 200000000000000000 := by
        unfold Tk; rw [if_neg (by omega), if_neg (by omega), if_neg (by omega)]; omega
      have hA : loA (t.getD i 0) (m.getD i 0) (max 0 (ff tk l m b i)) (lft tk l m b i) = outA tk l m t b i := rfl
      have hB : loB (t.getD i 0) (m.getD i 0) (max 0 (ff tk l m b i)) (lft tk l m b i) = outB tk l m t b i := rfl
      have hi1 : 0 < ff tk l m b i → i + 1 < l.length := fun g4 => by
        rcases Nat.lt_or_ge (i + 1) l.length with q | q
        · exact q
        · rw [qiv q] at g4; omega
      have zA : ¬ 0 < ff tk l m b i → outA tk l m t b i = 0 := fun g4 => qnm (by unfold rgt; omega)
      by_cases g1 : 1 ≤ i
      · have hL : max 0 (0 - ff tk l m b (i - 1)) = lft tk l m b i := by unfold lft; rw [if_pos g1]
        have hL0 : 0 ≤ lft tk l m b i := by rw [← hL]; omega
        rw [show i - 1 + 1 = i by omega] at f2
        have w3 : -300000000000000000 ≤ Tk tk l m t b i (i - 1) ∧ Tk tk l m t b i (i - 1) ≤ 300000000000000000 := by
          unfold Tk; rw [if_pos (by omega), if_neg (show ¬ (i - 1 + 1 < i) by omega)]
          by_cases g3 : 1 ≤ i - 1
          · rw [if_pos (show 1 ≤ i - 1 ∧ i - 1 ≤ i by omega)]; omega
          · rw [if_neg (show ¬ (1 ≤ i - 1 ∧ i - 1 ≤ i) by omega)]; omega
        by_cases g4 : 0 < ff tk l m b i
        · have := hi1 g4
          by_cases g5 : 0 < lft tk l m b i
          · rw [← qro g1] at IH
            simp (disch := omega) only [qay, nth0, nth1, nth2, nth3, bit, qef, qeg, qer, qew, qex, qey, qez, qe0, qe1, qe2, qeh, qei, qej, qek, qel, qem, qen, qeo, qep, qeq, qes, qet, qeu, qev, qrf, qre, qrg, qnd, qn3, qn5, qjh, qa5, qqo, nI, qfb, qe9, Bool.not_true, Bool.not_false, Bool.and_true, Bool.true_and, Bool.and_false, Bool.false_and, Bool.or_true, Bool.true_or, Bool.or_false, Bool.false_or, beq_self_eq_true, dTT, dFF, dT, dF, bigI, big0, qnc, qr4, qr5, List.length_set, List.length_replicate, Int.toNat_natCast, qed, qee, imax, imin, qec, qqy, qqx, qq1, hL, qcq, hA, hB, itT, niF]
            exact IH
          · rw [← qrn (qno (by omega))] at IH
            simp (disch := omega) only [qay, nth0, nth1, nth2, nth3, bit, qef, qeg, qer, qew, qex, qey, qez, qe0, qe1, qe2, qeh, qei, qej, qek, qel, qem, qen, qeo, qep, qeq, qes, qet, qeu, qev, qrf, qre, qrg, qnd, qn3, qn5, qjh, qa5, qqo, nI, qfb, qe9, Bool.not_true, Bool.not_false, Bool.and_true, Bool.true_and, Bool.and_false, Bool.false_and, Bool.or_true, Bool.true_or, Bool.or_false, Bool.false_or, beq_self_eq_true, dTT, dFF, dT, dF, bigI, big0, qnc, qr4, qr5, List.length_set, List.length_replicate, Int.toNat_natCast, qed, qee, imax, imin, qec, qqy, qqx, qq1, hL, qcq, hA, hB, itT, niF]
            exact IH
        · by_cases g5 : 0 < lft tk l m b i
          · rw [← qrm g1 (zA g4)] at IH
            simp (disch := omega) only [qay, nth0, nth1, nth2, nth3, bit, qef, qeg, qer, qew, qex, qey, qez, qe0, qe1, qe2, qeh, qei, qej, qek, qel, qem, qen, qeo, qep, qeq, qes, qet, qeu, qev, qrf, qre, qrg, qnd, qn3, qn5, qjh, qa5, qqo, nI, qfb, qe9, Bool.not_true, Bool.not_false, Bool.and_true, Bool.true_and, Bool.and_false, Bool.false_and, Bool.or_true, Bool.true_or, Bool.or_false, Bool.false_or, beq_self_eq_true, dTT, dFF, dT, dF, bigI, big0, qnc, qr4, qr5, List.length_set, List.length_replicate, Int.toNat_natCast, qed, qee, imax, imin, qec, qqy, qqx, qq1, hL, qcq, hA, hB, itT, niF]
            exact IH
          · rw [← qrl (zA g4) (qno (by omega))] at IH
            simp (disch := omega) only [qay, nth0, nth1, nth2, nth3, bit, qef, qeg, qer, qew, qex, qey, qez, qe0, qe1, qe2, qeh, qei, qej, qek, qel, qem, qen, qeo, qep, qeq, qes, qet, qeu, qev, qrf, qre, qrg, qnd, qn3, qn5, qjh, qa5, qqo, nI, qfb, qe9, Bool.not_true, Bool.not_false, Bool.and_true, Bool.true_and, Bool.and_false, Bool.false_and, Bool.or_true, Bool.true_or, Bool.or_false, Bool.false_or, beq_self_eq_true, dTT, dFF, dT, dF, bigI, big0, qnc, qr4, qr5, List.length_set, List.length_replicate, Int.toNat_natCast, qed, qee, imax, imin, qec, qqy, qqx, qq1, hL, qcq, hA, hB, itT, niF]
            exact IH
      · have hL : (0 : Int) = lft tk l m b i := by unfold lft; rw [if_neg g1]
        have zB : outB tk l m t b i = 0 := qno hL.symm
        have hA' : loA (t.getD i 0) (m.getD i 0) (max 0 (ff tk l m b i)) 0 = outA tk l m t b i := by unfold outA rgt; rw [← hL]
        have hB' : loB (t.getD i 0) (m.getD i 0) (max 0 (ff tk l m b i)) 0 = outB tk l m t b i := by unfold outB rgt; rw [← hL]
        by_cases g4 : 0 < ff tk l m b i
        · have := hi1 g4
          rw [← qrn zB] at IH
          simp (disch := omega) only [qay, nth0, nth1, nth2, nth3, bit, qef, qeg, qer, qew, qex, qey, qez, qe0, qe1, qe2, qeh, qei, qej, qek, qel, qem, qen, qeo, qep, qeq, qes, qet, qeu, qev, qrf, qre, qrg, qnd, qn3, qn5, qjh, qa5, qqo, nI, qfb, qe9, Bool.not_true, Bool.not_false, Bool.and_true, Bool.true_and, Bool.and_false, Bool.false_and, Bool.or_true, Bool.true_or, Bool.or_false, Bool.false_or, beq_self_eq_true, dTT, dFF, dT, dF, bigI, big0, qnc, qr4, qr5, List.length_set, List.length_replicate, Int.toNat_natCast, qed, qee, imax, imin, qec, qqy, qqx, qq1, hA', hB', qcq, hA, hB, itT, niF]
          exact IH
        · rw [← qrl (zA g4) zB] at IH
          simp (disch := omega) only [qay, nth0, nth1, nth2, nth3, bit, qef, qeg, qer, qew, qex, qey, qez, qe0, qe1, qe2, qeh, qei, qej, qek, qel, qem, qen, qeo, qep, qeq, qes, qet, qeu, qev, qrf, qre, qrg, qnd, qn3, qn5, qjh, qa5, qqo, nI, qfb, qe9, Bool.not_true, Bool.not_false, Bool.and_true, Bool.true_and, Bool.and_false, Bool.false_and, Bool.or_true, Bool.true_or, Bool.or_false, Bool.false_or, beq_self_eq_true, dTT, dFF, dT, dF, bigI, big0, qnc, qr4, qr5, List.length_set, List.length_replicate, Int.toNat_natCast, qed, qee, imax, imin, qec, qqy, qqx, qq1, hA', hB', qcq, hA, hB, itT, niF]
          exact IH
    · simp (disch := omega) only [qay, nth0, nth1, nth2, nth3, bit, qef, qeg, qer, qew, qex, qey, qez, qe0, qe1, qe2, qeh, qei, qej, qek, qel, qem, qen, qeo, qep, qeq, qes, qet, qeu, qev, qrf, qre, qrg, qnd, qn3, qn5, qjh, qa5, qqo, nI, qfb, qe9, Bool.not_true, Bool.not_false, Bool.and_true, Bool.true_and, Bool.and_false, Bool.false_and, Bool.or_true, Bool.true_or, Bool.or_false, Bool.false_or, beq_self_eq_true, dTT, dFF, dT, dF, bigI, big0, qnc, qr4, qr5, List.length_set, List.length_replicate, Int.toNat_natCast, qed, qee, imax, imin]
      rw [show i = l.length by omega, qae tk l m t b hm]
theorem qac (tk : Int) (l : List Cell) (m b : List Int) (hm : m.length = l.length) : m = tab l.length (Mk tk l m b 0) := by
  have h := qq0 m
  rw [hm] at h
  refine h.trans (qqw fun j hj => ?_)
  unfold Mk
  rw [if_neg (by omega), if_neg (by omega)]; omega
theorem qaa (tk : Int) (l : List Cell) (m b : List Int) : List.replicate l.length (0 : Int) = tab l.length (Fk tk l m b 0) := by
  rw [qq3]
  refine qqw fun j hj => ?_
  unfold Fk
  rw [if_neg (by omega)]
theorem qdw (k : Nat) (hk : 2000000 ≤ k) (r : Int) (z1 z2 z3 z4 : Bool) (l : List Cell) (m t b : List Int) (F : StF r l m t b) (tk : Int) :
    go (k + 5) spec_l11Step [.agg [.int .i64 r, .arr false z1 (.r3 l), .arr false z2 (.ints .i64 m), .arr false z3 (.ints .i64 t), .arr false z4 (.ints .i64 b)], .int .i64 tk] = some [.agg [.int .i64 r, .arr true false (.r3 l), .arr true false (.ints .i64 (tab l.length (stM tk l m b))), .arr true false (.ints .i64 (tab l.length (stT tk l m t b))), .arr true false (.ints .i64 b)]] := by
  rw [qia]
  have hl := F.len; have hm := F.ml; have ht := F.tl; have hb := F.bl; have hr := F.rr
  simp (disch := omega) only [qay, nth0, nth1, nth2, nth3, bit, qef, qeg, qer, qew, qex, qey, qez, qe0, qe1, qe2, qeh, qei, qej, qek, qel, qem, qen, qeo, qep, qeq, qes, qet, qeu, qev, qrf, qre, qrg, qnd, qn3, qn5, qjh, qa5, qqo, nI, qfb, qe9, Bool.not_true, Bool.not_false, Bool.and_true, Bool.true_and, Bool.and_false, Bool.false_and, Bool.or_true, Bool.true_or, Bool.or_false, Bool.false_or, beq_self_eq_true, dTT, dFF, dT, dF, bigI, big0, qnc, qr4, qr5, List.length_set, List.length_replicate, Int.toNat_natCast, qed, qee, imax, imin, qdn]
  rw [show List.replicate m.length (0 : Int) = tab l.length (Fk tk l m b 0) by rw [hm]; exact qaa tk l m b]
  have e1 := ql8 k hk [] r tk z1 z2 z3 z4 true true true true false false false false [] [] [] [] 0 l m t b t b l r F (k + 4) 0 (by omega) (by omega)
  have e2 := ql7 k hk [] r tk z1 z2 z3 z4 true true true true [] [] [] [] 0 l m t b (tab l.length (stM tk l m b)) b l r F (k + 4) 0 (by omega) (by omega)
  rw [← qac tk l m b hm] at e1
  rw [← qag tk l m t b ht] at e2
  exact e1.trans e2
end Go.Proofs.YtjfjniebmdafeaaGreatDoor
end
section
namespace Go.Proofs.YtjfjniebmdafeaaGreatDoor
open Go.Ev
theorem qhl (k : Nat) (v0 : Bool) (v1 : List Int) (v2 v3 : Int) : go (k + 1) spec_l01Byte [(.ptr true [(.arr false (v0) (.ints IntKind.u8 (v1))), (.int .i64 (v2)), (.int .i64 (v3))])] =
 cond (decide (v2 < nI (List.length v1)))
 (cond (decide ((0 : Int) ≤ v2) && decide (v2 < nI (List.length v1)))
 (some [(.int .i64 (bitN BinOp.and .i64 (IntKind.wrap .i64 (bitN BinOp.and .i64 (bitN BinOp.xor .i64 (Int.fdiv (IntKind.wrap .i64 (IntKind.wrap .i64 (v3 * (6364136223846793005 : Int)) + (1442695040888963407 : Int))) ((2 : Int) ^ shiftN .i64 (33 : Int))) (Int.fdiv (IntKind.wrap .i64 (IntKind.wrap .i64 (v3 * (6364136223846793005 : Int)) + (1442695040888963407 : Int))) ((2 : Int) ^ shiftN .i64 (45 : Int)))) (255 : Int) + IntKind.wrap .i64 (List.getD v1 (Int.toNat v2) (0 : Int)))) (255 : Int))), (.ptr true [(.arr false (v0) (.ints IntKind.u8 (v1))), (.int .i64 (IntKind.wrap .i64 (v2 + (1 : Int)))), (.int .i64 (IntKind.wrap .i64 (IntKind.wrap .i64 (v3 * (6364136223846793005 : Int)) + (1442695040888963407 : Int))))])])
 (none))
 (some [(.int .i64 (bitN BinOp.and .i64 (bitN BinOp.xor .i64 (Int.fdiv (IntKind.wrap .i64 (IntKind.wrap .i64 (v3 * (6364136223846793005 : Int)) + (1442695040888963407 : Int))) ((2 : Int) ^ shiftN .i64 (33 : Int))) (Int.fdiv (IntKind.wrap .i64 (IntKind.wrap .i64 (v3 * (6364136223846793005 : Int)) + (1442695040888963407 : Int))) ((2 : Int) ^ shiftN .i64 (45 : Int)))) (255 : Int))), (.ptr true [(.arr false (v0) (.ints IntKind.u8 (v1))), (.int .i64 (v2)), (.int .i64 (IntKind.wrap .i64 (IntKind.wrap .i64 (v3 * (6364136223846793005 : Int)) + (1442695040888963407 : Int))))])]) := by kernel_rfl
theorem qhk (k : Nat) (v0 : Bool) (v1 : List Int) (v2 v3 v4 : Int) : go (k + 1) spec_l01Below [(.ptr true [(.arr false (v0) (.ints IntKind.u8 (v1))), (.int .i64 (v2)), (.int .i64 (v3))]), (.int .i64 (v4))] =
 cond (decide (v4 ≤ (0 : Int)))
 (some [(.int .i64 (0 : Int)), (.ptr true [(.arr false (v0) (.ints IntKind.u8 (v1))), (.int .i64 (v2)), (.int .i64 (v3))])])
 (cond (decide (v4 ≤ (256 : Int)))
 ((go k spec_l01Byte [(.ptr true [(.arr false (v0) (.ints IntKind.u8 (v1))), (.int .i64 (v2)), (.int .i64 (v3))])]).bind fun r0 =>
 cond (!decide (v4 = (0 : Int)))
 (some [(.int .i64 (Int.tmod (D.toInt (nth r0 0)) v4)), (.ptr true [(.arr false (v0) (.ints IntKind.u8 (v1))), (.int .i64 (D.toInt (D.cell 1 (nth r0 1)))), (.int .i64 (D.toInt (D.cell 2 (nth r0 1))))])])
 (none))
 ((go k spec_l01Byte [(.ptr true [(.arr false (v0) (.ints IntKind.u8 (v1))), (.int .i64 (v2)), (.int .i64 (v3))])]).bind fun r1 =>
 (go k spec_l01Byte [(.ptr true [(.arr false (v0) (.ints IntKind.u8 (v1))), (.int .i64 (D.toInt (D.cell 1 (nth r1 1)))), (.int .i64 (D.toInt (D.cell 2 (nth r1 1))))])]).bind fun r2 =>
 (go k spec_l01Byte [(.ptr true [(.arr false (v0) (.ints IntKind.u8 (v1))), (.int .i64 (D.toInt (D.cell 1 (nth r2 1)))), (.int .i64 (D.toInt (D.cell 2 (nth r2 1))))])]).bind fun r3 =>
 (go k spec_l01Byte [(.ptr true [(.arr false (v0) (.ints IntKind.u8 (v1))), (.int .i64 (D.toInt (D.cell 1 (nth r3 1)))), (.int .i64 (D.toInt (D.cell 2 (nth r3 1))))])]).bind fun r4 =>
 cond (!decide (v4 = (0 : Int)))
 (some [(.int .i64 (Int.tmod (IntKind.wrap .i64 (IntKind.wrap .i64 (IntKind.wrap .i64 (IntKind.wrap .i64 (D.toInt (nth r1 0) * (16777216 : Int)) + IntKind.wrap .i64 (D.toInt (nth r2 0) * (65536 : Int))) + IntKind.wrap .i64 (D.toInt (nth r3 0) * (256 : Int))) + D.toInt (nth r4 0))) v4)), (.ptr true [(.arr false (v0) (.ints IntKind.u8 (v1))), (.int .i64 (D.toInt (D.cell 1 (nth r4 1)))), (.int .i64 (D.toInt (D.cell 2 (nth r4 1))))])])
 (none))) := by kernel_rfl
theorem qho (k : Nat) (v0 : Bool) (v1 : List Int) (v2 v3 v4 : Int) : go (k + 1) spec_l01Once [(.ptr true [(.arr false (v0) (.ints IntKind.u8 (v1))), (.int .i64 (v2)), (.int .i64 (v3))]), (.int .i64 (v4))] =
 (go k spec_l01Below [(.ptr true [(.arr false (v0) (.ints IntKind.u8 (v1))), (.int .i64 (v2)), (.int .i64 (v3))]), (.int .i64 (v4))]).bind fun r0 =>
 some [(.bool (decide (D.toInt (nth r0 0) = (0 : Int)))), (.ptr true [(.arr false (v0) (.ints IntKind.u8 (v1))), (.int .i64 (D.toInt (D.cell 1 (nth r0 1)))), (.int .i64 (D.toInt (D.cell 2 (nth r0 1))))])] := by kernel_rfl
theorem qgw (k : Nat) (a0 a1 a2 b : Int) : go (k + 1) spec_ChildOf [(.agg [(.int .i64 (a0)), (.int .i64 (a1)), (.int .i64 (a2))]), (.int .i64 (b))] =
 (go k spec_IdOk [(.agg [(.int .i64 (a0)), (.int .i64 (a1)), (.int .i64 (a2))])]).bind fun r0 =>
 cond (!bit (nth r0 0))
 (some [(.agg [(.int .i64 (0 : Int)), (.int .i64 (0 : Int)), (.int .i64 (0 : Int))]), (.bool (false))])
 (cond (decide (a1 = (4 : Int)))
 (some [(.agg [(.int .i64 (0 : Int)), (.int .i64 (0 : Int)), (.int .i64 (0 : Int))]), (.bool (false))])
 ((go k spec_l01In [(.int .i64 (b)), (.int .i64 (0 : Int)), (.int .i64 ((1 : Int)))]).bind fun r1 =>
 cond (!bit (nth r1 0))
 (some [(.agg [(.int .i64 (0 : Int)), (.int .i64 (0 : Int)), (.int .i64 (0 : Int))]), (.bool (false))])
 (some [(.agg [(.int .i64 (a0)), (.int .i64 (IntKind.wrap .i64 (a1 + (1 : Int)))), (.int .i64 (IntKind.wrap .i64 (IntKind.wrap .i64 ((2 : Int) * a2) + b)))]), (.bool (true))]))) := by kernel_rfl
def qo4 (x0 x1 : Int) (z2 : Bool) (l3 : List Int) (x4 x5 : Int) (z6 : Bool) (l7 : List (Int × Int × Int)) (x8 x9 x10 : Int) : St := ⟨fill 44 [(0, (.ptr 1 (0) (0))), (2, (.int .i64 (x0))), (3, (.ptr 3 (0) (0))), (5, (.ptr 4 (0) (0))), (8, (.int .i64 (x1)))], [(.ptr 1 (0) (0)), (.ptr 3 (0) (0)), (.sl 0 none)], [(.arr false (z2) (.ints IntKind.u8 (l3))), (.box true [(.sl 0 none), (.int .i64 (x4)), (.int .i64 (x5))]), (.arr true (z6) (.r3 (l7))), (.box true [(.sl 2 none)]), (.box true [(.int .i64 (x8)), (.int .i64 (x9)), (.int .i64 (x10))])]⟩
theorem qhs (k : Nat) (v0 : Bool) (v1 : List Int) (v2 v3 v4 v5 v6 v7 : Int) (v8 : Bool) (v9 : List (Int × Int × Int)) : go (k + 1) spec_l04Root [(.ptr true [(.arr false (v0) (.ints IntKind.u8 (v1))), (.int .i64 (v2)), (.int .i64 (v3))]), (.agg [(.int .i64 (v4)), (.int .i64 (v5)), (.int .i64 (v6))]), (.int .i64 (v7)), (.ptr true [(.arr true (v8) (.r3 (v9)))])] =
 cond (decide (v5 = (4 : Int)))
 (cond (decide (List.length (v9 ++ [(v4, v5, v6)]) ≤ bigLen))
 (some [(.ptr true [(.arr false (v0) (.ints IntKind.u8 (v1))), (.int .i64 (v2)), (.int .i64 (v3))]), (.ptr true [(.arr true (v8 && decide (List.length (v9 ++ [(v4, v5, v6)]) = 0)) (.r3 (v9 ++ [(v4, v5, v6)])))])])
 (none))
 ((go k spec_l01Once [(.ptr true [(.arr false (v0) (.ints IntKind.u8 (v1))), (.int .i64 (v2)), (.int .i64 (v3))]), (.int .i64 (v7))]).bind fun r0 =>
 cond (!bit (nth r0 0))
 (cond (decide (List.length (v9 ++ [(v4, v5, v6)]) ≤ bigLen))
 (some [(.ptr true [(.arr false (v0) (.ints IntKind.u8 (v1))), (.int .i64 (D.toInt (D.cell 1 (nth r0 1)))), (.int .i64 (D.toInt (D.cell 2 (nth r0 1))))]), (.ptr true [(.arr true (v8 && decide (List.length (v9 ++ [(v4, v5, v6)]) = 0)) (.r3 (v9 ++ [(v4, v5, v6)])))])])
 (none))
 (lp k spec_l04Root [(.ptr true [(.arr false (v0) (.ints IntKind.u8 (v1))), (.int .i64 (v2)), (.int .i64 (v3))]), (.ptr true [(.arr true (v8) (.r3 (v9)))])] [] 4 k (qo4 v7 (0 : Int) v0 v1 (D.toInt (D.cell 1 (nth r0 1))) (D.toInt (D.cell 2 (nth r0 1))) v8 v9 v4 v5 v6))) := by kernel_rfl
theorem qkn (k n : Nat) (fu : List (Nat × Nat)) (v0 : Bool) (v1 : List Int) (v2 v3 : Int) (v8 : Bool) (v9 : List (Int × Int × Int)) (x0 x1 : Int) (z2 : Bool) (l3 : List Int) (x4 x5 : Int) (z6 : Bool) (l7 : List (Int × Int × Int)) (x8 x9 x10 : Int) : lp k spec_l04Root [(.ptr true [(.arr false (v0) (.ints IntKind.u8 (v1))), (.int .i64 (v2)), (.int .i64 (v3))]), (.ptr true [(.arr true (v8) (.r3 (v9)))])] fu 4 (n + 1) (qo4 x0 x1 z2 l3 x4 x5 z6 l7 x8 x9 x10) =
 cond (decide (x1 < (2 : Int)))
 ((go k spec_ChildOf [(.agg [(.int .i64 (x8)), (.int .i64 (x9)), (.int .i64 (x10))]), (.int .i64 (x1))]).bind fun r0 =>
 (go k spec_l04Root [(.ptr true [(.arr false (z2) (.ints IntKind.u8 (l3))), (.int .i64 (x4)), (.int .i64 (x5))]), (.agg [(.int .i64 (D.toInt (D.cell 0 (nth r0 0)))), (.int .i64 (D.toInt (D.cell 1 (nth r0 0)))), (.int .i64 (D.toInt (D.cell 2 (nth r0 0))))]), (.int .i64 (IntKind.wrap .i64 (x0 + (1 : Int)))), (.ptr true [(.arr true (z6) (.r3 (l7)))])]).bind fun r1 =>
 lp k spec_l04Root [(.ptr true [(.arr false (v0) (.ints IntKind.u8 (v1))), (.int .i64 (v2)), (.int .i64 (v3))]), (.ptr true [(.arr true (v8) (.r3 (v9)))])] fu 4 n (qo4 x0 (IntKind.wrap .i64 (x1 + (1 : Int))) z2 l3 (D.toInt (D.cell 1 (nth r1 0))) (D.toInt (D.cell 2 (nth r1 0))) (D.nil (D.cell 0 (nth r1 1))) (D.r3 (D.cell 0 (nth r1 1))) x8 x9 x10))
 (some [(.ptr true [(.arr false (z2) (.ints IntKind.u8 (l3))), (.int .i64 (x4)), (.int .i64 (x5))]), (.ptr true [(.arr true (z6) (.r3 (l7)))])]) := by kernel_rfl
def qo3 (x0 : Int) (z1 : Bool) (l2 : List Int) (x3 x4 : Int) (z5 : Bool) (l6 : List (Int × Int × Int)) (x7 : Int) (z8 : Bool) (l9 : List (Int × Int × Int)) (x10 : Int) : St := ⟨fill 24 [(0, (.ptr 1 (0) (0))), (2, (.ptr 3 (0) (0))), (3, (.ptr 5 (0) (0))), (4, (.int .i64 (x0)))], [(.ptr 1 (0) (0)), (.sl 0 none)], [(.arr false (z1) (.ints IntKind.u8 (l2))), (.box true [(.sl 0 none), (.int .i64 (x3)), (.int .i64 (x4))]), (.arr true (z5) (.r3 (l6))), (.box true [(.int .i64 (x7)), (.sl 2 none)]), (.arr true (z8) (.r3 (l9))), (.box true [(.int .i64 (x10)), (.sl 4 none)])]⟩
theorem qhr (k : Nat) (v0 : Bool) (v1 : List Int) (v2 v3 : Int) : go (k + 1) spec_l04Mesh [(.ptr true [(.arr false (v0) (.ints IntKind.u8 (v1))), (.int .i64 (v2)), (.int .i64 (v3))])] =
 (go k spec_l01Below [(.ptr true [(.arr false (v0) (.ints IntKind.u8 (v1))), (.int .i64 (v2)), (.int .i64 (v3))]), (.int .i64 ((3 : Int)))]).bind fun r0 =>
 lp k spec_l04Mesh [(.ptr true [(.arr false (v0) (.ints IntKind.u8 (v1))), (.int .i64 (v2)), (.int .i64 (v3))])] [] 3 k (qo3 (0 : Int) v0 v1 (D.toInt (D.cell 1 (nth r0 1))) (D.toInt (D.cell 2 (nth r0 1))) true ([]) (0 : Int) true ([]) (IntKind.wrap .i64 ((1 : Int) + D.toInt (nth r0 0)))) := by kernel_rfl
theorem qkm (k n : Nat) (fu : List (Nat × Nat)) (v0 : Bool) (v1 : List Int) (v2 v3 x0 : Int) (z1 : Bool) (l2 : List Int) (x3 x4 : Int) (z5 : Bool) (l6 : List (Int × Int × Int)) (x7 : Int) (z8 : Bool) (l9 : List (Int × Int × Int)) (x10 : Int) : lp k spec_l04Mesh [(.ptr true [(.arr false (v0) (.ints IntKind.u8 (v1))), (.int .i64 (v2)), (.int .i64 (v3))])] fu 3 (n + 1) (qo3 x0 z1 l2 x3 x4 z5 l6 x7 z8 l9 x10) =
 cond (decide (x0 < x10))
 ((go k spec_l01Below [(.ptr true [(.arr false (z1) (.ints IntKind.u8 (l2))), (.int .i64 (x3)), (.int .i64 (x4))]), (.int .i64 ((2 : Int)))]).bind fun r0 =>
 (go k spec_l04Root [(.ptr true [(.arr false (z1) (.ints IntKind.u8 (l2))), (.int .i64 (D.toInt (D.cell 1 (nth r0 1)))), (.int .i64 (D.toInt (D.cell 2 (nth r0 1))))]), (.agg [(.int .i64 (x0)), (.int .i64 (0 : Int)), (.int .i64 (0 : Int))]), (.int .i64 (IntKind.wrap .i64 ((1 : Int) + D.toInt (nth r0 0)))), (.ptr true [(.arr true (z8) (.r3 (l9)))])]).bind fun r1 =>
 lp k spec_l04Mesh [(.ptr true [(.arr false (v0) (.ints IntKind.u8 (v1))), (.int .i64 (v2)), (.int .i64 (v3))])] fu 3 n (qo3 (IntKind.wrap .i64 (x0 + (1 : Int))) z1 l2 (D.toInt (D.cell 1 (nth r1 0))) (D.toInt (D.cell 2 (nth r1 0))) z5 l6 x7 (D.nil (D.cell 0 (nth r1 1))) (D.r3 (D.cell 0 (nth r1 1))) x10))
 (some [(.agg [(.int .i64 (x10)), (.arr true (z8) (.r3 (l9)))]), (.ptr true [(.arr false (z1) (.ints IntKind.u8 (l2))), (.int .i64 (x3)), (.int .i64 (x4))])]) := by kernel_rfl
def qov (x0 : Int) (z1 : Bool) (l2 : List (Int × Int × Int)) (x3 : Int) (z4 : Bool) (l5 : List (Int × Int × Int)) (x6 : Int) : St := ⟨fill 23 [(2, (.ptr 1 (0) (0))), (3, (.ptr 3 (0) (0))), (4, (.int .i64 (x0)))], [], [(.arr true (z1) (.r3 (l2))), (.box true [(.int .i64 (x3)), (.sl 0 none)]), (.arr true (z4) (.r3 (l5))), (.box true [(.int .i64 (x6)), (.sl 2 none)])]⟩
theorem qgu (k : Nat) (a0 : Int) (a1z : Bool) (a1 : List (Int × Int × Int)) : go (k + 1) spec_Balance [(.agg [(.int .i64 (a0)), (.arr false (a1z) (.r3 (a1)))])] =
 (go k spec_l04Copy [(.agg [(.int .i64 (a0)), (.arr false (a1z) (.r3 (a1)))])]).bind fun r0 =>
 (go k spec_MeshOk [(.agg [(.int .i64 (a0)), (.arr false (a1z) (.r3 (a1)))])]).bind fun r1 =>
 cond (!bit (nth r1 0))
 (some [(.agg [(.int .i64 (D.toInt (D.cell 0 (nth r0 0)))), (.arr true (D.nil (D.cell 1 (nth r0 0))) (.r3 (D.r3 (D.cell 1 (nth r0 0)))))])])
 ((go k spec_l05First [(.agg [(.int .i64 (D.toInt (D.cell 0 (nth r0 0)))), (.arr false (D.nil (D.cell 1 (nth r0 0))) (.r3 (D.r3 (D.cell 1 (nth r0 0)))))])]).bind fun r2 =>
 lp k spec_Balance [] [] 5 k (qov (D.toInt (nth r2 0)) true ([]) (0 : Int) (D.nil (D.cell 1 (nth r0 0))) (D.r3 (D.cell 1 (nth r0 0))) (D.toInt (D.cell 0 (nth r0 0))))) := by kernel_rfl
theorem qke (k n : Nat) (fu : List (Nat × Nat)) (x0 : Int) (z1 : Bool) (l2 : List (Int × Int × Int)) (x3 : Int) (z4 : Bool) (l5 : List (Int × Int × Int)) (x6 : Int) : lp k spec_Balance [] fu 5 (n + 1) (qov x0 z1 l2 x3 z4 l5 x6) =
 cond (decide ((0 : Int) ≤ x0))
 ((go k spec_l05Coarser [(.agg [(.int .i64 (x6)), (.arr false (z4) (.r3 (l5)))]), (.int .i64 (x0))]).bind fun r0 =>
 (go k spec_l05Split [(.agg [(.int .i64 (x6)), (.arr false (z4) (.r3 (l5)))]), (.int .i64 (D.toInt (nth r0 0)))]).bind fun r1 =>
 (go k spec_l05First [(.agg [(.int .i64 (D.toInt (D.cell 0 (nth r1 0)))), (.arr false (D.nil (D.cell 1 (nth r1 0))) (.r3 (D.r3 (D.cell 1 (nth r1 0)))))])]).bind fun r2 =>
 lp k spec_Balance [] fu 5 n (qov (D.toInt (nth r2 0)) z1 l2 x3 (D.nil (D.cell 1 (nth r1 0))) (D.r3 (D.cell 1 (nth r1 0))) (D.toInt (D.cell 0 (nth r1 0)))))
 (some [(.agg [(.int .i64 (x6)), (.arr true (z4) (.r3 (l5)))])]) := by kernel_rfl
theorem qht (k : Nat) (a0 : Int) (a1z : Bool) (a1 : List (Int × Int × Int)) (b : Int) : go (k + 1) spec_l05Coarser [(.agg [(.int .i64 (a0)), (.arr false (a1z) (.r3 (a1)))]), (.int .i64 (b))] =
 cond (decide ((0 : Int) ≤ b) && decide (b < nI (List.length a1)))
 (cond (decide ((0 : Int) ≤ IntKind.wrap .i64 (b + (1 : Int))) && decide (IntKind.wrap .i64 (b + (1 : Int)) < nI (List.length a1)))
 (cond (decide (Prod.fst (Prod.snd (List.getD a1 (Int.toNat (IntKind.wrap .i64 (b + (1 : Int)))) zz3)) < Prod.fst (Prod.snd (List.getD a1 (Int.toNat b) zz3))))
 (some [(.int .i64 (IntKind.wrap .i64 (b + (1 : Int))))])
 (some [(.int .i64 (b))]))
 (none))
 (none) := by kernel_rfl
theorem qhx (k : Nat) (a0 : Int) (a1z : Bool) (a1 : List (Int × Int × Int)) (b : Int) : go (k + 1) spec_l05Split [(.agg [(.int .i64 (a0)), (.arr false (a1z) (.r3 (a1)))]), (.int .i64 (b))] =
 cond (decide ((0 : Int) ≤ b) && decide (b < nI (List.length a1)))
 ((go k spec_ChildOf [(.agg [(.int .i64 (Prod.fst (List.getD a1 (Int.toNat b) zz3))), (.int .i64 (Prod.fst (Prod.snd (List.getD a1 (Int.toNat b) zz3)))), (.int .i64 (Prod.snd (Prod.snd (List.getD a1 (Int.toNat b) zz3))))]), (.int .i64 (0 : Int))]).bind fun r0 =>
 cond (decide ((0 : Int) ≤ b) && decide (b < nI (List.length a1)))
 ((go k spec_ChildOf [(.agg [(.int .i64 (Prod.fst (List.getD a1 (Int.toNat b) zz3))), (.int .i64 (Prod.fst (Prod.snd (List.getD a1 (Int.toNat b) zz3)))), (.int .i64 (Prod.snd (Prod.snd (List.getD a1 (Int.toNat b) zz3))))]), (.int .i64 ((1 : Int)))]).bind fun r1 =>
 cond (decide ((0 : Int) ≤ (0 : Int)) && decide ((0 : Int) ≤ b) && decide (b ≤ nI (List.length a1)))
 (cond (decide (List.length ([] ++ List.take (Int.toNat b - Int.toNat (0 : Int)) (List.drop (0 + Int.toNat (0 : Int)) a1)) ≤ bigLen))
 (cond (decide (List.length ([] ++ List.take (Int.toNat b - Int.toNat (0 : Int)) (List.drop (0 + Int.toNat (0 : Int)) a1) ++ [(D.toInt (D.cell 0 (nth r0 0)), D.toInt (D.cell 1 (nth r0 0)), D.toInt (D.cell 2 (nth r0 0))), (D.toInt (D.cell 0 (nth r1 0)), D.toInt (D.cell 1 (nth r1 0)), D.toInt (D.cell 2 (nth r1 0)))]) ≤ bigLen))
 (cond (decide ((0 : Int) ≤ IntKind.wrap .i64 (b + (1 : Int))) && decide (IntKind.wrap .i64 (b + (1 : Int)) ≤ nI (List.length a1)) && decide (nI (List.length a1) ≤ nI (List.length a1)))
 (cond (decide (List.length ([] ++ List.take (Int.toNat b - Int.toNat (0 : Int)) (List.drop (0 + Int.toNat (0 : Int)) a1) ++ [(D.toInt (D.cell 0 (nth r0 0)), D.toInt (D.cell 1 (nth r0 0)), D.toInt (D.cell 2 (nth r0 0))), (D.toInt (D.cell 0 (nth r1 0)), D.toInt (D.cell 1 (nth r1 0)), D.toInt (D.cell 2 (nth r1 0)))] ++ List.take (Int.toNat (nI (List.length a1)) - Int.toNat (IntKind.wrap .i64 (b + (1 : Int)))) (List.drop (0 + Int.toNat (IntKind.wrap .i64 (b + (1 : Int)))) a1)) ≤ bigLen))
 (some [(.agg [(.int .i64 (a0)), (.arr true (false && decide (List.length ([] ++ List.take (Int.toNat b - Int.toNat (0 : Int)) (List.drop (0 + Int.toNat (0 : Int)) a1)) = 0) && decide (List.length ([] ++ List.take (Int.toNat b - Int.toNat (0 : Int)) (List.drop (0 + Int.toNat (0 : Int)) a1) ++ [(D.toInt (D.cell 0 (nth r0 0)), D.toInt (D.cell 1 (nth r0 0)), D.toInt (D.cell 2 (nth r0 0))), (D.toInt (D.cell 0 (nth r1 0)), D.toInt (D.cell 1 (nth r1 0)), D.toInt (D.cell 2 (nth r1 0)))]) = 0) && decide (List.length ([] ++ List.take (Int.toNat b - Int.toNat (0 : Int)) (List.drop (0 + Int.toNat (0 : Int)) a1) ++ [(D.toInt (D.cell 0 (nth r0 0)), D.toInt (D.cell 1 (nth r0 0)), D.toInt (D.cell 2 (nth r0 0))), (D.toInt (D.cell 0 (nth r1 0)), D.toInt (D.cell 1 (nth r1 0)), D.toInt (D.cell 2 (nth r1 0)))] ++ List.take (Int.toNat (nI (List.length a1)) - Int.toNat (IntKind.wrap .i64 (b + (1 : Int)))) (List.drop (0 + Int.toNat (IntKind.wrap .i64 (b + (1 : Int)))) a1)) = 0)) (.r3 ([] ++ List.take (Int.toNat b - Int.toNat (0 : Int)) (List.drop (0 + Int.toNat (0 : Int)) a1) ++ [(D.toInt (D.cell 0 (nth r0 0)), D.toInt (D.cell 1 (nth r0 0)), D.toInt (D.cell 2 (nth r0 0))), (D.toInt (D.cell 0 (nth r1 0)), D.toInt (D.cell 1 (nth r1 0)), D.toInt (D.cell 2 (nth r1 0)))] ++ List.take (Int.toNat (nI (List.length a1)) - Int.toNat (IntKind.wrap .i64 (b + (1 : Int)))) (List.drop (0 + Int.toNat (IntKind.wrap .i64 (b + (1 : Int)))) a1))))])])
 (none))
 (none))
 (none))
 (none))
 (none))
 (none))
 (none) := by kernel_rfl
theorem qhw (k : Nat) (v0 : Bool) (v1 : List Int) (v2 v3 : Int) : go (k + 1) spec_l05Mesh [(.ptr true [(.arr false (v0) (.ints IntKind.u8 (v1))), (.int .i64 (v2)), (.int .i64 (v3))])] =
 (go k spec_l04Mesh [(.ptr true [(.arr false (v0) (.ints IntKind.u8 (v1))), (.int .i64 (v2)), (.int .i64 (v3))])]).bind fun r0 =>
 (go k spec_Balance [(.agg [(.int .i64 (D.toInt (D.cell 0 (nth r0 0)))), (.arr false (D.nil (D.cell 1 (nth r0 0))) (.r3 (D.r3 (D.cell 1 (nth r0 0)))))])]).bind fun r1 =>
 some [(.agg [(.int .i64 (D.toInt (D.cell 0 (nth r1 0)))), (.arr true (D.nil (D.cell 1 (nth r1 0))) (.r3 (D.r3 (D.cell 1 (nth r1 0)))))]), (.ptr true [(.arr false (v0) (.ints IntKind.u8 (v1))), (.int .i64 (D.toInt (D.cell 1 (nth r0 1)))), (.int .i64 (D.toInt (D.cell 2 (nth r0 1))))])] := by kernel_rfl
def qo6 (x0 : Int) (z1 : Bool) (l2 : List Int) (x3 x4 : Int) (z5 : Bool) (l6 : List (Int × Int × Int)) (z7 : Bool) (l8 : List Int) (z9 : Bool) (l10 : List Int) (z11 : Bool) (l12 : List Int) (x13 : Int) (z14 : Bool) (l15 : List (Int × Int × Int)) (x16 : Int) (z17 : Bool) (l18 : List Int) (z19 : Bool) (l20 : List Int) (z21 : Bool) (l22 : List Int) (x23 : Int) : St := ⟨fill 67 [(0, (.ptr 1 (0) (0))), (2, (.ptr 6 (0) (0))), (3, (.ptr 8 (0) (0))), (4, (.ptr 12 (0) (0))), (5, (.int .i64 (x0)))], [(.ptr 1 (0) (0)), (.sl 0 none)], [(.arr false (z1) (.ints IntKind.u8 (l2))), (.box true [(.sl 0 none), (.int .i64 (x3)), (.int .i64 (x4))]), (.arr true (z5) (.r3 (l6))), (.arr true (z7) (.ints .i64 (l8))), (.arr true (z9) (.ints .i64 (l10))), (.arr true (z11) (.ints .i64 (l12))), (.box true [(.int .i64 (x13)), (.sl 2 none), (.sl 3 none), (.sl 4 none), (.sl 5 none)]), (.arr true (z14) (.r3 (l15))), (.box true [(.int .i64 (x16)), (.sl 7 none)]), (.arr true (z17) (.ints .i64 (l18))), (.arr true (z19) (.ints .i64 (l20))), (.arr true (z21) (.ints .i64 (l22))), (.box true [(.int .i64 (x23)), (.sl 7 none), (.sl 9 none), (.sl 10 none), (.sl 11 none)])]⟩
def qo7 (x0 x1 : Int) (z2 : Bool) (l3 : List Int) (x4 x5 : Int) (z6 : Bool) (l7 : List (Int × Int × Int)) (z8 : Bool) (l9 : List Int) (z10 : Bool) (l11 : List Int) (z12 : Bool) (l13 : List Int) (x14 : Int) (z15 : Bool) (l16 : List (Int × Int × Int)) (x17 : Int) (z18 : Bool) (l19 : List Int) (z20 : Bool) (l21 : List Int) (z22 : Bool) (l23 : List Int) (x24 : Int) : St := ⟨fill 67 [(0, (.ptr 1 (0) (0))), (2, (.ptr 6 (0) (0))), (3, (.ptr 8 (0) (0))), (4, (.ptr 12 (0) (0))), (6, (.int .i64 (x0))), (7, (.int .i64 (x1)))], [(.ptr 1 (0) (0)), (.sl 0 none)], [(.arr false (z2) (.ints IntKind.u8 (l3))), (.box true [(.sl 0 none), (.int .i64 (x4)), (.int .i64 (x5))]), (.arr true (z6) (.r3 (l7))), (.arr true (z8) (.ints .i64 (l9))), (.arr true (z10) (.ints .i64 (l11))), (.arr true (z12) (.ints .i64 (l13))), (.box true [(.int .i64 (x14)), (.sl 2 none), (.sl 3 none), (.sl 4 none), (.sl 5 none)]), (.arr true (z15) (.r3 (l16))), (.box true [(.int .i64 (x17)), (.sl 7 none)]), (.arr true (z18) (.ints .i64 (l19))), (.arr true (z20) (.ints .i64 (l21))), (.arr true (z22) (.ints .i64 (l23))), (.box true [(.int .i64 (x24)), (.sl 7 none), (.sl 9 none), (.sl 10 none), (.sl 11 none)])]⟩
theorem qh1 (k : Nat) (v0 : Bool) (v1 : List Int) (v2 v3 : Int) : go (k + 1) spec_l07State [(.ptr true [(.arr false (v0) (.ints IntKind.u8 (v1))), (.int .i64 (v2)), (.int .i64 (v3))])] =
 (go k spec_l05Mesh [(.ptr true [(.arr false (v0) (.ints IntKind.u8 (v1))), (.int .i64 (v2)), (.int .i64 (v3))])]).bind fun r0 =>
 lp k spec_l07State [(.ptr true [(.arr false (v0) (.ints IntKind.u8 (v1))), (.int .i64 (v2)), (.int .i64 (v3))])] [] 4 k (qo6 (0 : Int) v0 v1 (D.toInt (D.cell 1 (nth r0 1))) (D.toInt (D.cell 2 (nth r0 1))) true ([]) true ([]) true ([]) true ([]) (0 : Int) (D.nil (D.cell 1 (nth r0 0))) (D.r3 (D.cell 1 (nth r0 0))) (D.toInt (D.cell 0 (nth r0 0))) true ([]) true ([]) true ([]) (D.toInt (D.cell 0 (nth r0 0)))) := by kernel_rfl
theorem qkp (k n : Nat) (fu : List (Nat × Nat)) (v0 : Bool) (v1 : List Int) (v2 v3 x0 : Int) (z1 : Bool) (l2 : List Int) (x3 x4 : Int) (z5 : Bool) (l6 : List (Int × Int × Int)) (z7 : Bool) (l8 : List Int) (z9 : Bool) (l10 : List Int) (z11 : Bool) (l12 : List Int) (x13 : Int) (z14 : Bool) (l15 : List (Int × Int × Int)) (x16 : Int) (z17 : Bool) (l18 : List Int) (z19 : Bool) (l20 : List Int) (z21 : Bool) (l22 : List Int) (x23 : Int) : lp k spec_l07State [(.ptr true [(.arr false (v0) (.ints IntKind.u8 (v1))), (.int .i64 (v2)), (.int .i64 (v3))])] fu 4 (n + 1) (qo6 x0 z1 l2 x3 x4 z5 l6 z7 l8 z9 l10 z11 l12 x13 z14 l15 x16 z17 l18 z19 l20 z21 l22 x23) =
 cond (decide (x0 < x16))
 ((go k spec_l01Below [(.ptr true [(.arr false (z1) (.ints IntKind.u8 (l2))), (.int .i64 (x3)), (.int .i64 (x4))]), (.int .i64 ((4 : Int)))]).bind fun r0 =>
 (go k spec_l01Below [(.ptr true [(.arr false (z1) (.ints IntKind.u8 (l2))), (.int .i64 (D.toInt (D.cell 1 (nth r0 1)))), (.int .i64 (D.toInt (D.cell 2 (nth r0 1))))]), (.int .i64 ((5000 : Int)))]).bind fun r1 =>
 cond (decide (List.length (l22 ++ [IntKind.wrap .i64 (D.toInt (nth r0 0) * D.toInt (nth r1 0))]) ≤ bigLen))
 (lp k spec_l07State [(.ptr true [(.arr false (v0) (.ints IntKind.u8 (v1))), (.int .i64 (v2)), (.int .i64 (v3))])] fu 4 n (qo6 (IntKind.wrap .i64 (x0 + (1 : Int))) z1 l2 (D.toInt (D.cell 1 (nth r1 1))) (D.toInt (D.cell 2 (nth r1 1))) z5 l6 z7 l8 z9 l10 z11 l12 x13 z14 l15 x16 z17 l18 z19 l20 (z21 && decide (List.length (l22 ++ [IntKind.wrap .i64 (D.toInt (nth r0 0) * D.toInt (nth r1 0))]) = 0)) (l22 ++ [IntKind.wrap .i64 (D.toInt (nth r0 0) * D.toInt (nth r1 0))]) x23))
 (none))
 ((go k spec_l01Below [(.ptr true [(.arr false (z1) (.ints IntKind.u8 (l2))), (.int .i64 (x3)), (.int .i64 (x4))]), (.int .i64 ((20000 : Int)))]).bind fun r2 =>
 lp k spec_l07State [(.ptr true [(.arr false (v0) (.ints IntKind.u8 (v1))), (.int .i64 (v2)), (.int .i64 (v3))])] fu 9 k (qo7 (IntKind.wrap .i64 ((1 : Int) + D.toInt (nth r2 0))) (0 : Int) z1 l2 (D.toInt (D.cell 1 (nth r2 1))) (D.toInt (D.cell 2 (nth r2 1))) z5 l6 z7 l8 z9 l10 z11 l12 x13 z14 l15 x16 z17 l18 z19 l20 z21 l22 x23)) := by kernel_rfl
theorem qkq (k n : Nat) (fu : List (Nat × Nat)) (v0 : Bool) (v1 : List Int) (v2 v3 x0 x1 : Int) (z2 : Bool) (l3 : List Int) (x4 x5 : Int) (z6 : Bool) (l7 : List (Int × Int × Int)) (z8 : Bool) (l9 : List Int) (z10 : Bool) (l11 : List Int) (z12 : Bool) (l13 : List Int) (x14 : Int) (z15 : Bool) (l16 : List (Int × Int × Int)) (x17 : Int) (z18 : Bool) (l19 : List Int) (z20 : Bool) (l21 : List Int) (z22 : Bool) (l23 : List Int) (x24 : Int) : lp k spec_l07State [(.ptr true [(.arr false (v0) (.ints IntKind.u8 (v1))), (.int .i64 (v2)), (.int .i64 (v3))])] fu 9 (n + 1) (qo7 x0 x1 z2 l3 x4 x5 z6 l7 z8 l9 z10 l11 z12 l13 x14 z15 l16 x17 z18 l19 z20 l21 z22 l23 x24) =
 cond (decide (x1 < nI (List.length l16)))
 ((go k spec_l01Below [(.ptr true [(.arr false (z2) (.ints IntKind.u8 (l3))), (.int .i64 (x4)), (.int .i64 (x5))]), (.int .i64 (x0))]).bind fun r0 =>
 (go k spec_l01Once [(.ptr true [(.arr false (z2) (.ints IntKind.u8 (l3))), (.int .i64 (D.toInt (D.cell 1 (nth r0 1)))), (.int .i64 (D.toInt (D.cell 2 (nth r0 1))))]), (.int .i64 ((6 : Int)))]).bind fun r1 =>
 cond (bit (nth r1 0))
 ((go k spec_l01Below [(.ptr true [(.arr false (z2) (.ints IntKind.u8 (l3))), (.int .i64 (D.toInt (D.cell 1 (nth r1 1)))), (.int .i64 (D.toInt (D.cell 2 (nth r1 1))))]), (.int .i64 ((3 : Int)))]).bind fun r2 =>
 cond (decide (List.length (l19 ++ [D.toInt (nth r2 0)]) ≤ bigLen))
 ((go k spec_l01Below [(.ptr true [(.arr false (z2) (.ints IntKind.u8 (l3))), (.int .i64 (D.toInt (D.cell 1 (nth r2 1)))), (.int .i64 (D.toInt (D.cell 2 (nth r2 1))))]), (.int .i64 ((200 : Int)))]).bind fun r3 =>
 (go k spec_l01Below [(.ptr true [(.arr false (z2) (.ints IntKind.u8 (l3))), (.int .i64 (D.toInt (D.cell 1 (nth r3 1)))), (.int .i64 (D.toInt (D.cell 2 (nth r3 1))))]), (.int .i64 (IntKind.wrap .i64 (D.toInt (nth r2 0) + (1 : Int))))]).bind fun r4 =>
 cond (decide (List.length (l21 ++ [IntKind.wrap .i64 (IntKind.wrap .i64 (D.toInt (nth r2 0) * D.toInt (nth r3 0)) + D.toInt (nth r4 0))]) ≤ bigLen))
 (lp k spec_l07State [(.ptr true [(.arr false (v0) (.ints IntKind.u8 (v1))), (.int .i64 (v2)), (.int .i64 (v3))])] fu 9 n (qo7 x0 (IntKind.wrap .i64 (x1 + (1 : Int))) z2 l3 (D.toInt (D.cell 1 (nth r4 1))) (D.toInt (D.cell 2 (nth r4 1))) z6 l7 z8 l9 z10 l11 z12 l13 x14 z15 l16 x17 (z18 && decide (List.length (l19 ++ [D.toInt (nth r2 0)]) = 0)) (l19 ++ [D.toInt (nth r2 0)]) (z20 && decide (List.length (l21 ++ [IntKind.wrap .i64 (IntKind.wrap .i64 (D.toInt (nth r2 0) * D.toInt (nth r3 0)) + D.toInt (nth r4 0))]) = 0)) (l21 ++ [IntKind.wrap .i64 (IntKind.wrap .i64 (D.toInt (nth r2 0) * D.toInt (nth r3 0)) + D.toInt (nth r4 0))]) z22 l23 x24))
 (none))
 (none))
 (cond (decide (List.length (l19 ++ [D.toInt (nth r0 0)]) ≤ bigLen))
 ((go k spec_l01Below [(.ptr true [(.arr false (z2) (.ints IntKind.u8 (l3))), (.int .i64 (D.toInt (D.cell 1 (nth r1 1)))), (.int .i64 (D.toInt (D.cell 2 (nth r1 1))))]), (.int .i64 ((200 : Int)))]).bind fun r5 =>
 (go k spec_l01Below [(.ptr true [(.arr false (z2) (.ints IntKind.u8 (l3))), (.int .i64 (D.toInt (D.cell 1 (nth r5 1)))), (.int .i64 (D.toInt (D.cell 2 (nth r5 1))))]), (.int .i64 (IntKind.wrap .i64 (D.toInt (nth r0 0) + (1 : Int))))]).bind fun r6 =>
 cond (decide (List.length (l21 ++ [IntKind.wrap .i64 (IntKind.wrap .i64 (D.toInt (nth r0 0) * D.toInt (nth r5 0)) + D.toInt (nth r6 0))]) ≤ bigLen))
 (lp k spec_l07State [(.ptr true [(.arr false (v0) (.ints IntKind.u8 (v1))), (.int .i64 (v2)), (.int .i64 (v3))])] fu 9 n (qo7 x0 (IntKind.wrap .i64 (x1 + (1 : Int))) z2 l3 (D.toInt (D.cell 1 (nth r6 1))) (D.toInt (D.cell 2 (nth r6 1))) z6 l7 z8 l9 z10 l11 z12 l13 x14 z15 l16 x17 (z18 && decide (List.length (l19 ++ [D.toInt (nth r0 0)]) = 0)) (l19 ++ [D.toInt (nth r0 0)]) (z20 && decide (List.length (l21 ++ [IntKind.wrap .i64 (IntKind.wrap .i64 (D.toInt (nth r0 0) * D.toInt (nth r5 0)) + D.toInt (nth r6 0))]) = 0)) (l21 ++ [IntKind.wrap .i64 (IntKind.wrap .i64 (D.toInt (nth r0 0) * D.toInt (nth r5 0)) + D.toInt (nth r6 0))]) z22 l23 x24))
 (none))
 (none)))
 (some [(.agg [(.int .i64 (x24)), (.arr true (z15) (.r3 (l16))), (.arr true (z18) (.ints .i64 (l19))), (.arr true (z20) (.ints .i64 (l21))), (.arr true (z22) (.ints .i64 (l23)))]), (.ptr true [(.arr false (z2) (.ints IntKind.u8 (l3))), (.int .i64 (x4)), (.int .i64 (x5))])]) := by kernel_rfl

end Go.Proofs.YtjfjniebmdafeaaGreatDoor
end
section
namespace Go.Proofs.YtjfjniebmdafeaaGreatDoor
open Go.Ev
set_option maxRecDepth 20000
theorem qn0 (o : Bool) (d0 : D) (l : List D) : (D.ptr o (d0 :: l)).cell 0 = d0 := Eq.trans rfl rfl
theorem qn1 (o : Bool) (d0 d1 : D) (l : List D) : (D.ptr o (d0 :: d1 :: l)).cell 1 = d1 := Eq.trans rfl rfl
theorem qn2 (o : Bool) (d0 d1 d2 : D) (l : List D) : (D.ptr o (d0 :: d1 :: d2 :: l)).cell 2 = d2 := Eq.trans rfl rfl
theorem qaz (x : Int) : 0 ≤ bitN .and .i64 x 255 ∧ bitN .and .i64 x 255 ≤ 255 := by
  have h : (BitVec.ofInt IntKind.i64.bits x &&& BitVec.ofInt IntKind.i64.bits 255).toNat ≤ 255 := by
    rw [BitVec.toNat_and]; exact Nat.le_trans Nat.and_le_right (by decide)
  show 0 ≤ IntKind.wrap .i64 _ ∧ IntKind.wrap .i64 _ ≤ 255
  rw [qr4 (by omega) (by omega)]; omega
theorem qc9 (k : Nat) (hk : 2000000 ≤ k) (z : Bool) (l : List Int) (i h : Int) (hl : (l.length : Int) ≤ 1048576) (h0 : 0 ≤ i) (h1 : i ≤ l.length) : ∃ v i' h' : Int, go (k + 1) spec_l01Byte [.ptr true [.arr false (z) (.ints .u8 (l)), .int .i64 (i), .int .i64 (h)]] = some [.int .i64 v, .ptr true [.arr false (z) (.ints .u8 (l)), .int .i64 (i'), .int .i64 (h')]] ∧ (0 ≤ v ∧ v ≤ 255) ∧ 0 ≤ i' ∧ i' ≤ l.length := by
  have e := qhl (k + 0) z l i h
  by_cases g : i < l.length
  · simp (disch := omega) only [qay, nth0, nth1, nth2, nth3, bit, qef, qeg, qer, qew, qex, qey, qez, qe0, qe1, qe2, qeh, qei, qej, qek, qel, qem, qen, qeo, qep, qeq, qes, qet, qeu, qev, qrf, qre, qrg, qnd, qn3, qn5, qjh, qa5, qqo, nI, qfb, qe9, Bool.not_true, Bool.not_false, Bool.and_true, Bool.true_and, Bool.and_false, Bool.false_and, Bool.or_true, Bool.true_or, Bool.or_false, Bool.false_or, beq_self_eq_true, dTT, dFF, dT, dF, bigI, big0, qnc, qr4, qr5, List.length_set, List.length_replicate, Int.toNat_natCast, qed, qee, imax, imin] at e; exact ⟨_, _, _, e, qaz _, by omega, by omega⟩
  · simp (disch := omega) only [qay, nth0, nth1, nth2, nth3, bit, qef, qeg, qer, qew, qex, qey, qez, qe0, qe1, qe2, qeh, qei, qej, qek, qel, qem, qen, qeo, qep, qeq, qes, qet, qeu, qev, qrf, qre, qrg, qnd, qn3, qn5, qjh, qa5, qqo, nI, qfb, qe9, Bool.not_true, Bool.not_false, Bool.and_true, Bool.true_and, Bool.and_false, Bool.false_and, Bool.or_true, Bool.true_or, Bool.or_false, Bool.false_or, beq_self_eq_true, dTT, dFF, dT, dF, bigI, big0, qnc, qr4, qr5, List.length_set, List.length_replicate, Int.toNat_natCast, qed, qee, imax, imin] at e; exact ⟨_, _, _, e, qaz _, by omega, by omega⟩
theorem qrc {v b : Int} (h : 0 ≤ v) (hb : 1 ≤ b) : 0 ≤ Int.tmod v b ∧ Int.tmod v b < b := ⟨Int.tmod_nonneg b h, Int.tmod_lt_of_pos v (by omega)⟩
theorem qc8 (k : Nat) (hk : 2000000 ≤ k) (z : Bool) (l : List Int) (i h b : Int) (hl : (l.length : Int) ≤ 1048576) (h0 : 0 ≤ i) (h1 : i ≤ l.length) (hb : 1 ≤ b) (hb' : b ≤ 1000000) : ∃ v i' h' : Int, go (k + 2) spec_l01Below [.ptr true [.arr false (z) (.ints .u8 (l)), .int .i64 (i), .int .i64 (h)], .int .i64 b] = some [.int .i64 v, .ptr true [.arr false (z) (.ints .u8 (l)), .int .i64 (i'), .int .i64 (h')]] ∧ (0 ≤ v ∧ v < b) ∧ 0 ≤ i' ∧ i' ≤ l.length := by
  have e := qhk (k + 1) z l i h b
  obtain ⟨v1, i1, k1, e1, b1, q1, r1⟩ := qc9 k (by omega) z l i h hl h0 h1
  by_cases g : b ≤ 256
  · simp (disch := omega) only [qay, nth0, nth1, nth2, nth3, bit, qef, qeg, qer, qew, qex, qey, qez, qe0, qe1, qe2, qeh, qei, qej, qek, qel, qem, qen, qeo, qep, qeq, qes, qet, qeu, qev, qrf, qre, qrg, qnd, qn3, qn5, qjh, qa5, qqo, nI, qfb, qe9, Bool.not_true, Bool.not_false, Bool.and_true, Bool.true_and, Bool.and_false, Bool.false_and, Bool.or_true, Bool.true_or, Bool.or_false, Bool.false_or, beq_self_eq_true, dTT, dFF, dT, dF, bigI, big0, qnc, qr4, qr5, List.length_set, List.length_replicate, Int.toNat_natCast, qed, qee, imax, imin, e1, qn1, qn2] at e
    exact ⟨_, _, _, e, qrc b1.1 hb, q1, r1⟩
  · obtain ⟨v2, i2, k2, e2, b2, q2, r2⟩ := qc9 k (by omega) z l i1 k1 hl q1 r1
    obtain ⟨v3, i3, k3, e3, b3, q3, r3⟩ := qc9 k (by omega) z l i2 k2 hl q2 r2
    obtain ⟨v4, i4, k4, e4, b4, q4, r4⟩ := qc9 k (by omega) z l i3 k3 hl q3 r3
    simp (disch := omega) only [qay, nth0, nth1, nth2, nth3, bit, qef, qeg, qer, qew, qex, qey, qez, qe0, qe1, qe2, qeh, qei, qej, qek, qel, qem, qen, qeo, qep, qeq, qes, qet, qeu, qev, qrf, qre, qrg, qnd, qn3, qn5, qjh, qa5, qqo, nI, qfb, qe9, Bool.not_true, Bool.not_false, Bool.and_true, Bool.true_and, Bool.and_false, Bool.false_and, Bool.or_true, Bool.true_or, Bool.or_false, Bool.false_or, beq_self_eq_true, dTT, dFF, dT, dF, bigI, big0, qnc, qr4, qr5, List.length_set, List.length_replicate, Int.toNat_natCast, qed, qee, imax, imin, e1, e2, e3, e4, qn1, qn2] at e
    exact ⟨_, _, _, e, qrc (by omega) hb, q4, r4⟩
theorem qdb (k : Nat) (hk : 2000000 ≤ k) (z : Bool) (l : List Int) (i h b : Int) (hl : (l.length : Int) ≤ 1048576) (h0 : 0 ≤ i) (h1 : i ≤ l.length) (hb : 1 ≤ b) (hb' : b ≤ 1000000) : ∃ (v : Bool) (i' h' : Int), go (k + 3) spec_l01Once [.ptr true [.arr false (z) (.ints .u8 (l)), .int .i64 (i), .int .i64 (h)], .int .i64 b] = some [.bool v, .ptr true [.arr false (z) (.ints .u8 (l)), .int .i64 (i'), .int .i64 (h')]] ∧ 0 ≤ i' ∧ i' ≤ l.length := by
  have e := qho (k + 2) z l i h b
  obtain ⟨v1, i1, k1, e1, b1, q1, r1⟩ := qc8 k (by omega) z l i h b hl h0 h1 hb hb'
  simp (disch := omega) only [qay, nth0, nth1, nth2, nth3, bit, qef, qeg, qer, qew, qex, qey, qez, qe0, qe1, qe2, qeh, qei, qej, qek, qel, qem, qen, qeo, qep, qeq, qes, qet, qeu, qev, qrf, qre, qrg, qnd, qn3, qn5, qjh, qa5, qqo, nI, qfb, qe9, Bool.not_true, Bool.not_false, Bool.and_true, Bool.true_and, Bool.and_false, Bool.false_and, Bool.or_true, Bool.true_or, Bool.or_false, Bool.false_or, beq_self_eq_true, dTT, dFF, dT, dF, bigI, big0, qnc, qr4, qr5, List.length_set, List.length_replicate, Int.toNat_natCast, qed, qee, imax, imin, e1, qn1, qn2] at e
  exact ⟨_, _, _, e, q1, r1⟩
theorem qcd (k : Nat) (hk : 2000000 ≤ k) (r v ix b : Int) (hid : idOk r v ix = true) (hv : v < 4) (hb : b = 0 ∨ b = 1) : go (k + 3) spec_ChildOf [.agg [.int .i64 r, .int .i64 v, .int .i64 ix], .int .i64 b] = some [.agg [.int .i64 r, .int .i64 (v + 1), .int .i64 (2 * ix + b)], .bool true] := by
  rw [qgw]
  have h := qjb.1 hid
  have hp : pow2 v ≤ 16 := by
    rcases lev (qjf.2 h.2.1) with rfl | rfl | rfl | rfl | rfl <;> decide
  have hi : inR b 0 1 = true := qjf.2 (by omega)
  simp (disch := omega) only [qay, nth0, nth1, nth2, nth3, bit, qef, qeg, qer, qew, qex, qey, qez, qe0, qe1, qe2, qeh, qei, qej, qek, qel, qem, qen, qeo, qep, qeq, qes, qet, qeu, qev, qrf, qre, qrg, qnd, qn3, qn5, qjh, qa5, qqo, nI, qfb, qe9, Bool.not_true, Bool.not_false, Bool.and_true, Bool.true_and, Bool.and_false, Bool.false_and, Bool.or_true, Bool.true_or, Bool.or_false, Bool.false_or, beq_self_eq_true, dTT, dFF, dT, dF, bigI, big0, qnc, qr4, qr5, List.length_set, List.length_replicate, Int.toNat_natCast, qed, qee, imax, imin, qck, hid, qda, hi]
def qad (K : Nat) (z : Bool) (l : List Int) (v : Int) (N : Nat) : Prop := ∀ (r ix c i h : Int) (q : Bool) (out : List Cell), idOk r v ix = true → 1 ≤ c → c ≤ 90 + v → 0 ≤ i → i ≤ l.length → out.length + N ≤ 4096 →
    ∃ (new : List Cell) (i' h' : Int), go K spec_l04Root [.ptr true [.arr false (z) (.ints .u8 (l)), .int .i64 (i), .int .i64 (h)], .agg [.int .i64 r, .int .i64 v, .int .i64 ix], .int .i64 c, .ptr true [.arr true q (.r3 out)]] = some [.ptr true [.arr false (z) (.ints .u8 (l)), .int .i64 (i'), .int .i64 (h')], .ptr true [.arr true false (.r3 (out ++ new))]] ∧ (0 ≤ i' ∧ i' ≤ l.length) ∧ (1 ≤ new.length ∧ new.length ≤ N) ∧ okp (qqc r v ix) new = true ∧ endp (qqc r v ix) new = qqc r v ix + qrw v
theorem qog {r v ix : Int} (hid : idOk r v ix = true) : okp (qqc r v ix) [(r, v, ix)] = true ∧ endp (qqc r v ix) [(r, v, ix)] = qqc r v ix + qrw v :=
  ⟨qnj.2 ⟨hid, rfl, rfl⟩, rfl⟩
theorem qof (k : Nat) (hk : 2000000 ≤ k) (z : Bool) (l : List Int) (hl : (l.length : Int) ≤ 1048576) : qad (k + 4) z l 4 1 := by
  intro r ix c i h q out hid hc hc' h0 h1 ho
  have e := qhs (k + 3) z l i h r 4 ix c q out
  have lo : (out ++ [(r, (4 : Int), ix)]).length = out.length + 1 := by simp
  simp (disch := omega) only [qay, nth0, nth1, nth2, nth3, bit, qef, qeg, qer, qew, qex, qey, qez, qe0, qe1, qe2, qeh, qei, qej, qek, qel, qem, qen, qeo, qep, qeq, qes, qet, qeu, qev, qrf, qre, qrg, qnd, qn3, qn5, qjh, qa5, qqo, nI, qfb, qe9, Bool.not_true, Bool.not_false, Bool.and_true, Bool.true_and, Bool.and_false, Bool.false_and, Bool.or_true, Bool.true_or, Bool.or_false, Bool.false_or, beq_self_eq_true, dTT, dFF, dT, dF, bigI, big0, qnc, qr4, qr5, List.length_set, List.length_replicate, Int.toNat_natCast, qed, qee, imax, imin] at e
  exact ⟨[(r, 4, ix)], i, h, e, ⟨h0, h1⟩, by simp, qog hid⟩
theorem qoh (k : Nat) (hk : 2000000 ≤ k) (z : Bool) (l : List Int) (hl : (l.length : Int) ≤ 1048576) (v : Int) (h0v : 0 ≤ v) (hv : v < 4) (N : Nat) (hN : 1 ≤ N) (H : qad (k + 4) z l (v + 1) N) : qad (k + 4 + 1) z l v (2 * N) := by
  intro r ix c i h q out hid hc hc' h0 h1 ho
  have e := qhs (k + 4) z l i h r v ix c q out
  have lo : (out ++ [(r, v, ix)]).length = out.length + 1 := by simp
  obtain ⟨b, i1, k1, e1, q1, r1⟩ := qdb (k + 1) (by omega) z l i h c hl h0 h1 hc (by omega)
  cases b
  · simp (disch := omega) only [qay, nth0, nth1, nth2, nth3, bit, qef, qeg, qer, qew, qex, qey, qez, qe0, qe1, qe2, qeh, qei, qej, qek, qel, qem, qen, qeo, qep, qeq, qes, qet, qeu, qev, qrf, qre, qrg, qnd, qn3, qn5, qjh, qa5, qqo, nI, qfb, qe9, Bool.not_true, Bool.not_false, Bool.and_true, Bool.true_and, Bool.and_false, Bool.false_and, Bool.or_true, Bool.true_or, Bool.or_false, Bool.false_or, beq_self_eq_true, dTT, dFF, dT, dF, bigI, big0, qnc, qr4, qr5, List.length_set, List.length_replicate, Int.toNat_natCast, qed, qee, imax, imin, e1, qn1, qn2] at e
    exact ⟨[(r, v, ix)], i1, k1, e, ⟨q1, r1⟩, ⟨by simp, by simp; omega⟩, qog hid⟩
  · simp (disch := omega) only [qay, nth0, nth1, nth2, nth3, bit, qef, qeg, qer, qew, qex, qey, qez, qe0, qe1, qe2, qeh, qei, qej, qek, qel, qem, qen, qeo, qep, qeq, qes, qet, qeu, qev, qrf, qre, qrg, qnd, qn3, qn5, qjh, qa5, qqo, nI, qfb, qe9, Bool.not_true, Bool.not_false, Bool.and_true, Bool.true_and, Bool.and_false, Bool.false_and, Bool.or_true, Bool.true_or, Bool.or_false, Bool.false_or, beq_self_eq_true, dTT, dFF, dT, dF, bigI, big0, qnc, qr4, qr5, List.length_set, List.length_replicate, Int.toNat_natCast, qed, qee, imax, imin, e1, qn1, qn2] at e
    have ch := qe3 hid hv
    obtain ⟨n1, i2, k2, e2, p2, s2, o2, d2⟩ := H r (2 * ix) (c + 1) i1 k1 q out ch.1 (by omega) (by omega) q1 r1 (by omega)
    have l2 : (out ++ n1).length = out.length + n1.length := List.length_append ..
    obtain ⟨n2, i3, k3, e3, p3, s3, o3, d3⟩ := H r (2 * ix + 1) (c + 1) i2 k2 false (out ++ n1) ch.2.1 (by omega) (by omega) p2.1 p2.2 (by omega)
    have cA := qcd (k + 1) (by omega) r v ix 0 hid hv (Or.inl rfl)
    have cB := qcd (k + 1) (by omega) r v ix 1 hid hv (Or.inr rfl)
    rw [Int.add_zero] at cA
    have f0 := qkn (k + 4) (k + 3) [] z l i h q out c 0 z l i1 k1 q out r v ix
    have f1 := qkn (k + 4) (k + 2) [] z l i h q out c 1 z l i2 k2 false (out ++ n1) r v ix
    have f2 := qkn (k + 4) (k + 1) [] z l i h q out c 2 z l i3 k3 false (out ++ n1 ++ n2) r v ix
    have w1 : IntKind.wrap .i64 (c + 1) = c + 1 := qr4 (by omega) (by omega)
    have w2 : IntKind.wrap .i64 ((0 : Int) + 1) = 1 := by rw [qr4 (by omega) (by omega)]; rfl
    have w3 : IntKind.wrap .i64 ((1 : Int) + 1) = 2 := by rw [qr4 (by omega) (by omega)]; rfl
    simp (disch := omega) only [qay, nth0, nth1, nth2, nth3, bit, qef, qeg, qer, qew, qex, qey, qez, qe0, qe1, qe2, qeh, qei, qej, qek, qel, qem, qen, qeo, qep, qeq, qes, qet, qeu, qev, qrf, qre, qrg, qnd, qn3, qn5, qjh, qa5, qqo, nI, qfb, qe9, Bool.not_true, Bool.not_false, Bool.and_true, Bool.true_and, Bool.and_false, Bool.false_and, Bool.or_true, Bool.true_or, Bool.or_false, Bool.false_or, beq_self_eq_true, dTT, dFF, dT, dF, bigI, big0, qnc, qr4, qr5, List.length_set, List.length_replicate, Int.toNat_natCast, qed, qee, imax, imin] at f2
    simp (disch := omega) only [qay, nth0, nth1, nth2, nth3, bit, qef, qeg, qer, qew, qex, qey, qez, qe0, qe1, qe2, qeh, qei, qej, qek, qel, qem, qen, qeo, qep, qeq, qes, qet, qeu, qev, qrf, qre, qrg, qnd, qn3, qn5, qjh, qa5, qqo, nI, qfb, qe9, Bool.not_true, Bool.not_false, Bool.and_true, Bool.true_and, Bool.and_false, Bool.false_and, Bool.or_true, Bool.true_or, Bool.or_false, Bool.false_or, beq_self_eq_true, dTT, dFF, dT, dF, bigI, big0, qnc, qr4, qr5, List.length_set, List.length_replicate, Int.toNat_natCast, qed, qee, imax, imin, cB, w1, w3, e3, qn0, qn1, qn2, f2] at f1
    simp (disch := omega) only [qay, nth0, nth1, nth2, nth3, bit, qef, qeg, qer, qew, qex, qey, qez, qe0, qe1, qe2, qeh, qei, qej, qek, qel, qem, qen, qeo, qep, qeq, qes, qet, qeu, qev, qrf, qre, qrg, qnd, qn3, qn5, qjh, qa5, qqo, nI, qfb, qe9, Bool.not_true, Bool.not_false, Bool.and_true, Bool.true_and, Bool.and_false, Bool.false_and, Bool.or_true, Bool.true_or, Bool.or_false, Bool.false_or, beq_self_eq_true, dTT, dFF, dT, dF, bigI, big0, qnc, qr4, qr5, List.length_set, List.length_replicate, Int.toNat_natCast, qed, qee, imax, imin, cA, w1, w2, e2, qn0, qn1, qn2, f1] at f0
    rw [f0, List.append_assoc] at e
    refine ⟨n1 ++ n2, i3, k3, e, p3, ?_, ?_, ?_⟩
    · rw [List.length_append]; omega
    · rw [qni, Bool.and_eq_true]
      rw [ch.2.2.1] at o2 d2
      rw [ch.2.2.2.1] at o3
      exact ⟨o2, by rw [d2]; exact o3⟩
    · rw [qis]
      rw [ch.2.2.1] at d2
      rw [ch.2.2.2.1] at d3
      rw [d2, d3, Int.add_assoc, ch.2.2.2.2]
theorem qdf (k : Nat) (hk : 2000000 ≤ k) (z : Bool) (l : List Int) (hl : (l.length : Int) ≤ 1048576) : qad (k + 8) z l 0 16 :=
  qoh (k + 3) (by omega) z l hl 0 (by omega) (by omega) 8 (by omega) (qoh (k + 2) (by omega) z l hl 1 (by omega) (by omega) 4 (by omega) (qoh (k + 1) (by omega) z l hl 2 (by omega) (by omega) 2 (by omega) (qoh k hk z l hl 3 (by omega) (by omega) 1 (by omega) (qof k hk z l hl))))
end Go.Proofs.YtjfjniebmdafeaaGreatDoor
end
section
namespace Go.Proofs.YtjfjniebmdafeaaGreatDoor
open Go.Ev
set_option maxRecDepth 20000
theorem qmb (k : Nat) (hk : 2000000 ≤ k) (fu : List (Nat × Nat)) (v0 : Bool) (v1 : List Int) (v2 v3 : Int) (z : Bool) (l : List Int) (hl : (l.length : Int) ≤ 1048576) (z5 : Bool) (l6 : List Cell) (x7 : Int) (R : Nat) (hR : 1 ≤ R) (hR' : R ≤ 3) : ∀ (n t : Nat) (i h : Int) (q : Bool) (out : List Cell), t ≤ R → R - t < n → 0 ≤ i → i ≤ l.length → (q = false ∨ t = 0) → out.length ≤ 16 * t → okp 0 out = true → endp 0 out = 16 * t →
    ∃ (out' : List Cell) (i' h' : Int), lp (k + 8) spec_l04Mesh [(.ptr true [(.arr false (v0) (.ints IntKind.u8 (v1))), (.int .i64 (v2)), (.int .i64 (v3))])] fu 3 (n) (qo3 (t : Int) z l i h z5 l6 x7 q out (R : Int)) = some [.agg [.int .i64 (R : Int), .arr true false (.r3 out')], .ptr true [.arr false (z) (.ints .u8 (l)), .int .i64 (i'), .int .i64 (h')]] ∧ (0 ≤ i' ∧ i' ≤ l.length) ∧ qmx R 0 out' = true
  | 0, t, i, h, q, out, ht, hn, h0, h1, hq, ho, o, d => by omega
  | n + 1, t, i, h, q, out, ht, hn, h0, h1, hq, ho, o, d => by
    have e := qkm (k + 8) n fu v0 v1 v2 v3 (t : Int) z l i h z5 l6 x7 q out (R : Int)
    by_cases g : t < R
    · obtain ⟨v, i1, k1, e1, b1, q1, r1⟩ := qc8 (k + 6) (by omega) z l i h 2 hl h0 h1 (by omega) (by omega)
      have id : idOk (t : Int) 0 0 = true := qjb.2 ⟨by omega, by omega, by omega, by decide⟩
      obtain ⟨n1, i2, k2, e2, p2, s2, o2, d2⟩ := qdf k (by omega) z l hl (t : Int) 0 (1 + v) i1 k1 q out id (by omega) (by omega) q1 r1 (by omega)
      have st : qqc (t : Int) 0 0 = 16 * t := by rw [qqe id]; omega
      rw [st] at o2 d2
      have lo : (out ++ n1).length = out.length + n1.length := List.length_append ..
      obtain ⟨out', i', h', e3, p3, o3⟩ := qmb k hk fu v0 v1 v2 v3 z l hl z5 l6 x7 R hR hR' n (t + 1) i2 k2 false (out ++ n1) (by omega) (by omega) p2.1 p2.2 (Or.inl rfl) (by omega) (by rw [qni, d, Bool.and_eq_true]; exact ⟨o, o2⟩) (by rw [qis, d, d2, w0]; omega)
      simp (disch := omega) only [qay, nth0, nth1, nth2, nth3, bit, qef, qeg, qer, qew, qex, qey, qez, qe0, qe1, qe2, qeh, qei, qej, qek, qel, qem, qen, qeo, qep, qeq, qes, qet, qeu, qev, qrf, qre, qrg, qnd, qn3, qn5, qjh, qa5, qqo, nI, qfb, qe9, Bool.not_true, Bool.not_false, Bool.and_true, Bool.true_and, Bool.and_false, Bool.false_and, Bool.or_true, Bool.true_or, Bool.or_false, Bool.false_or, beq_self_eq_true, dTT, dFF, dT, dF, bigI, big0, qnc, qr4, qr5, List.length_set, List.length_replicate, Int.toNat_natCast, qed, qee, imax, imin, e1, qn0, qn1, qn2, e2, e3] at e
      exact ⟨out', i', h', e, p3, o3⟩
    · have : t = R := by omega
      subst this
      rcases hq with rfl | h
      · simp (disch := omega) only [qay, nth0, nth1, nth2, nth3, bit, qef, qeg, qer, qew, qex, qey, qez, qe0, qe1, qe2, qeh, qei, qej, qek, qel, qem, qen, qeo, qep, qeq, qes, qet, qeu, qev, qrf, qre, qrg, qnd, qn3, qn5, qjh, qa5, qqo, nI, qfb, qe9, Bool.not_true, Bool.not_false, Bool.and_true, Bool.true_and, Bool.and_false, Bool.false_and, Bool.or_true, Bool.true_or, Bool.or_false, Bool.false_or, beq_self_eq_true, dTT, dFF, dT, dF, bigI, big0, qnc, qr4, qr5, List.length_set, List.length_replicate, Int.toNat_natCast, qed, qee, imax, imin] at e
        exact ⟨out, i, h, e, ⟨h0, h1⟩, qmz.2 ⟨o, by omega, by rw [d]; omega⟩⟩
      · omega
theorem qde (k : Nat) (hk : 2000000 ≤ k) (z : Bool) (l : List Int) (i h : Int) (hl : (l.length : Int) ≤ 1048576) (h0 : 0 ≤ i) (h1 : i ≤ l.length) :
    ∃ (r : Int) (out : List Cell) (i' h' : Int), go (k + 9) spec_l04Mesh [.ptr true [.arr false (z) (.ints .u8 (l)), .int .i64 (i), .int .i64 (h)]] = some [.agg [.int .i64 r, .arr true false (.r3 out)], .ptr true [.arr false (z) (.ints .u8 (l)), .int .i64 (i'), .int .i64 (h')]] ∧ (0 ≤ i' ∧ i' ≤ l.length) ∧ qmx r 0 out = true ∧ r ≤ 3 := by
  have e := qhr (k + 8) z l i h
  obtain ⟨v, i1, k1, e1, b1, q1, r1⟩ := qc8 (k + 6) (by omega) z l i h 3 hl h0 h1 (by omega) (by omega)
  obtain ⟨w, rfl⟩ : ∃ w : Nat, v = (w : Int) := ⟨v.toNat, by omega⟩
  obtain ⟨out, i2, k2, e2, p2, o2⟩ := qmb k hk [] z l i h z l hl true [] 0 (1 + w) (by omega) (by omega) (k + 8) 0 i1 k1 true [] (by omega) (by omega) q1 r1 (Or.inr rfl) (by simp) rfl rfl
  rw [show ((1 + w : Nat) : Int) = 1 + (w : Int) by omega, show ((0 : Nat) : Int) = 0 from rfl] at e2
  rw [show ((1 + w : Nat) : Int) = 1 + (w : Int) by omega] at o2
  simp (disch := omega) only [qay, nth0, nth1, nth2, nth3, bit, qef, qeg, qer, qew, qex, qey, qez, qe0, qe1, qe2, qeh, qei, qej, qek, qel, qem, qen, qeo, qep, qeq, qes, qet, qeu, qev, qrf, qre, qrg, qnd, qn3, qn5, qjh, qa5, qqo, nI, qfb, qe9, Bool.not_true, Bool.not_false, Bool.and_true, Bool.true_and, Bool.and_false, Bool.false_and, Bool.or_true, Bool.true_or, Bool.or_false, Bool.false_or, beq_self_eq_true, dTT, dFF, dT, dF, bigI, big0, qnc, qr4, qr5, List.length_set, List.length_replicate, Int.toNat_natCast, qed, qee, imax, imin, e1, qn0, qn1, qn2, e2] at e
  exact ⟨_, _, _, _, e, p2, o2, by omega⟩
theorem qdg (k : Nat) (hk : 2000000 ≤ k) (a0 : Int) (a1z : Bool) (a1 : List Cell) (i : Nat) (hl : (a1.length : Int) ≤ 1048576) (hi : i + 1 < a1.length) : go (k + 1) spec_l05Coarser [.agg [.int .i64 a0, .arr false a1z (.r3 a1)], .int .i64 (i : Int)] = some [.int .i64 ((qe6 a1 i : Nat) : Int)] := by
  rw [qht]
  unfold qe6
  simp (disch := omega) only [qay, nth0, nth1, nth2, nth3, bit, qef, qeg, qer, qew, qex, qey, qez, qe0, qe1, qe2, qeh, qei, qej, qek, qel, qem, qen, qeo, qep, qeq, qes, qet, qeu, qev, qrf, qre, qrg, qnd, qn3, qn5, qjh, qa5, qqo, nI, qfb, qe9, Bool.not_true, Bool.not_false, Bool.and_true, Bool.true_and, Bool.and_false, Bool.false_and, Bool.or_true, Bool.true_or, Bool.or_false, Bool.false_or, beq_self_eq_true, dTT, dFF, dT, dF, bigI, big0, qnc, qr4, qr5, List.length_set, List.length_replicate, Int.toNat_natCast, qed, qee, imax, imin]
  by_cases g : qla a1 (i + 1) < qla a1 i
  · rw [if_pos g]; simp only [qla] at g; simp (disch := omega) only [qay, nth0, nth1, nth2, nth3, bit, qef, qeg, qer, qew, qex, qey, qez, qe0, qe1, qe2, qeh, qei, qej, qek, qel, qem, qen, qeo, qep, qeq, qes, qet, qeu, qev, qrf, qre, qrg, qnd, qn3, qn5, qjh, qa5, qqo, nI, qfb, qe9, Bool.not_true, Bool.not_false, Bool.and_true, Bool.true_and, Bool.and_false, Bool.false_and, Bool.or_true, Bool.true_or, Bool.or_false, Bool.false_or, beq_self_eq_true, dTT, dFF, dT, dF, bigI, big0, qnc, qr4, qr5, List.length_set, List.length_replicate, Int.toNat_natCast, qed, qee, imax, imin]
  · rw [if_neg g]; simp only [qla] at g; simp (disch := omega) only [qay, nth0, nth1, nth2, nth3, bit, qef, qeg, qer, qew, qex, qey, qez, qe0, qe1, qe2, qeh, qei, qej, qek, qel, qem, qen, qeo, qep, qeq, qes, qet, qeu, qev, qrf, qre, qrg, qnd, qn3, qn5, qjh, qa5, qqo, nI, qfb, qe9, Bool.not_true, Bool.not_false, Bool.and_true, Bool.true_and, Bool.and_false, Bool.false_and, Bool.or_true, Bool.true_or, Bool.or_false, Bool.false_or, beq_self_eq_true, dTT, dFF, dT, dF, bigI, big0, qnc, qr4, qr5, List.length_set, List.length_replicate, Int.toNat_natCast, qed, qee, imax, imin]
theorem qq4 {α : Type} (l : List α) (i : Nat) : List.take (l.length - i) (List.drop i l) = l.drop i := by
  apply List.take_of_length_le; rw [List.length_drop]; omega
theorem ton0 : Int.toNat 0 = 0 := Eq.trans rfl rfl
theorem qdk (k : Nat) (hk : 2000000 ≤ k) (a0 : Int) (a1z : Bool) (a1 : List Cell) (i : Nat) (hl : (a1.length : Int) ≤ 1000000) (hi : i < a1.length) (hid : idOk (a1.getD i zz3).1 (a1.getD i zz3).2.1 (a1.getD i zz3).2.2 = true) (hv : (a1.getD i zz3).2.1 < 4) : go (k + 4) spec_l05Split [.agg [.int .i64 a0, .arr false a1z (.r3 a1)], .int .i64 (i : Int)] = some [.agg [.int .i64 a0, .arr true false (.r3 (qp3 a1 i))]] := by
  rw [qhx]
  have cA := qcd k (by omega) _ _ _ 0 hid hv (Or.inl rfl)
  have cB := qcd k (by omega) _ _ _ 1 hid hv (Or.inr rfl)
  rw [Int.add_zero] at cA
  have l1 : (a1.take i).length = i := by rw [List.length_take]; omega
  have l2 : ∀ x y : Cell, (a1.take i ++ [x, y]).length = i + 2 := fun x y => by rw [List.length_append, l1]; rfl
  have l3 : ∀ x y : Cell, (a1.take i ++ [x, y] ++ a1.drop (i + 1)).length = a1.length + 1 := fun x y => by rw [List.length_append, l2, List.length_drop]; omega
  simp (disch := omega) only [qay, nth0, nth1, nth2, nth3, bit, qef, qeg, qer, qew, qex, qey, qez, qe0, qe1, qe2, qeh, qei, qej, qek, qel, qem, qen, qeo, qep, qeq, qes, qet, qeu, qev, qrf, qre, qrg, qnd, qn3, qn5, qjh, qa5, qqo, nI, qfb, qe9, Bool.not_true, Bool.not_false, Bool.and_true, Bool.true_and, Bool.and_false, Bool.false_and, Bool.or_true, Bool.true_or, Bool.or_false, Bool.false_or, beq_self_eq_true, dTT, dFF, dT, dF, bigI, big0, qnc, qr4, qr5, List.length_set, List.length_replicate, Int.toNat_natCast, qed, qee, imax, imin, cA, cB, ton0, Nat.sub_zero, Nat.zero_add, List.drop_zero, qq4, l1, l2, l3]
  rw [List.append_assoc]; rfl
theorem qlz (k : Nat) (hk : 2000000 ≤ k) (fu : List (Nat × Nat)) (z1 : Bool) (l2 : List Cell) (x3 r : Int) : ∀ (N n : Nat) (l : List Cell), N < n → qmx r 0 l = true → 129 ≤ N + l.length →
    lp (k + 5) spec_Balance [] fu 5 (n) (qov (unb l) z1 l2 x3 false l r) = some [.agg [.int .i64 r, .arr true false (.r3 (balN N l))]]
  | N, 0, l, hn, h, hN => by omega
  | 0, n + 1, l, hn, h, hN => by have := qm2 h; omega
  | N + 1, n + 1, l, hn, h, hN => by
    have ml := qm2 h
    have e := qke (k + 5) n fu (unb l) z1 l2 x3 false l r
    unfold balN
    by_cases g : unb l < 0
    · rw [if_pos g]; simp (disch := omega) only [qay, nth0, nth1, nth2, nth3, bit, qef, qeg, qer, qew, qex, qey, qez, qe0, qe1, qe2, qeh, qei, qej, qek, qel, qem, qen, qeo, qep, qeq, qes, qet, qeu, qev, qrf, qre, qrg, qnd, qn3, qn5, qjh, qa5, qqo, nI, qfb, qe9, Bool.not_true, Bool.not_false, Bool.and_true, Bool.true_and, Bool.and_false, Bool.false_and, Bool.or_true, Bool.true_or, Bool.or_false, Bool.false_or, beq_self_eq_true, dTT, dFF, dT, dF, bigI, big0, qnc, qr4, qr5, List.length_set, List.length_replicate, Int.toNat_natCast, qed, qee, imax, imin] at e; exact e
    · rw [if_neg g]
      obtain ⟨j, ej, h1, h2⟩ := qrj (by omega : 0 ≤ unb l)
      have c := qe7 h h1 h2
      have sm := qp6 h c.1 c.2
      have sl := qp4 c.1
      have id := ((qm1 _ _ _ h).2.2.2.1 _ c.1).2.2
      have IH := qlz k hk fu z1 l2 x3 r N n _ (by omega) sm (by omega)
      rw [ej, Int.toNat_natCast]
      rw [ej] at e
      have mv := qm3 _ _ _ sm
      have mm := qm2 sm
      simp (disch := omega) only [qay, nth0, nth1, nth2, nth3, bit, qef, qeg, qer, qew, qex, qey, qez, qe0, qe1, qe2, qeh, qei, qej, qek, qel, qem, qen, qeo, qep, qeq, qes, qet, qeu, qev, qrf, qre, qrg, qnd, qn3, qn5, qjh, qa5, qqo, nI, qfb, qe9, Bool.not_true, Bool.not_false, Bool.and_true, Bool.true_and, Bool.and_false, Bool.false_and, Bool.or_true, Bool.true_or, Bool.or_false, Bool.false_or, beq_self_eq_true, dTT, dFF, dT, dF, bigI, big0, qnc, qr4, qr5, List.length_set, List.length_replicate, Int.toNat_natCast, qed, qee, imax, imin, qdg] at e
      rw [qdk (k + 1) (by omega) _ _ _ _ (by omega) c.1 id c.2] at e
      simp (disch := omega) only [qay, nth0, nth1, nth2, nth3, bit, qef, qeg, qer, qew, qex, qey, qez, qe0, qe1, qe2, qeh, qei, qej, qek, qel, qem, qen, qeo, qep, qeq, qes, qet, qeu, qev, qrf, qre, qrg, qnd, qn3, qn5, qjh, qa5, qqo, nI, qfb, qe9, Bool.not_true, Bool.not_false, Bool.and_true, Bool.true_and, Bool.and_false, Bool.false_and, Bool.or_true, Bool.true_or, Bool.or_false, Bool.false_or, beq_self_eq_true, dTT, dFF, dT, dF, bigI, big0, qnc, qr4, qr5, List.length_set, List.length_replicate, Int.toNat_natCast, qed, qee, imax, imin] at e
      rw [qdi (k + 4) (by omega) _ _ _ (by omega) mv] at e
      simp (disch := omega) only [qay, nth0, nth1, nth2, nth3, bit, qef, qeg, qer, qew, qex, qey, qez, qe0, qe1, qe2, qeh, qei, qej, qek, qel, qem, qen, qeo, qep, qeq, qes, qet, qeu, qev, qrf, qre, qrg, qnd, qn3, qn5, qjh, qa5, qqo, nI, qfb, qe9, Bool.not_true, Bool.not_false, Bool.and_true, Bool.true_and, Bool.and_false, Bool.false_and, Bool.or_true, Bool.true_or, Bool.or_false, Bool.false_or, beq_self_eq_true, dTT, dFF, dT, dF, bigI, big0, qnc, qr4, qr5, List.length_set, List.length_replicate, Int.toNat_natCast, qed, qee, imax, imin, IH] at e
      exact e
theorem qcb (k : Nat) (hk : 2000000 ≤ k) (a0 : Int) (a1z : Bool) (a1 : List Cell) (h : qmx a0 0 a1 = true) : go (k + 6) spec_Balance [.agg [.int .i64 a0, .arr false a1z (.r3 a1)]] = some [.agg [.int .i64 a0, .arr true false (.r3 (bal a1))]] := by
  rw [qgu]
  have ml := qm2 h
  have mv := qm3 _ _ _ h
  simp (disch := omega) only [qay, nth0, nth1, nth2, nth3, bit, qef, qeg, qer, qew, qex, qey, qez, qe0, qe1, qe2, qeh, qei, qej, qek, qel, qem, qen, qeo, qep, qeq, qes, qet, qeu, qev, qrf, qre, qrg, qnd, qn3, qn5, qjh, qa5, qqo, nI, qfb, qe9, Bool.not_true, Bool.not_false, Bool.and_true, Bool.true_and, Bool.and_false, Bool.false_and, Bool.or_true, Bool.true_or, Bool.or_false, Bool.false_or, beq_self_eq_true, dTT, dFF, dT, dF, bigI, big0, qnc, qr4, qr5, List.length_set, List.length_replicate, Int.toNat_natCast, qed, qee, imax, imin, qdc, qcs, h]
  rw [qdi (k + 4) (by omega) _ _ _ (by omega) mv]
  simp (disch := omega) only [qay, nth0, nth1, nth2, nth3, bit, qef, qeg, qer, qew, qex, qey, qez, qe0, qe1, qe2, qeh, qei, qej, qek, qel, qem, qen, qeo, qep, qeq, qes, qet, qeu, qev, qrf, qre, qrg, qnd, qn3, qn5, qjh, qa5, qqo, nI, qfb, qe9, Bool.not_true, Bool.not_false, Bool.and_true, Bool.true_and, Bool.and_false, Bool.false_and, Bool.or_true, Bool.true_or, Bool.or_false, Bool.false_or, beq_self_eq_true, dTT, dFF, dT, dF, bigI, big0, qnc, qr4, qr5, List.length_set, List.length_replicate, Int.toNat_natCast, qed, qee, imax, imin]
  exact qlz k hk [] true [] 0 a0 _ _ a1 (by omega) h (by omega)
theorem qdj (k : Nat) (hk : 2000000 ≤ k) (z : Bool) (l : List Int) (i h : Int) (hl : (l.length : Int) ≤ 1048576) (h0 : 0 ≤ i) (h1 : i ≤ l.length) :
    ∃ (r : Int) (out : List Cell) (i' h' : Int), go (k + 10) spec_l05Mesh [.ptr true [.arr false (z) (.ints .u8 (l)), .int .i64 (i), .int .i64 (h)]] = some [.agg [.int .i64 r, .arr true false (.r3 out)], .ptr true [.arr false (z) (.ints .u8 (l)), .int .i64 (i'), .int .i64 (h')]] ∧ (0 ≤ i' ∧ i' ≤ l.length) ∧ qmx r 0 out = true ∧ unb out < 0 ∧ r ≤ 3 := by
  have e := qhw (k + 9) z l i h
  obtain ⟨r, out, i1, k1, e1, q1, m1, r1⟩ := qde k (by omega) z l i h hl h0 h1
  have e2 := qcb (k + 3) (by omega) r false out m1
  simp (disch := omega) only [qay, nth0, nth1, nth2, nth3, bit, qef, qeg, qer, qew, qex, qey, qez, qe0, qe1, qe2, qeh, qei, qej, qek, qel, qem, qen, qeo, qep, qeq, qes, qet, qeu, qev, qrf, qre, qrg, qnd, qn3, qn5, qjh, qa5, qqo, nI, qfb, qe9, Bool.not_true, Bool.not_false, Bool.and_true, Bool.true_and, Bool.and_false, Bool.false_and, Bool.or_true, Bool.true_or, Bool.or_false, Bool.false_or, beq_self_eq_true, dTT, dFF, dT, dF, bigI, big0, qnc, qr4, qr5, List.length_set, List.length_replicate, Int.toNat_natCast, qed, qee, imax, imin, e1, e2, qn0, qn1, qn2] at e
  exact ⟨_, _, _, _, e, q1, (qat m1).1, (qat m1).2, r1⟩
end Go.Proofs.YtjfjniebmdafeaaGreatDoor
end
section
namespace Go.Proofs.YtjfjniebmdafeaaGreatDoor
open Go.Ev
set_option maxRecDepth 20000
theorem qcw (k : Nat) (hk : 2000000 ≤ k) (a : Int) (h : 0 ≤ a) (h' : a ≤ 1000000000) : go (k + 1) spec_SplitEven [(.int .i64 (a))] = some [.int .i64 (hA a), .int .i64 (hB a)] := by
  rw [qhd]
  have e : Int.tdiv a 2 = a / 2 := Int.tdiv_eq_ediv_of_nonneg h
  rw [e]
  simp (disch := omega) only [qay, nth0, nth1, nth2, nth3, bit, qef, qeg, qer, qew, qex, qey, qez, qe0, qe1, qe2, qeh, qei, qej, qek, qel, qem, qen, qeo, qep, qeq, qes, qet, qeu, qev, qrf, qre, qrg, qnd, qn3, qn5, qjh, qa5, qqo, nI, qfb, qe9, Bool.not_true, Bool.not_false, Bool.and_true, Bool.true_and, Bool.and_false, Bool.false_and, Bool.or_true, Bool.true_or, Bool.or_false, Bool.false_or, beq_self_eq_true, dTT, dFF, dT, dF, bigI, big0, qnc, qr4, qr5, List.length_set, List.length_replicate, Int.toNat_natCast, qed, qee, imax, imin]
theorem qdr (k : Nat) (hk : 2000000 ≤ k) (r : Int) (s : S3) (b : List Int) (U : StU r s b) (i : Nat) (hi : i < s.1.length) (hv : qla s.1 i < 4) :
    go (k + 5) spec_l08Split [.agg [.int .i64 (r), .arr false (false) (.r3 (s.1)), .arr false (false) (.ints .i64 (s.2.1)), .arr false (false) (.ints .i64 (s.2.2)), .arr false (false) (.ints .i64 (b))], .int .i64 (i : Int)] = some [.agg [.int .i64 (r), .arr true (false) (.r3 ((rfS s i).1)), .arr true (false) (.ints .i64 ((rfS s i).2.1)), .arr true (false) (.ints .i64 ((rfS s i).2.2)), .arr true (false) (.ints .i64 (b))]] := by
  obtain ⟨l, m, t⟩ := s
  simp only at hi hv ⊢
  rw [qh5]
  have L := U.len; have ml : m.length = l.length := U.ml; have tl : t.length = l.length := U.tl; have bl := U.bl; have rr := U.rr
  have a : 0 ≤ m.getD i 0 ∧ m.getD i 0 ≤ 10000000 ∧ 0 ≤ t.getD i 0 ∧ t.getD i 0 ≤ 1000 * m.getD i 0 := U.at i
  simp only at L
  have q := hAB a.1
  have sh := qpt ⟨a.1, a.2.1⟩ ⟨a.2.2.1, a.2.2.2⟩
  simp only [shr] at sh
  have m1 : (m.take i).length = i := by rw [List.length_take]; omega
  have t1 : (t.take i).length = i := by rw [List.length_take]; omega
  have l2 : ∀ (x : List Int) (p q : Int), x.length = i → (x ++ [p, q]).length = i + 2 := fun x p q h => by rw [List.length_append, h]; rfl
  have m2 := fun p q => l2 (m.take i) p q m1
  have t2 := fun p q => l2 (t.take i) p q t1
  have m3 : ∀ p q : Int, (m.take i ++ [p, q] ++ m.drop (i + 1)).length = l.length + 1 := fun p q => by rw [List.length_append, m2, List.length_drop]; omega
  have t3 : ∀ p q : Int, (t.take i ++ [p, q] ++ t.drop (i + 1)).length = l.length + 1 := fun p q => by rw [List.length_append, t2, List.length_drop]; omega
  have cS := qdk k (by omega) r false l i (by omega) hi (U.id hi) hv
  simp (disch := omega) only [qay, nth0, nth1, nth2, nth3, bit, qef, qeg, qer, qew, qex, qey, qez, qe0, qe1, qe2, qeh, qei, qej, qek, qel, qem, qen, qeo, qep, qeq, qes, qet, qeu, qev, qrf, qre, qrg, qnd, qn3, qn5, qjh, qa5, qqo, nI, qfb, qe9, Bool.not_true, Bool.not_false, Bool.and_true, Bool.true_and, Bool.and_false, Bool.false_and, Bool.or_true, Bool.true_or, Bool.or_false, Bool.false_or, beq_self_eq_true, dTT, dFF, dT, dF, bigI, big0, qnc, qr4, qr5, List.length_set, List.length_replicate, Int.toNat_natCast, qed, qee, imax, imin, qcw, qcv, cS, ton0, Nat.sub_zero, Nat.zero_add, List.drop_zero, qq4, m1, t1, m2, t2, m3, t3]
  rw [List.append_assoc, List.append_assoc]
  rfl
theorem qct {a : Cell} (hid : idOk a.1 a.2.1 a.2.2 = true) (hv : 1 ≤ a.2.1) (k : Nat) (hk : 2000000 ≤ k) : go (k + 3) spec_ParentOf [.agg [.int .i64 a.1, .int .i64 a.2.1, .int .i64 a.2.2]] = some [.agg [.int .i64 (par a).1, .int .i64 (par a).2.1, .int .i64 (par a).2.2], .bool true] := by
  have id := qjb.1 hid
  have hp : pow2 a.2.1 ≤ 16 := by
    rcases lev (qjf.2 id.2.1) with e | e | e | e | e <;> rw [e] <;> decide
  have e : Int.tdiv a.2.2 2 = a.2.2 / 2 := Int.tdiv_eq_ediv_of_nonneg id.2.2.1
  rw [qha]; simp (disch := omega) only [qay, nth0, nth1, nth2, nth3, bit, qef, qeg, qer, qew, qex, qey, qez, qe0, qe1, qe2, qeh, qei, qej, qek, qel, qem, qen, qeo, qep, qeq, qes, qet, qeu, qev, qrf, qre, qrg, qnd, qn3, qn5, qjh, qa5, qqo, nI, qfb, qe9, Bool.not_true, Bool.not_false, Bool.and_true, Bool.true_and, Bool.and_false, Bool.false_and, Bool.or_true, Bool.true_or, Bool.or_false, Bool.false_or, beq_self_eq_true, dTT, dFF, dT, dF, bigI, big0, qnc, qr4, qr5, List.length_set, List.length_replicate, Int.toNat_natCast, qed, qee, imax, imin, qck, hid, e]
theorem qdm (k : Nat) (hk : 2000000 ≤ k) (r : Int) (z : Bool) (l : List Cell) (h : qmx r 0 l = true) (i : Nat) (hi : i + 1 < l.length) (hv : 1 ≤ qla l i) :
    go (k + 4) spec_l06Merge [.agg [.int .i64 r, .arr false z (.r3 l)], .int .i64 (i : Int)] = some [.agg [.int .i64 r, .arr true false (.r3 (qmt l i))]] := by
  rw [qhz]
  have L := qm2 h
  have eP := qct ((qm1 _ _ _ h).2.2.2.1 _ (show i < l.length by omega)).2.2 hv k (by omega)
  have m1 : (l.take i).length = i := by rw [List.length_take]; omega
  have m2 : ∀ p : Cell, (l.take i ++ [p]).length = i + 1 := fun p => by rw [List.length_append, m1]; rfl
  have m3 : ∀ p : Cell, (l.take i ++ [p] ++ l.drop (i + 2)).length = l.length - 1 := fun p => by rw [List.length_append, m2, List.length_drop]; omega
  simp (disch := omega) only [qay, nth0, nth1, nth2, nth3, bit, qef, qeg, qer, qew, qex, qey, qez, qe0, qe1, qe2, qeh, qei, qej, qek, qel, qem, qen, qeo, qep, qeq, qes, qet, qeu, qev, qrf, qre, qrg, qnd, qn3, qn5, qjh, qa5, qqo, nI, qfb, qe9, Bool.not_true, Bool.not_false, Bool.and_true, Bool.true_and, Bool.and_false, Bool.false_and, Bool.or_true, Bool.true_or, Bool.or_false, Bool.false_or, beq_self_eq_true, dTT, dFF, dT, dF, bigI, big0, qnc, qr4, qr5, List.length_set, List.length_replicate, Int.toNat_natCast, qed, qee, imax, imin, eP, ton0, Nat.sub_zero, Nat.zero_add, List.drop_zero, qq4, m1, m2, m3]
  rw [List.append_assoc]; rfl
theorem qdq (k : Nat) (hk : 2000000 ≤ k) (r : Int) (s : S3) (b : List Int) (U : StU r s b) (i : Nat) (hi : i + 1 < s.1.length) (hv : 1 ≤ qla s.1 i) :
    go (k + 5) spec_l08Merge [.agg [.int .i64 (r), .arr false (false) (.r3 (s.1)), .arr false (false) (.ints .i64 (s.2.1)), .arr false (false) (.ints .i64 (s.2.2)), .arr false (false) (.ints .i64 (b))], .int .i64 (i : Int)] = some [.agg [.int .i64 (r), .arr true (false) (.r3 ((cmS s i).1)), .arr true (false) (.ints .i64 ((cmS s i).2.1)), .arr true (false) (.ints .i64 ((cmS s i).2.2)), .arr true (false) (.ints .i64 (b))]] := by
  obtain ⟨l, m, t⟩ := s
  simp only at hi hv ⊢
  rw [qh4]
  have L := U.len; have ml : m.length = l.length := U.ml; have tl : t.length = l.length := U.tl; have bl := U.bl; have rr := U.rr
  have a : 0 ≤ m.getD i 0 ∧ m.getD i 0 ≤ 10000000 ∧ 0 ≤ t.getD i 0 ∧ t.getD i 0 ≤ 1000 * m.getD i 0 := U.at i
  have a' : 0 ≤ m.getD (i + 1) 0 ∧ m.getD (i + 1) 0 ≤ 10000000 ∧ 0 ≤ t.getD (i + 1) 0 ∧ t.getD (i + 1) 0 ≤ 1000 * m.getD (i + 1) 0 := U.at (i + 1)
  simp only at L
  have eM := qdm k (by omega) r false l U.mesh i hi hv
  have m1 : (m.take i).length = i := by rw [List.length_take]; omega
  have t1 : (t.take i).length = i := by rw [List.length_take]; omega
  have m2 : ∀ p : Int, (m.take i ++ [p]).length = i + 1 := fun p => by rw [List.length_append, m1]; rfl
  have t2 : ∀ p : Int, (t.take i ++ [p]).length = i + 1 := fun p => by rw [List.length_append, t1]; rfl
  have m3 : (m.take i ++ [m.getD i 0 + m.getD (i + 1) 0] ++ m.drop (i + 2)).length + 1 = l.length := by rw [List.length_append, m2, List.length_drop]; omega
  have t3 : (t.take i ++ [t.getD i 0 + t.getD (i + 1) 0] ++ t.drop (i + 2)).length + 1 = l.length := by rw [List.length_append, t2, List.length_drop]; omega
  simp (disch := omega) only [qay, nth0, nth1, nth2, nth3, bit, qef, qeg, qer, qew, qex, qey, qez, qe0, qe1, qe2, qeh, qei, qej, qek, qel, qem, qen, qeo, qep, qeq, qes, qet, qeu, qev, qrf, qre, qrg, qnd, qn3, qn5, qjh, qa5, qqo, nI, qfb, qe9, Bool.not_true, Bool.not_false, Bool.and_true, Bool.true_and, Bool.and_false, Bool.false_and, Bool.or_true, Bool.true_or, Bool.or_false, Bool.false_or, beq_self_eq_true, dTT, dFF, dT, dF, bigI, big0, qnc, qr4, qr5, List.length_set, List.length_replicate, Int.toNat_natCast, qed, qee, imax, imin, eM, ton0, Nat.sub_zero, Nat.zero_add, List.drop_zero, qq4, m1, m2, t1, t2]
  rw [List.append_assoc, List.append_assoc]
  rfl
end Go.Proofs.YtjfjniebmdafeaaGreatDoor
end
section
namespace Go.Proofs.YtjfjniebmdafeaaGreatDoor
open Go.Ev
set_option maxRecDepth 20000
theorem qcn {a b : Cell} (ha : idOk a.1 a.2.1 a.2.2 = true) (hb : idOk b.1 b.2.1 b.2.2 = true) (k : Nat) (hk : 2000000 ≤ k) : go (k + 3) spec_IsSibling [.agg [.int .i64 a.1, .int .i64 a.2.1, .int .i64 a.2.2], .agg [.int .i64 b.1, .int .i64 b.2.1, .int .i64 b.2.2]] = some [.bool (sib a b)] := by
  have ia := qjb.1 ha; have ib := qjb.1 hb
  have pa : pow2 a.2.1 ≤ 16 := by
    rcases lev (qjf.2 ia.2.1) with e | e | e | e | e <;> rw [e] <;> decide
  have ea : Int.tmod a.2.2 2 = a.2.2 % 2 := Int.tmod_eq_emod_of_nonneg ia.2.2.1
  have da : Int.tdiv a.2.2 2 = a.2.2 / 2 := Int.tdiv_eq_ediv_of_nonneg ia.2.2.1
  have db : Int.tdiv b.2.2 2 = b.2.2 / 2 := Int.tdiv_eq_ediv_of_nonneg ib.2.2.1
  have pb : pow2 b.2.1 ≤ 16 := by
    rcases lev (qjf.2 ib.2.1) with e | e | e | e | e <;> rw [e] <;> decide
  rw [qg4]
  simp (disch := omega) only [qay, nth0, nth1, nth2, nth3, bit, qef, qeg, qer, qew, qex, qey, qez, qe0, qe1, qe2, qeh, qei, qej, qek, qel, qem, qen, qeo, qep, qeq, qes, qet, qeu, qev, qrf, qre, qrg, qnd, qn3, qn5, qjh, qa5, qqo, nI, qfb, qe9, Bool.not_true, Bool.not_false, Bool.and_true, Bool.true_and, Bool.and_false, Bool.false_and, Bool.or_true, Bool.true_or, Bool.or_false, Bool.false_or, beq_self_eq_true, dTT, dFF, dT, dF, bigI, big0, qnc, qr4, qr5, List.length_set, List.length_replicate, Int.toNat_natCast, qed, qee, imax, imin, qck, ha, hb, ea]
  unfold sib
  rw [ha, hb]
  by_cases h1 : a.1 = b.1
  · by_cases h2 : a.2.1 = b.2.1
    · by_cases h3 : a.2.2 % 2 = 0
      · simp (disch := omega) only [qay, nth0, nth1, nth2, nth3, bit, qef, qeg, qer, qew, qex, qey, qez, qe0, qe1, qe2, qeh, qei, qej, qek, qel, qem, qen, qeo, qep, qeq, qes, qet, qeu, qev, qrf, qre, qrg, qnd, qn3, qn5, qjh, qa5, qqo, nI, qfb, qe9, Bool.not_true, Bool.not_false, Bool.and_true, Bool.true_and, Bool.and_false, Bool.false_and, Bool.or_true, Bool.true_or, Bool.or_false, Bool.false_or, beq_self_eq_true, dTT, dFF, dT, dF, bigI, big0, qnc, qr4, qr5, List.length_set, List.length_replicate, Int.toNat_natCast, qed, qee, imax, imin]
      · simp (disch := omega) only [qay, nth0, nth1, nth2, nth3, bit, qef, qeg, qer, qew, qex, qey, qez, qe0, qe1, qe2, qeh, qei, qej, qek, qel, qem, qen, qeo, qep, qeq, qes, qet, qeu, qev, qrf, qre, qrg, qnd, qn3, qn5, qjh, qa5, qqo, nI, qfb, qe9, Bool.not_true, Bool.not_false, Bool.and_true, Bool.true_and, Bool.and_false, Bool.false_and, Bool.or_true, Bool.true_or, Bool.or_false, Bool.false_or, beq_self_eq_true, dTT, dFF, dT, dF, bigI, big0, qnc, qr4, qr5, List.length_set, List.length_replicate, Int.toNat_natCast, qed, qee, imax, imin]
    · simp (disch := omega) only [qay, nth0, nth1, nth2, nth3, bit, qef, qeg, qer, qew, qex, qey, qez, qe0, qe1, qe2, qeh, qei, qej, qek, qel, qem, qen, qeo, qep, qeq, qes, qet, qeu, qev, qrf, qre, qrg, qnd, qn3, qn5, qjh, qa5, qqo, nI, qfb, qe9, Bool.not_true, Bool.not_false, Bool.and_true, Bool.true_and, Bool.and_false, Bool.false_and, Bool.or_true, Bool.true_or, Bool.or_false, Bool.false_or, beq_self_eq_true, dTT, dFF, dT, dF, bigI, big0, qnc, qr4, qr5, List.length_set, List.length_replicate, Int.toNat_natCast, qed, qee, imax, imin]
  · simp (disch := omega) only [qay, nth0, nth1, nth2, nth3, bit, qef, qeg, qer, qew, qex, qey, qez, qe0, qe1, qe2, qeh, qei, qej, qek, qel, qem, qen, qeo, qep, qeq, qes, qet, qeu, qev, qrf, qre, qrg, qnd, qn3, qn5, qjh, qa5, qqo, nI, qfb, qe9, Bool.not_true, Bool.not_false, Bool.and_true, Bool.true_and, Bool.and_false, Bool.false_and, Bool.or_true, Bool.true_or, Bool.or_false, Bool.false_or, beq_self_eq_true, dTT, dFF, dT, dF, bigI, big0, qnc, qr4, qr5, List.length_set, List.length_replicate, Int.toNat_natCast, qed, qee, imax, imin]
theorem qdl (k : Nat) (hk : 2000000 ≤ k) (r : Int) (z : Bool) (l : List Cell) (h : qmx r 0 l = true) (i : Nat) (hi : i + 1 < l.length) :
    go (k + 4) spec_l06May [.agg [.int .i64 r, .arr false z (.r3 l)], .int .i64 (i : Int)] = some [.bool (mayC l i)] := by
  rw [qhy]
  have L := qm2 h
  have id := fun j (hj : j < l.length) => ((qm1 _ _ _ h).2.2.2.1 _ hj).2.2
  have eS := qcn (id i (by omega)) (id (i + 1) hi) k (by omega)
  unfold mayC
  simp (disch := omega) only [qay, nth0, nth1, nth2, nth3, bit, qef, qeg, qer, qew, qex, qey, qez, qe0, qe1, qe2, qeh, qei, qej, qek, qel, qem, qen, qeo, qep, qeq, qes, qet, qeu, qev, qrf, qre, qrg, qnd, qn3, qn5, qjh, qa5, qqo, nI, qfb, qe9, Bool.not_true, Bool.not_false, Bool.and_true, Bool.true_and, Bool.and_false, Bool.false_and, Bool.or_true, Bool.true_or, Bool.or_false, Bool.false_or, beq_self_eq_true, dTT, dFF, dT, dF, bigI, big0, qnc, qr4, qr5, List.length_set, List.length_replicate, Int.toNat_natCast, qed, qee, imax, imin, eS]
  cases sib (l.getD i zz3) (l.getD (i + 1) zz3)
  · simp (disch := omega) only [qay, nth0, nth1, nth2, nth3, bit, qef, qeg, qer, qew, qex, qey, qez, qe0, qe1, qe2, qeh, qei, qej, qek, qel, qem, qen, qeo, qep, qeq, qes, qet, qeu, qev, qrf, qre, qrg, qnd, qn3, qn5, qjh, qa5, qqo, nI, qfb, qe9, Bool.not_true, Bool.not_false, Bool.and_true, Bool.true_and, Bool.and_false, Bool.false_and, Bool.or_true, Bool.true_or, Bool.or_false, Bool.false_or, beq_self_eq_true, dTT, dFF, dT, dF, bigI, big0, qnc, qr4, qr5, List.length_set, List.length_replicate, Int.toNat_natCast, qed, qee, imax, imin]
  by_cases h0 : i = 0
  · subst h0
    by_cases h1 : l.length ≤ 2
    · simp (disch := omega) only [qay, nth0, nth1, nth2, nth3, bit, qef, qeg, qer, qew, qex, qey, qez, qe0, qe1, qe2, qeh, qei, qej, qek, qel, qem, qen, qeo, qep, qeq, qes, qet, qeu, qev, qrf, qre, qrg, qnd, qn3, qn5, qjh, qa5, qqo, nI, qfb, qe9, Bool.not_true, Bool.not_false, Bool.and_true, Bool.true_and, Bool.and_false, Bool.false_and, Bool.or_true, Bool.true_or, Bool.or_false, Bool.false_or, beq_self_eq_true, dTT, dFF, dT, dF, bigI, big0, qnc, qr4, qr5, List.length_set, List.length_replicate, Int.toNat_natCast, qed, qee, imax, imin]
    · simp only [qla]
      simp (disch := omega) only [qay, nth0, nth1, nth2, nth3, bit, qef, qeg, qer, qew, qex, qey, qez, qe0, qe1, qe2, qeh, qei, qej, qek, qel, qem, qen, qeo, qep, qeq, qes, qet, qeu, qev, qrf, qre, qrg, qnd, qn3, qn5, qjh, qa5, qqo, nI, qfb, qe9, Bool.not_true, Bool.not_false, Bool.and_true, Bool.true_and, Bool.and_false, Bool.false_and, Bool.or_true, Bool.true_or, Bool.or_false, Bool.false_or, beq_self_eq_true, dTT, dFF, dT, dF, bigI, big0, qnc, qr4, qr5, List.length_set, List.length_replicate, Int.toNat_natCast, qed, qee, imax, imin, Nat.zero_add]
  · by_cases h1 : l.length ≤ i + 2
    · simp only [qla]
      by_cases h2 : (l.getD (i - 1) zz3).2.1 ≤ (l.getD i zz3).2.1
      · simp (disch := omega) only [qay, nth0, nth1, nth2, nth3, bit, qef, qeg, qer, qew, qex, qey, qez, qe0, qe1, qe2, qeh, qei, qej, qek, qel, qem, qen, qeo, qep, qeq, qes, qet, qeu, qev, qrf, qre, qrg, qnd, qn3, qn5, qjh, qa5, qqo, nI, qfb, qe9, Bool.not_true, Bool.not_false, Bool.and_true, Bool.true_and, Bool.and_false, Bool.false_and, Bool.or_true, Bool.true_or, Bool.or_false, Bool.false_or, beq_self_eq_true, dTT, dFF, dT, dF, bigI, big0, qnc, qr4, qr5, List.length_set, List.length_replicate, Int.toNat_natCast, qed, qee, imax, imin, qec]
      · simp (disch := omega) only [qay, nth0, nth1, nth2, nth3, bit, qef, qeg, qer, qew, qex, qey, qez, qe0, qe1, qe2, qeh, qei, qej, qek, qel, qem, qen, qeo, qep, qeq, qes, qet, qeu, qev, qrf, qre, qrg, qnd, qn3, qn5, qjh, qa5, qqo, nI, qfb, qe9, Bool.not_true, Bool.not_false, Bool.and_true, Bool.true_and, Bool.and_false, Bool.false_and, Bool.or_true, Bool.true_or, Bool.or_false, Bool.false_or, beq_self_eq_true, dTT, dFF, dT, dF, bigI, big0, qnc, qr4, qr5, List.length_set, List.length_replicate, Int.toNat_natCast, qed, qee, imax, imin, qec]
    · simp only [qla]
      by_cases h2 : (l.getD (i - 1) zz3).2.1 ≤ (l.getD i zz3).2.1
      · simp (disch := omega) only [qay, nth0, nth1, nth2, nth3, bit, qef, qeg, qer, qew, qex, qey, qez, qe0, qe1, qe2, qeh, qei, qej, qek, qel, qem, qen, qeo, qep, qeq, qes, qet, qeu, qev, qrf, qre, qrg, qnd, qn3, qn5, qjh, qa5, qqo, nI, qfb, qe9, Bool.not_true, Bool.not_false, Bool.and_true, Bool.true_and, Bool.and_false, Bool.false_and, Bool.or_true, Bool.true_or, Bool.or_false, Bool.false_or, beq_self_eq_true, dTT, dFF, dT, dF, bigI, big0, qnc, qr4, qr5, List.length_set, List.length_replicate, Int.toNat_natCast, qed, qee, imax, imin, qec]
      · simp (disch := omega) only [qay, nth0, nth1, nth2, nth3, bit, qef, qeg, qer, qew, qex, qey, qez, qe0, qe1, qe2, qeh, qei, qej, qek, qel, qem, qen, qeo, qep, qeq, qes, qet, qeu, qev, qrf, qre, qrg, qnd, qn3, qn5, qjh, qa5, qqo, nI, qfb, qe9, Bool.not_true, Bool.not_false, Bool.and_true, Bool.true_and, Bool.and_false, Bool.false_and, Bool.or_true, Bool.true_or, Bool.or_false, Bool.false_or, beq_self_eq_true, dTT, dFF, dT, dF, bigI, big0, qnc, qr4, qr5, List.length_set, List.length_replicate, Int.toNat_natCast, qed, qee, imax, imin, qec]
theorem qmh (k : Nat) (hk : 2000000 ≤ k) (fu : List (Nat × Nat)) (z10 : Bool) (l11 : List Cell) (z12 : Bool) (l13 : List Int) (z14 : Bool) (l15 : List Int) (z16 : Bool) (l17 : List Int) (x18 : Int) (r : Int) (b : List Int) : ∀ (N n : Nat) (s : S3), N < n → StU r s b → 129 ≤ N + s.1.length →
    lp (k + 5) spec_l08Level [] fu 2 (n) (qo9 (unb s.1) false s.1 false s.2.1 false s.2.2 false b r z10 l11 z12 l13 z14 l15 z16 l17 x18) = some [.agg [.int .i64 (r), .arr true (false) (.r3 ((lvS N s).1)), .arr true (false) (.ints .i64 ((lvS N s).2.1)), .arr true (false) (.ints .i64 ((lvS N s).2.2)), .arr true (false) (.ints .i64 (b))]]
  | N, 0, s, hn, U, hN => by omega
  | 0, n + 1, s, hn, U, hN => by have := U.len; omega
  | N + 1, n + 1, s, hn, U, hN => by
    rw [qks]
    have L := U.len
    unfold lvS
    by_cases g : unb s.1 < 0
    · rw [if_pos g]; simp (disch := omega) only [qay, nth0, nth1, nth2, nth3, bit, qef, qeg, qer, qew, qex, qey, qez, qe0, qe1, qe2, qeh, qei, qej, qek, qel, qem, qen, qeo, qep, qeq, qes, qet, qeu, qev, qrf, qre, qrg, qnd, qn3, qn5, qjh, qa5, qqo, nI, qfb, qe9, Bool.not_true, Bool.not_false, Bool.and_true, Bool.true_and, Bool.and_false, Bool.false_and, Bool.or_true, Bool.true_or, Bool.or_false, Bool.false_or, beq_self_eq_true, dTT, dFF, dT, dF, bigI, big0, qnc, qr4, qr5, List.length_set, List.length_replicate, Int.toNat_natCast, qed, qee, imax, imin]
    · rw [if_neg g]
      obtain ⟨j, e, h1, h2⟩ := qrj (by omega : 0 ≤ unb s.1)
      have c := qe7 U.mesh h1 h2
      rw [e, Int.toNat_natCast]
      have U' := rf_U U c.1 c.2
      have L' := U'.len
      have IH := qmh k hk fu z10 l11 z12 l13 z14 l15 z16 l17 x18 r b N n _ (by omega) U' (by show 129 ≤ N + (qp3 s.1 _).length; rw [qp4 c.1]; omega)
      have eC := qdg (k + 4) (by omega) r false s.1 j (by omega) h1
      have eR := qdr k (by omega) r s b U (qe6 s.1 j) c.1 c.2
      have eT := qdi (k + 4) (by omega) r false (rfS s (qe6 s.1 j)).1 (by omega) (qm3 _ _ _ U'.mesh)
      simp (disch := omega) only [qay, nth0, nth1, nth2, nth3, bit, qef, qeg, qer, qew, qex, qey, qez, qe0, qe1, qe2, qeh, qei, qej, qek, qel, qem, qen, qeo, qep, qeq, qes, qet, qeu, qev, qrf, qre, qrg, qnd, qn3, qn5, qjh, qa5, qqo, nI, qfb, qe9, Bool.not_true, Bool.not_false, Bool.and_true, Bool.true_and, Bool.and_false, Bool.false_and, Bool.or_true, Bool.true_or, Bool.or_false, Bool.false_or, beq_self_eq_true, dTT, dFF, dT, dF, bigI, big0, qnc, qr4, qr5, List.length_set, List.length_replicate, Int.toNat_natCast, qed, qee, imax, imin, eC, eR, eT, IH]
theorem qd7 (k : Nat) (hk : 2000000 ≤ k) (r : Int) (s : S3) (b : List Int) (U : StU r s b) : go (k + 6) spec_l08Level [.agg [.int .i64 (r), .arr true (false) (.r3 (s.1)), .arr true (false) (.ints .i64 (s.2.1)), .arr true (false) (.ints .i64 (s.2.2)), .arr true (false) (.ints .i64 (b))]] = some [.agg [.int .i64 (r), .arr true (false) (.r3 ((lvS 128 s).1)), .arr true (false) (.ints .i64 ((lvS 128 s).2.1)), .arr true (false) (.ints .i64 ((lvS 128 s).2.2)), .arr true (false) (.ints .i64 (b))]] := by
  rw [qh3]
  have L := U.len
  have eT := qdi (k + 4) (by omega) r false s.1 (by omega) (qm3 _ _ _ U.mesh)
  simp (disch := omega) only [qay, nth0, nth1, nth2, nth3, bit, qef, qeg, qer, qew, qex, qey, qez, qe0, qe1, qe2, qeh, qei, qej, qek, qel, qem, qen, qeo, qep, qeq, qes, qet, qeu, qev, qrf, qre, qrg, qnd, qn3, qn5, qjh, qa5, qqo, nI, qfb, qe9, Bool.not_true, Bool.not_false, Bool.and_true, Bool.true_and, Bool.and_false, Bool.false_and, Bool.or_true, Bool.true_or, Bool.or_false, Bool.false_or, beq_self_eq_true, dTT, dFF, dT, dF, bigI, big0, qnc, qr4, qr5, List.length_set, List.length_replicate, Int.toNat_natCast, qed, qee, imax, imin, eT]
  exact qmh k hk [] _ _ _ _ _ _ _ _ _ r b 128 _ s (by omega) U (by omega)
end Go.Proofs.YtjfjniebmdafeaaGreatDoor
end
