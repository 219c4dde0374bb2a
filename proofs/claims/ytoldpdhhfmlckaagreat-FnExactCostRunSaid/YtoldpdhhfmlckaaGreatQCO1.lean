/- What the program's functions compute, and plain facts of it (part 1). No condition beyond those that each theorem states. -/
import Derived.Test.YtoldpdhhfmlckaaGreatQC3
set_option linter.unusedVariables false
set_option linter.unusedSimpArgs false
section
namespace Go.Proofs.YtoldpdhhfmlckaaGreat
open Go.Ev
theorem qnx {l : List Cell} (h : qab l) (i : Nat) : inR (qnw l i) 0 4 = true := by
  have h1 := h i; have h2 := h (i + 1)
  unfold qnw; rw [qoo]; omega
end Go.Proofs.YtoldpdhhfmlckaaGreat
end
section
namespace Go.Proofs.YtoldpdhhfmlckaaGreat
open Go.Ev
def qxo (x0 x1 : Int) (z2 : Bool) (l3 : List (Int × Int × Int)) (x4 : Int) : St := ⟨fill 21 [(1, (.ptr 1 (0) (0))), (3, (.int .i64 (x0))), (4, (.int .i64 (x1)))], [], [(.arr false (z2) (.r3 (l3))), (.box true [(.int .i64 (x4)), (.sl 0 none)])]⟩
theorem qni (k : Nat) (a0 : Int) (a1z : Bool) (a1 : List (Int × Int × Int)) : go (k + 1) spec_l16Cost [(.agg [(.int .i64 (a0)), (.arr false (a1z) (.r3 (a1)))])] =
 lp k spec_l16Cost [] [] 3 k (qxo (0 : Int) (0 : Int) a1z a1 a0) := by kernel_rfl
theorem qqw (k n : Nat) (fu : List (Nat × Nat)) (x0 x1 : Int) (z2 : Bool) (l3 : List (Int × Int × Int)) (x4 : Int) : lp k spec_l16Cost [] fu 3 (n + 1) (qxo x0 x1 z2 l3 x4) =
 cond (decide (IntKind.wrap .i64 (x1 + (1 : Int)) < nI (List.length l3)))
 ((go k spec_l05Face [(.agg [(.int .i64 (x4)), (.arr false (z2) (.r3 (l3)))]), (.int .i64 (x1))]).bind fun r0 =>
 cond (decide ((0 : Int) ≤ IntKind.wrap IntKind.u64 (D.toInt (nth r0 0))))
 (lp k spec_l16Cost [] fu 3 n (qxo (IntKind.wrap .i64 (x0 + IntKind.wrap .i64 ((1 : Int) * (2 : Int) ^ shiftN .i64 (IntKind.wrap IntKind.u64 (D.toInt (nth r0 0)))))) (IntKind.wrap .i64 (x1 + (1 : Int))) z2 l3 x4))
 (none))
 (some [(.int .i64 (x0))]) := by kernel_rfl
def qvy (x0 x1 x2 : Int) (z3 : Bool) (l4 : List (Int × Int × Int)) (x5 : Int) : St := ⟨fill 22 [(1, (.ptr 1 (0) (0))), (3, (.int .i64 (x0))), (10, (.int .i64 (x1))), (11, (.int .i64 (x2)))], [], [(.arr false (z3) (.r3 (l4))), (.box true [(.int .i64 (x5)), (.sl 0 none)])]⟩
theorem qia (k : Nat) (a0 : Int) (a1z : Bool) (a1 : List (Int × Int × Int)) : go (k + 1) impl_CostOf [(.agg [(.int .i64 (a0)), (.arr false (a1z) (.r3 (a1)))])] =
 (go k impl_MeshOk [(.agg [(.int .i64 (a0)), (.arr false (a1z) (.r3 (a1)))])]).bind fun r0 =>
 cond (bit (nth r0 0))
 (lp k impl_CostOf [] [] 4 k (qvy (0 : Int) (IntKind.wrap .i64 (nI (List.length a1) - (1 : Int))) (0 : Int) a1z a1 a0))
 (some [(.int .i64 (0 : Int))]) := by kernel_rfl
theorem qo6 (k n : Nat) (fu : List (Nat × Nat)) (x0 x1 x2 : Int) (z3 : Bool) (l4 : List (Int × Int × Int)) (x5 : Int) : lp k impl_CostOf [] fu 4 (n + 1) (qvy x0 x1 x2 z3 l4 x5) =
 cond (decide (x2 < x1))
 ((go k impl_Mesh_faceLevel [(.agg [(.int .i64 (x5)), (.arr false (z3) (.r3 (l4)))]), (.int .i64 (x2))]).bind fun r0 =>
 cond (decide ((0 : Int) ≤ D.toInt (nth r0 0)))
 (lp k impl_CostOf [] fu 4 n (qvy (IntKind.wrap .i64 (x0 + IntKind.wrap .i64 ((1 : Int) * (2 : Int) ^ shiftN .i64 (D.toInt (nth r0 0))))) x1 (IntKind.wrap .i64 (x2 + (1 : Int))) z3 l4 x5))
 (none))
 (some [(.int .i64 (x0))]) := by kernel_rfl
def qwk (x0 x1 : Int) (z2 : Bool) (l3 : List Int) (x4 x5 x6 x7 x8 x9 x10 x11 x12 : Int) (z13 : Bool) (l14 : List (Int × Int × Int)) (z15 : Bool) (l16 : List Int) (z17 : Bool) (l18 : List Int) (z19 : Bool) (l20 : List Int) (x21 : Int) : St := ⟨fill 37 [(3, (.fn impl_CostRun_1 [(.ptr 1 (0) (0))])), (5, (.ptr 2 (0) (0))), (9, (.ptr 7 (0) (0))), (26, (.int .i64 (x0))), (27, (.int .i64 (x1)))], [(.fn impl_CostRun_1 [(.ptr 1 (0) (0))])], [(.arr true (z2) (.ints .i64 (l3))), (.box true [(.sl 0 none)]), (.box true [(.int .i64 (x4)), (.int .i64 (x5)), (.int .i64 (x6)), (.int .i64 (x7)), (.int .i64 (x8)), (.int .i64 (x9)), (.int .i64 (x10)), (.int .i64 (x11)), (.int .i64 (x12))]), (.arr true (z13) (.r3 (l14))), (.arr true (z15) (.ints .i64 (l16))), (.arr true (z17) (.ints .i64 (l18))), (.arr true (z19) (.ints .i64 (l20))), (.box true [(.int .i64 (x21)), (.sl 3 none), (.sl 4 none), (.sl 5 none), (.sl 6 none)])]⟩
theorem qke (k : Nat) (v0 : Int) (v1 : Bool) (v2 : List (Int × Int × Int)) (v3 : Bool) (v4 : List Int) (v5 : Bool) (v6 : List Int) (v7 : Bool) (v8 : List Int) (v9 v10 v11 v12 v13 v14 v15 v16 v17 v18 : Int) (v19 : Bool) (v20 : List Int) : go (k + 1) impl_observe [(.agg [(.int .i64 (v0)), (.arr false (v1) (.r3 (v2))), (.arr false (v3) (.ints .i64 (v4))), (.arr false (v5) (.ints .i64 (v6))), (.arr false (v7) (.ints .i64 (v8)))]), (.agg [(.int .i64 (v9)), (.int .i64 (v10)), (.int .i64 (v11)), (.int .i64 (v12)), (.int .i64 (v13)), (.int .i64 (v14)), (.int .i64 (v15)), (.int .i64 (v16)), (.int .i64 (v17))]), (.int .i64 (v18)), (.fn impl_CostRun_1 [(.ptr true [(.arr true (v19) (.ints .i64 (v20)))])])] =
 (go k impl_StateOk [(.agg [(.int .i64 (v0)), (.arr false (v1) (.r3 (v2))), (.arr false (v3) (.ints .i64 (v4))), (.arr false (v5) (.ints .i64 (v6))), (.arr false (v7) (.ints .i64 (v8)))])]).bind fun r0 =>
 cond (!bit (nth r0 0))
 (some [(.bool (false)), (.fn impl_CostRun_1 [(.ptr true [(.arr true (v19) (.ints .i64 (v20)))])])])
 ((go k impl_PlanOk [(.agg [(.int .i64 (v9)), (.int .i64 (v10)), (.int .i64 (v11)), (.int .i64 (v12)), (.int .i64 (v13)), (.int .i64 (v14)), (.int .i64 (v15)), (.int .i64 (v16)), (.int .i64 (v17))])]).bind fun r1 =>
 cond (!bit (nth r1 0))
 (some [(.bool (false)), (.fn impl_CostRun_1 [(.ptr true [(.arr true (v19) (.ints .i64 (v20)))])])])
 ((go k impl_within [(.int .i64 (v18)), (.int .i64 (0 : Int)), (.int .i64 ((100 : Int)))]).bind fun r2 =>
 cond (!bit (nth r2 0))
 (some [(.bool (false)), (.fn impl_CostRun_1 [(.ptr true [(.arr true (v19) (.ints .i64 (v20)))])])])
 ((go k impl_copyState [(.agg [(.int .i64 (v0)), (.arr false (v1) (.r3 (v2))), (.arr false (v3) (.ints .i64 (v4))), (.arr false (v5) (.ints .i64 (v6))), (.arr false (v7) (.ints .i64 (v8)))])]).bind fun r3 =>
 lp k impl_observe [(.fn impl_CostRun_1 [(.ptr true [(.arr true (v19) (.ints .i64 (v20)))])])] [] 5 k (qwk v18 (0 : Int) v19 v20 v9 v10 v11 v12 v13 v14 v15 v16 v17 (D.nil (D.cell 1 (nth r3 0))) (D.r3 (D.cell 1 (nth r3 0))) (D.nil (D.cell 2 (nth r3 0))) (D.ints (D.cell 2 (nth r3 0))) (D.nil (D.cell 3 (nth r3 0))) (D.ints (D.cell 3 (nth r3 0))) (D.nil (D.cell 4 (nth r3 0))) (D.ints (D.cell 4 (nth r3 0))) (D.toInt (D.cell 0 (nth r3 0))))))) := by kernel_rfl
theorem qps (k n : Nat) (fu : List (Nat × Nat)) (v19 : Bool) (v20 : List Int) (x0 x1 : Int) (z2 : Bool) (l3 : List Int) (x4 x5 x6 x7 x8 x9 x10 x11 x12 : Int) (z13 : Bool) (l14 : List (Int × Int × Int)) (z15 : Bool) (l16 : List Int) (z17 : Bool) (l18 : List Int) (z19 : Bool) (l20 : List Int) (x21 : Int) : lp k impl_observe [(.fn impl_CostRun_1 [(.ptr true [(.arr true (v19) (.ints .i64 (v20)))])])] fu 5 (n + 1) (qwk x0 x1 z2 l3 x4 x5 x6 x7 x8 x9 x10 x11 x12 z13 l14 z15 l16 z17 l18 z19 l20 x21) =
 cond (decide (x1 < x0))
 ((go k impl_State_runMacro [(.ptr true [(.int .i64 (x21)), (.arr true (z13) (.r3 (l14))), (.arr true (z15) (.ints .i64 (l16))), (.arr true (z17) (.ints .i64 (l18))), (.arr true (z19) (.ints .i64 (l20)))]), (.agg [(.int .i64 (x4)), (.int .i64 (x5)), (.int .i64 (x6)), (.int .i64 (x7)), (.int .i64 (x8)), (.int .i64 (x9)), (.int .i64 (x10)), (.int .i64 (x11)), (.int .i64 (x12))]), (.int .i64 (x1))]).bind fun r0 =>
 (go k impl_CostRun_1 [(.agg [(.int .i64 (D.toInt (D.cell 0 (nth r0 1)))), (.arr false (D.nil (D.cell 1 (nth r0 1))) (.r3 (D.r3 (D.cell 1 (nth r0 1))))), (.arr false (D.nil (D.cell 2 (nth r0 1))) (.ints .i64 (D.ints (D.cell 2 (nth r0 1))))), (.arr false (D.nil (D.cell 3 (nth r0 1))) (.ints .i64 (D.ints (D.cell 3 (nth r0 1))))), (.arr false (D.nil (D.cell 4 (nth r0 1))) (.ints .i64 (D.ints (D.cell 4 (nth r0 1)))))]), (.ptr true [(.arr true (z2) (.ints .i64 (l3)))])]).bind fun r1 =>
 lp k impl_observe [(.fn impl_CostRun_1 [(.ptr true [(.arr true (v19) (.ints .i64 (v20)))])])] fu 5 n (qwk x0 (IntKind.wrap .i64 (x1 + (1 : Int))) (D.nil (D.cell 0 (nth r1 0))) (D.ints (D.cell 0 (nth r1 0))) x4 x5 x6 x7 x8 x9 x10 x11 x12 (D.nil (D.cell 1 (nth r0 1))) (D.r3 (D.cell 1 (nth r0 1))) (D.nil (D.cell 2 (nth r0 1))) (D.ints (D.cell 2 (nth r0 1))) (D.nil (D.cell 3 (nth r0 1))) (D.ints (D.cell 3 (nth r0 1))) (D.nil (D.cell 4 (nth r0 1))) (D.ints (D.cell 4 (nth r0 1))) (D.toInt (D.cell 0 (nth r0 1)))))
 (some [(.bool (true)), (.fn impl_CostRun_1 [(.ptr true [(.arr true (z2) (.ints .i64 (l3)))])])]) := by kernel_rfl
def qw3 (x0 x1 x2 : Int) (z3 : Bool) (l4 : List (Int × Int × Int)) (z5 : Bool) (l6 : List Int) (z7 : Bool) (l8 : List Int) (z9 : Bool) (l10 : List Int) (x11 x12 x13 x14 x15 x16 x17 x18 x19 x20 : Int) : St := ⟨fill 43 [(2, (.int .i64 (x0))), (3, (.ptr 4 (0) (0))), (4, (.ptr 5 (0) (0))), (7, (.int .i64 (x1))), (8, (.int .i64 (x2)))], [], [(.arr false (z3) (.r3 (l4))), (.arr false (z5) (.ints .i64 (l6))), (.arr false (z7) (.ints .i64 (l8))), (.arr false (z9) (.ints .i64 (l10))), (.box true [(.int .i64 (x11)), (.sl 0 none), (.sl 1 none), (.sl 2 none), (.sl 3 none)]), (.box true [(.int .i64 (x12)), (.int .i64 (x13)), (.int .i64 (x14)), (.int .i64 (x15)), (.int .i64 (x16)), (.int .i64 (x17)), (.int .i64 (x18)), (.int .i64 (x19)), (.int .i64 (x20))])]⟩
def qw4 (x0 x1 x2 : Int) (z3 : Bool) (l4 : List (Int × Int × Int)) (z5 : Bool) (l6 : List Int) (z7 : Bool) (l8 : List Int) (z9 : Bool) (l10 : List Int) (x11 x12 x13 x14 x15 x16 x17 x18 x19 x20 : Int) : St := ⟨fill 43 [(2, (.int .i64 (x0))), (3, (.ptr 4 (0) (0))), (4, (.ptr 5 (0) (0))), (7, (.int .i64 (x1))), (8, (.int .i64 (x2)))], [], [(.arr true (z3) (.r3 (l4))), (.arr true (z5) (.ints .i64 (l6))), (.arr true (z7) (.ints .i64 (l8))), (.arr true (z9) (.ints .i64 (l10))), (.box true [(.int .i64 (x11)), (.sl 0 none), (.sl 1 none), (.sl 2 none), (.sl 3 none)]), (.box true [(.int .i64 (x12)), (.int .i64 (x13)), (.int .i64 (x14)), (.int .i64 (x15)), (.int .i64 (x16)), (.int .i64 (x17)), (.int .i64 (x18)), (.int .i64 (x19)), (.int .i64 (x20))])]⟩
theorem ql3 (k : Nat) (a0 : Int) (a1z : Bool) (a1 : List (Int × Int × Int)) (a2z : Bool) (a2 : List Int) (a3z : Bool) (a3 : List Int) (a4z : Bool) (a4 : List Int) (b0 b1 b2 b3 b4 b5 b6 b7 b8 c : Int) : go (k + 1) spec_CostRun [(.agg [(.int .i64 (a0)), (.arr false (a1z) (.r3 (a1))), (.arr false (a2z) (.ints .i64 (a2))), (.arr false (a3z) (.ints .i64 (a3))), (.arr false (a4z) (.ints .i64 (a4)))]), (.agg [(.int .i64 (b0)), (.int .i64 (b1)), (.int .i64 (b2)), (.int .i64 (b3)), (.int .i64 (b4)), (.int .i64 (b5)), (.int .i64 (b6)), (.int .i64 (b7)), (.int .i64 (b8))]), (.int .i64 (c))] =
 (go k spec_StateOk [(.agg [(.int .i64 (a0)), (.arr false (a1z) (.r3 (a1))), (.arr false (a2z) (.ints .i64 (a2))), (.arr false (a3z) (.ints .i64 (a3))), (.arr false (a4z) (.ints .i64 (a4)))])]).bind fun r0 =>
 cond (!bit (nth r0 0))
 (some [(.int .i64 ((-1 : Int)))])
 ((go k spec_PlanOk [(.agg [(.int .i64 (b0)), (.int .i64 (b1)), (.int .i64 (b2)), (.int .i64 (b3)), (.int .i64 (b4)), (.int .i64 (b5)), (.int .i64 (b6)), (.int .i64 (b7)), (.int .i64 (b8))])]).bind fun r1 =>
 cond (!bit (nth r1 0))
 (some [(.int .i64 ((-1 : Int)))])
 ((go k spec_l01In [(.int .i64 (c)), (.int .i64 (0 : Int)), (.int .i64 ((100 : Int)))]).bind fun r2 =>
 cond (!bit (nth r2 0))
 (some [(.int .i64 ((-1 : Int)))])
 (lp k spec_CostRun [] [] 5 k (qw3 c (0 : Int) (0 : Int) a1z a1 a2z a2 a3z a3 a4z a4 a0 b0 b1 b2 b3 b4 b5 b6 b7 b8)))) := by kernel_rfl
theorem qqb (k n : Nat) (fu : List (Nat × Nat)) (x0 x1 x2 : Int) (z3 : Bool) (l4 : List (Int × Int × Int)) (z5 : Bool) (l6 : List Int) (z7 : Bool) (l8 : List Int) (z9 : Bool) (l10 : List Int) (x11 x12 x13 x14 x15 x16 x17 x18 x19 x20 : Int) : lp k spec_CostRun [] fu 5 (n + 1) (qw3 x0 x1 x2 z3 l4 z5 l6 z7 l8 z9 l10 x11 x12 x13 x14 x15 x16 x17 x18 x19 x20) =
 cond (decide (x2 < x0))
 ((go k spec_l16Cost [(.agg [(.int .i64 (x11)), (.arr false (z3) (.r3 (l4)))])]).bind fun r0 =>
 (go k spec_l18Macro [(.agg [(.int .i64 (x11)), (.arr false (z3) (.r3 (l4))), (.arr false (z5) (.ints .i64 (l6))), (.arr false (z7) (.ints .i64 (l8))), (.arr false (z9) (.ints .i64 (l10)))]), (.agg [(.int .i64 (x12)), (.int .i64 (x13)), (.int .i64 (x14)), (.int .i64 (x15)), (.int .i64 (x16)), (.int .i64 (x17)), (.int .i64 (x18)), (.int .i64 (x19)), (.int .i64 (x20))]), (.int .i64 (x2))]).bind fun r1 =>
 lp k spec_CostRun [] fu 5 n (qw4 x0 (IntKind.wrap .i64 (x1 + D.toInt (nth r0 0))) (IntKind.wrap .i64 (x2 + (1 : Int))) (D.nil (D.cell 1 (nth r1 0))) (D.r3 (D.cell 1 (nth r1 0))) (D.nil (D.cell 2 (nth r1 0))) (D.ints (D.cell 2 (nth r1 0))) (D.nil (D.cell 3 (nth r1 0))) (D.ints (D.cell 3 (nth r1 0))) (D.nil (D.cell 4 (nth r1 0))) (D.ints (D.cell 4 (nth r1 0))) (D.toInt (D.cell 0 (nth r1 0))) x12 x13 x14 x15 x16 x17 x18 x19 x20))
 (some [(.int .i64 (x1))]) := by kernel_rfl
theorem qqc (k n : Nat) (fu : List (Nat × Nat)) (x0 x1 x2 : Int) (z3 : Bool) (l4 : List (Int × Int × Int)) (z5 : Bool) (l6 : List Int) (z7 : Bool) (l8 : List Int) (z9 : Bool) (l10 : List Int) (x11 x12 x13 x14 x15 x16 x17 x18 x19 x20 : Int) : lp k spec_CostRun [] fu 5 (n + 1) (qw4 x0 x1 x2 z3 l4 z5 l6 z7 l8 z9 l10 x11 x12 x13 x14 x15 x16 x17 x18 x19 x20) =
 cond (decide (x2 < x0))
 ((go k spec_l16Cost [(.agg [(.int .i64 (x11)), (.arr false (z3) (.r3 (l4)))])]).bind fun r0 =>
 (go k spec_l18Macro [(.agg [(.int .i64 (x11)), (.arr false (z3) (.r3 (l4))), (.arr false (z5) (.ints .i64 (l6))), (.arr false (z7) (.ints .i64 (l8))), (.arr false (z9) (.ints .i64 (l10)))]), (.agg [(.int .i64 (x12)), (.int .i64 (x13)), (.int .i64 (x14)), (.int .i64 (x15)), (.int .i64 (x16)), (.int .i64 (x17)), (.int .i64 (x18)), (.int .i64 (x19)), (.int .i64 (x20))]), (.int .i64 (x2))]).bind fun r1 =>
 lp k spec_CostRun [] fu 5 n (qw4 x0 (IntKind.wrap .i64 (x1 + D.toInt (nth r0 0))) (IntKind.wrap .i64 (x2 + (1 : Int))) (D.nil (D.cell 1 (nth r1 0))) (D.r3 (D.cell 1 (nth r1 0))) (D.nil (D.cell 2 (nth r1 0))) (D.ints (D.cell 2 (nth r1 0))) (D.nil (D.cell 3 (nth r1 0))) (D.ints (D.cell 3 (nth r1 0))) (D.nil (D.cell 4 (nth r1 0))) (D.ints (D.cell 4 (nth r1 0))) (D.toInt (D.cell 0 (nth r1 0))) x12 x13 x14 x15 x16 x17 x18 x19 x20))
 (some [(.int .i64 (x1))]) := by kernel_rfl
theorem qib (k : Nat) (a0 : Int) (a1z : Bool) (a1 : List (Int × Int × Int)) (a2z : Bool) (a2 : List Int) (a3z : Bool) (a3 : List Int) (a4z : Bool) (a4 : List Int) (b0 b1 b2 b3 b4 b5 b6 b7 b8 c : Int) : go (k + 1) impl_CostRun [(.agg [(.int .i64 (a0)), (.arr false (a1z) (.r3 (a1))), (.arr false (a2z) (.ints .i64 (a2))), (.arr false (a3z) (.ints .i64 (a3))), (.arr false (a4z) (.ints .i64 (a4)))]), (.agg [(.int .i64 (b0)), (.int .i64 (b1)), (.int .i64 (b2)), (.int .i64 (b3)), (.int .i64 (b4)), (.int .i64 (b5)), (.int .i64 (b6)), (.int .i64 (b7)), (.int .i64 (b8))]), (.int .i64 (c))] =
 (go k impl_CostOf [(.agg [(.int .i64 (a0)), (.arr false (a1z) (.r3 (a1)))])]).bind fun r0 =>
 (go k impl_observe [(.agg [(.int .i64 (a0)), (.arr false (a1z) (.r3 (a1))), (.arr false (a2z) (.ints .i64 (a2))), (.arr false (a3z) (.ints .i64 (a3))), (.arr false (a4z) (.ints .i64 (a4)))]), (.agg [(.int .i64 (b0)), (.int .i64 (b1)), (.int .i64 (b2)), (.int .i64 (b3)), (.int .i64 (b4)), (.int .i64 (b5)), (.int .i64 (b6)), (.int .i64 (b7)), (.int .i64 (b8))]), (.int .i64 (c)), (.fn impl_CostRun_1 [(.ptr true [(.arr true (false) (.ints .i64 ([D.toInt (nth r0 0)])))])])]).bind fun r1 =>
 cond (!bit (nth r1 0))
 (some [(.int .i64 ((-1 : Int)))])
 (cond (decide ((0 : Int) ≤ (0 : Int)) && decide ((0 : Int) ≤ c) && decide (c ≤ nI (List.length (D.ints (D.cell 0 (D.cell 0 (nth r1 1)))))))
 ((go k impl_sum [(.arr false (D.nil (D.cell 0 (D.cell 0 (nth r1 1)))) (.ints .i64 (List.take (Int.toNat c - Int.toNat (0 : Int)) (List.drop (0 + Int.toNat (0 : Int)) (D.ints (D.cell 0 (D.cell 0 (nth r1 1))))))))]).bind fun r2 =>
 some [(.int .i64 (D.toInt (nth r2 0)))])
 (none)) := by kernel_rfl
theorem qic (k : Nat) (v0 : Int) (v1 : Bool) (v2 : List (Int × Int × Int)) (v3 : Bool) (v4 : List Int) (v5 : Bool) (v6 : List Int) (v7 : Bool) (v8 : List Int) (v9 : Bool) (v10 : List Int) : go (k + 1) impl_CostRun_1 [(.agg [(.int .i64 (v0)), (.arr false (v1) (.r3 (v2))), (.arr false (v3) (.ints .i64 (v4))), (.arr false (v5) (.ints .i64 (v6))), (.arr false (v7) (.ints .i64 (v8)))]), (.ptr true [(.arr true (v9) (.ints .i64 (v10)))])] =
 (go k impl_CostOf [(.agg [(.int .i64 (v0)), (.arr false (v1) (.r3 (v2)))])]).bind fun r0 =>
 cond (decide (List.length (v10 ++ [D.toInt (nth r0 0)]) ≤ bigLen))
 (some [(.ptr true [(.arr true (v9 && decide (List.length (v10 ++ [D.toInt (nth r0 0)]) = 0)) (.ints .i64 (v10 ++ [D.toInt (nth r0 0)])))])])
 (none) := by kernel_rfl
end Go.Proofs.YtoldpdhhfmlckaaGreat
end
section
namespace Go.Proofs.YtoldpdhhfmlckaaGreat
open Go.Ev
set_option maxRecDepth 20000
def qnz (l : List Cell) (i : Nat) : Int := pow2 (qnw l i)
def cost (l : List Cell) : Int := qyz (qnz l) (l.length - 1)
theorem qn0 {l : List Cell} (h : qab l) (i : Nat) : 1 ≤ qnz l i ∧ qnz l i ≤ 16 := quv (qnx h i)
theorem qhr {l : List Cell} (h : qab l) : ∀ n : Nat, 0 ≤ qyz (qnz l) n ∧ qyz (qnz l) n ≤ 16 * n
  | 0 => by simp [qyz]
  | n + 1 => by have := qhr h n; have := qn0 h n; simp only [qyz]; omega
theorem qt0 {r : Int} {l : List Cell} (h : qtt r 0 l = true) : qab l := fun i => by
  by_cases hi : i < l.length
  · exact (qol.1 ((qtx _ _ _ h).2.2.2.1 _ hi).2.2).2.1
  · unfold qq8; rw [qn9 (by omega)]; decide
theorem qso (k : Nat) (hk : 2000000 ≤ k) (fu : List (Nat × Nat)) (z : Bool) (r : Int) (l : List Cell) (hl : 1 ≤ l.length ∧ l.length ≤ 128) (hv : qab l) : ∀ (N i : Nat), i + 1 ≤ l.length → l.length - i < N →
    lp (k + 1) spec_l16Cost [] fu 3 (N) (qxo (qyz (qnz l) i) (i : Int) z l r) = some [.int .i64 (cost l)]
  | 0, i, hi, hN => by omega
  | N + 1, i, hi, hN => by
    rw [qqw]
    have c := qhr hv i; have f := qn0 hv i
    have fi := qoo.1 (qnx hv i)
    by_cases g : i + 1 < l.length
    · have IH := qso k hk fu z r l hl hv N (i + 1) (by omega) (by omega)
      rw [show qyz (qnz l) (i + 1) = qyz (qnz l) i + qnz l i from rfl] at IH
      have ew : IntKind.wrap .u64 (qnw l i) = qnw l i := q0g (by omega) (by omega)
      have ep : IntKind.wrap .i64 ((1 : Int) * (2 : Int) ^ shiftN .i64 (qnw l i)) = qnz l i := pw (qnx hv i)
      simp (disch := omega) only [qgr, q0f, nI, dT, qfy, qa2, nth0, qzo, ew, ep, IH, qhn]
    · have : i = l.length - 1 := by omega
      subst this
      simp (disch := omega) only [qgr, q0f, nI, dF, qhl]
      rfl
theorem qgd (k : Nat) (hk : 2000000 ≤ k) (z : Bool) (r : Int) (l : List Cell) (h : qtt r 0 l = true) : go (k + 2) spec_l16Cost [.agg [.int .i64 r, .arr false z (.r3 l)]] = some [.int .i64 (cost l)] := by
  rw [qni]
  have L := qty h
  exact qso k hk [] z r l L (qt0 h) (k + 1) 0 (by omega) (by omega)
theorem qrn (k : Nat) (hk : 2000000 ≤ k) (fu : List (Nat × Nat)) (z : Bool) (r : Int) (l : List Cell) (hl : 1 ≤ l.length ∧ l.length ≤ 128) (hv : qab l) : ∀ (N i : Nat), i + 1 ≤ l.length → l.length - i < N →
    lp (k + 6) impl_CostOf [] fu 4 (N) (qvy (qyz (qnz l) i) ((l.length - 1 : Nat) : Int) (i : Int) z l r) = some [.int .i64 (cost l)]
  | 0, i, hi, hN => by omega
  | N + 1, i, hi, hN => by
    rw [qo6]
    have c := qhr hv i; have f := qn0 hv i
    have fi := qoo.1 (qnx hv i)
    by_cases g : i + 1 < l.length
    · have IH := qrn k hk fu z r l hl hv N (i + 1) (by omega) (by omega)
      rw [show qyz (qnz l) (i + 1) = qyz (qnz l) i + qnz l i from rfl] at IH
      have ep : IntKind.wrap .i64 ((1 : Int) * (2 : Int) ^ shiftN .i64 (qnw l i)) = qnz l i := pw (qnx hv i)
      simp (disch := omega) only [dT, qcs, qgr, q0f, qa2, nth0, qzo, ep, IH, qhn]
    · have : i = l.length - 1 := by omega
      subst this
      simp (disch := omega) only [dF, qgr, q0f, qhl]
      rfl
def qhq (r : Int) (l : List Cell) : Int := cond (qtt r 0 l) (cost l) 0
theorem qbg (k : Nat) (hk : 2000000 ≤ k) (z : Bool) (r : Int) (l : List Cell) (hl : (l.length : Int) ≤ 1048576) : go (k + 7) impl_CostOf [.agg [.int .i64 r, .arr false z (.r3 l)]] = some [.int .i64 (qhq r l)] := by
  rw [qia]
  unfold qhq
  cases h : qtt r 0 l
  · simp (disch := omega) only [qbw, h, bit, nI, q0f, qa2, nth0, qzn, qhl]
  · have L := qty h
    have e := qrn k hk [] z r l L (qt0 h) (k + 6) 0 (by omega) (by omega)
    rw [show ((0 : Nat) : Int) = 0 from rfl, show qyz (qnz l) 0 = 0 from rfl] at e
    simp (disch := omega) only [qbw, h, bit, nI, qgq, q0f, qa2, nth0, qzn, qhn]
    exact e
def macN (p : Pl) (b : List Int) : Nat → S3 → S3
  | 0, s => s
  | n + 1, s => (mac p b (n : Int) (macN p b n s)).1
theorem qtc {r : Int} {b : List Int} {s : S3} (F : StF r s.1 s.2.1 s.2.2 b) {p : Pl} (P : PlF p) : ∀ n, StF r (macN p b n s).1 (macN p b n s).2.1 (macN p b n s).2.2 b
  | 0 => F
  | n + 1 => (qtd (qtc F P n) P (n : Int)).1
def crun (p : Pl) (b : List Int) (s : S3) (j : Nat) : Int := cost (macN p b j s).1
theorem qhs {r : Int} {l : List Cell} {m t b : List Int} (F : StF r l m t b) : 0 ≤ cost l ∧ cost l ≤ 2048 := by
  have := qhr (qt0 F.mesh) (l.length - 1); have := F.len
  unfold cost; omega
theorem qhu {r : Int} {b : List Int} {s : S3} (F : StF r s.1 s.2.1 s.2.2 b) {p : Pl} (P : PlF p) (j : Nat) : 0 ≤ crun p b s j ∧ crun p b s j ≤ 2048 := qhs (qtc F P j)
theorem qht {r : Int} {b : List Int} {s : S3} (F : StF r s.1 s.2.1 s.2.2 b) {p : Pl} (P : PlF p) : ∀ n : Nat, 0 ≤ qyz (crun p b s) n ∧ qyz (crun p b s) n ≤ 2048 * n
  | 0 => by simp [qyz]
  | n + 1 => by have := qht F P n; have := qhu F P n; simp only [qyz]; omega
set_option maxHeartbeats 1000000 in
theorem qsp (k : Nat) (hk : 2000000 ≤ k) (fu : List (Nat × Nat)) (r : Int) (s : S3) (b : List Int) (F : StF r s.1 s.2.1 s.2.2 b) (p : Pl) (P : PlF p) (c : Int) (hc : c ≤ 100) : ∀ (N n i : Nat), (i : Int) + n = c → n < N →
    lp (k + 8) spec_CostRun [] fu 5 (N) (qw4 c (qyz (crun p b s) i) (i : Int) false (macN p b i s).1 false (macN p b i s).2.1 false (macN p b i s).2.2 false b r p.bi p.bs p.bo p.rain p.loss p.dec p.high p.low p.every) = some [.int .i64 (qyz (crun p b s) (i + n))]
  | 0, n, i, hi, hN => by omega
  | N + 1, 0, i, hi, hN => by
    rw [qqc]
    simp (disch := omega) only [dF, qgr, q0f, qhl]; rfl
  | N + 1, n + 1, i, hi, hN => by
    rw [qqc]
    have G := qtc F P i
    have c1 := qhu F P i; have c2 := qht F P i
    have IH := qsp k hk fu r s b F p P c hc N n (i + 1) (by omega) (by omega)
    rw [show qyz (crun p b s) (i + 1) = qyz (crun p b s) i + crun p b s i from rfl, show i + 1 + n = i + (n + 1) by omega] at IH
    simp only [macN] at IH
    have eC := qgd (k + 6) (by omega) false r (macN p b i s).1 G.mesh
    rw [show cost (macN p b i s).1 = crun p b s i from rfl] at eC
    have eM := qgg k (by omega) r (macN p b i s) b G p P (i : Int) (by omega)
    simp (disch := omega) only [dT, eC, eM, qgr, q0f, qa2, nth0, qgu, qt9, quz, qg5, qoq, qg7, qg8, qgt, qzo, IH, qhn]
def cstR (r : Int) (s : S3) (b : List Int) (p : Pl) (c : Int) : Int := cond (stOk r s.1 s.2.1 s.2.2 b && (quu p.bi p.bs p.bo p.rain p.loss p.dec p.high p.low p.every && inR c 0 100)) (qyz (crun p b s) c.toNat) (-1)
theorem qut {p : Pl} (h : quu p.bi p.bs p.bo p.rain p.loss p.dec p.high p.low p.every = true) : PlF p := by
  simp only [quu, qa7, Bool.and_eq_true, qoo] at h
  exact ⟨by omega, by omega, by omega, by omega, by omega, by omega, by omega, by omega, by omega⟩
theorem qe0 (k : Nat) (hk : 2000000 ≤ k) (r : Int) (s : S3) (b : List Int) (p : Pl) (c : Int) (h1 : (s.1.length : Int) ≤ 1048576) (h4 : (b.length : Int) ≤ 1048576) :
    go (k + 9) spec_CostRun [.agg [.int .i64 (r), .arr false (false) (.r3 (s.1)), .arr false (false) (.ints .i64 (s.2.1)), .arr false (false) (.ints .i64 (s.2.2)), .arr false (false) (.ints .i64 (b))], plD p, .int .i64 c] = some [.int .i64 (cstR r s b p c)] := by
  rw [ql3]
  unfold cstR
  cases g : stOk r s.1 s.2.1 s.2.2 b
  · simp (disch := omega) only [qfn, g, bit, qa2, nth0, qzn, Bool.not_false, qhn, Bool.false_and, qhl]
  cases g2 : quu p.bi p.bs p.bo p.rain p.loss p.dec p.high p.low p.every
  · simp (disch := omega) only [qfn, g, bit, qfg, g2, qa2, nth0, qzn, Bool.not_false, qhn, Bool.not_true, qhl, Bool.false_and, Bool.and_false]
  cases g3 : inR c 0 100
  · simp (disch := omega) only [qfn, g, bit, qfg, g2, qfu, g3, qa2, nth0, qzn, Bool.not_false, qhn, Bool.not_true, qhl, Bool.and_false]
  have F := stF.1 g; have P := qut g2; have bc := qoo.1 g3
  simp (disch := omega) only [qfn, g, bit, qfg, g2, qfu, g3, qa2, nth0, qzn, Bool.not_true, qhl, Bool.and_true, qhn]
  cases hn : c.toNat with
  | zero =>
    have : c = 0 := by omega
    subst this
    have e := qqb (k + 8) (k + 8 - 1) [] 0 0 0 false s.1 false s.2.1 false s.2.2 false b r p.bi p.bs p.bo p.rain p.loss p.dec p.high p.low p.every
    rw [show k + 8 - 1 + 1 = k + 8 by omega] at e
    refine e.trans ?_
    simp (disch := omega) only [dF, q0f, qhl]; rfl
  | succ n =>
    have e := qqb (k + 8) (k + 8 - 1) [] c 0 0 false s.1 false s.2.1 false s.2.2 false b r p.bi p.bs p.bo p.rain p.loss p.dec p.high p.low p.every
    rw [show k + 8 - 1 + 1 = k + 8 by omega] at e
    refine e.trans ?_
    have IH := qsp k hk [] r s b F p P c bc.2 (k + 8 - 1) n 1 (by omega) (by omega)
    have c1 := qhu F P 0
    have eC := qgd (k + 6) (by omega) false r s.1 F.mesh
    rw [show cost s.1 = crun p b s 0 from rfl] at eC
    have eM := qgg k (by omega) r s b F p P 0 (by omega)
    rw [show qyz (crun p b s) 1 = 0 + crun p b s 0 from rfl, show ((1 : Nat) : Int) = 0 + 1 from rfl, show macN p b 1 s = (mac p b 0 s).1 from rfl, Nat.add_comm 1 n] at IH
    simp (disch := omega) only [dT, eC, eM, q0f, qa2, nth0, qgu, qt9, quz, qg5, qoq, qg7, qg8, qgt, qzo, IH, qhn]
theorem qbi (k : Nat) (hk : 2000000 ≤ k) (r : Int) (s : S3) (b : List Int) (F : StF r s.1 s.2.1 s.2.2 b) (L : List Int) (hL : L.length ≤ 200) : go (k + 8) impl_CostRun_1 [.agg [.int .i64 (r), .arr false (false) (.r3 (s.1)), .arr false (false) (.ints .i64 (s.2.1)), .arr false (false) (.ints .i64 (s.2.2)), .arr false (false) (.ints .i64 (b))], .ptr true [.arr true false (.ints .i64 L)]] = some [.ptr true [.arr true false (.ints .i64 (L ++ [cost s.1]))]] := by
  rw [qic]
  have Le := F.len; have m := F.mesh
  have eC := qbg k (by omega) false r s.1 (by omega)
  rw [show qhq r s.1 = cost s.1 by unfold qhq; rw [m]; rfl] at eC
  have ll : (L ++ [cost s.1]).length = L.length + 1 := by simp
  simp (disch := omega) only [eC, big0, Bool.false_and, qa2, nth0, qzo, ll, dT, qhn]
set_option maxHeartbeats 1000000 in
theorem qro (k : Nat) (hk : 2000000 ≤ k) (fu : List (Nat × Nat)) (v19 : Bool) (v20 : List Int) (r : Int) (s : S3) (b : List Int) (F : StF r s.1 s.2.1 s.2.2 b) (p : Pl) (P : PlF p) (c : Int) (hc : c ≤ 100) : ∀ (N n i : Nat), (i : Int) + n = c → n < N →
    lp (k + 11) impl_observe [(.fn impl_CostRun_1 [(.ptr true [(.arr true (v19) (.ints .i64 (v20)))])])] fu 5 (N) (qwk c (i : Int) false (tab (i + 1) (crun p b s)) p.bi p.bs p.bo p.rain p.loss p.dec p.high p.low p.every false (macN p b i s).1 false (macN p b i s).2.1 false (macN p b i s).2.2 false b r) = some [.bool true, .fn impl_CostRun_1 [.ptr true [.arr true false (.ints .i64 (tab (i + n + 1) (crun p b s)))]]]
  | 0, n, i, hi, hN => by omega
  | N + 1, 0, i, hi, hN => by
    rw [qps]
    simp (disch := omega) only [dF, qgr, q0f, qhl]
  | N + 1, n + 1, i, hi, hN => by
    rw [qps]
    have G := qtc F P i
    have G1 := qtc F P (i + 1)
    have IH := qro k hk fu v19 v20 r s b F p P c hc N n (i + 1) (by omega) (by omega)
    rw [qzd (i + 1), show i + 1 + n + 1 = i + (n + 1) + 1 by omega] at IH
    have eM := qdc k (by omega) r (macN p b i s) b G p P (i : Int) (by omega)
    have eC := qbi (k + 3) (by omega) r (macN p b (i + 1) s) b G1 (tab (i + 1) (crun p b s)) (by rw [qza]; omega)
    rw [show cost (macN p b (i + 1) s).1 = crun p b s (i + 1) from rfl] at eC
    simp only [macN] at IH eC
    simp (disch := omega) only [dT, eM, qgr, q0f, qa2, nth1, qu4, qzo, qu5, qt9, quz, qu6, qoq, qu7, qu8, eC, nth0, IH, qhn]
theorem qny (f : Nat) (d0 : D) (l : List D) : (D.fn f (d0 :: l)).cell 0 = d0 := Eq.trans rfl rfl
theorem qbh (k : Nat) (hk : 2000000 ≤ k) (r : Int) (s : S3) (b : List Int) (p : Pl) (c : Int) (h1 : (s.1.length : Int) ≤ 1048576) (h2 : (s.2.1.length : Int) ≤ 1048576) (h3 : (s.2.2.length : Int) ≤ 1048576) (h4 : (b.length : Int) ≤ 1048576) :
    go (k + 13) impl_CostRun [.agg [.int .i64 (r), .arr false (false) (.r3 (s.1)), .arr false (false) (.ints .i64 (s.2.1)), .arr false (false) (.ints .i64 (s.2.2)), .arr false (false) (.ints .i64 (b))], plD p, .int .i64 c] = some [.int .i64 (cstR r s b p c)] := by
  rw [qib]
  unfold cstR
  cases g : stOk r s.1 s.2.1 s.2.2 b
  · simp (disch := omega) only [qbg, qke, qb8, g, bit, qa2, nth0, qzn, Bool.not_false, qhn, dT, Bool.true_and, nI, nth1, Bool.false_and, qhl]
  cases g2 : quu p.bi p.bs p.bo p.rain p.loss p.dec p.high p.low p.every
  · simp (disch := omega) only [qbg, qke, qb8, g, bit, qb0, g2, qa2, nth0, qzn, Bool.not_false, qhn, Bool.not_true, qhl, dT, Bool.true_and, nI, nth1, Bool.false_and, Bool.and_false]
  cases g3 : inR c 0 100
  · simp (disch := omega) only [qbg, qke, qb8, g, bit, qb0, g2, qdk, g3, qa2, nth0, qzn, Bool.not_false, qhn, Bool.not_true, qhl, dT, Bool.true_and, nI, nth1, Bool.and_false]
  have F := stF.1 g; have P := qut g2; have bc := qoo.1 g3
  have m := F.mesh
  have e0 : qhq r s.1 = crun p b s 0 := by unfold qhq; rw [m]; rfl
  have eO := qro k (by omega) [] false [crun p b s 0] r s b F p P c bc.2 (k + 11) c.toNat 0 (by omega) (by omega)
  rw [show tab (0 + 1) (crun p b s) = [crun p b s 0] from rfl, show ((0 : Nat) : Int) = 0 from rfl, Nat.zero_add, show macN p b 0 s = s from rfl] at eO
  have tl : (tab (c.toNat + 1) (crun p b s)).length = c.toNat + 1 := qza _ _
  have tk : (tab (c.toNat + 1) (crun p b s)).take c.toNat = tab c.toNat (crun p b s) := by
    rw [qzd, List.take_left' (qza _ _)]
  have mem : ∀ x ∈ tab c.toNat (crun p b s), 0 ≤ x ∧ x ≤ 1000000000000 := by
    intro x hx
    simp only [tab, List.mem_map] at hx
    obtain ⟨j, _, rfl⟩ := hx
    have := qhu F P j; omega
  have eS := qdg (k + 11) (by omega) false (tab c.toNat (crun p b s)) (by rw [qza]; omega) mem
  rw [qo0] at eS
  simp (disch := omega) only [qbg, e0, qke, qb8, g, bit, qb0, g2, qdk, g3, qcm, qa2, nth0, qgu, qt9, quz, qg5, qoq, qg7, qg8, qgt, qzo, qzn, Bool.not_true, qhl, dT, Bool.and_true, nI, Bool.true_and, tnz, Nat.sub_zero, Nat.zero_add, List.drop_zero, eO, nth1, qny, qu4, tl, tk, eS, qhn]
end Go.Proofs.YtoldpdhhfmlckaaGreat
end
section
namespace Go.Proofs.YtoldpdhhfmlckaaGreat
open Go.Ev
theorem qkj (k : Nat) (a0 : Int) (a1z : Bool) (a1 : List (Int × Int × Int)) (a2z : Bool) (a2 : List Int) (a3z : Bool) (a3 : List Int) (a4z : Bool) (a4 : List Int) (b0 b1 b2 b3 b4 b5 b6 b7 b8 c : Int) : go (k + 1) laws_FnExactCostRun [(.agg [(.int .i64 (a0)), (.arr false (a1z) (.r3 (a1))), (.arr false (a2z) (.ints .i64 (a2))), (.arr false (a3z) (.ints .i64 (a3))), (.arr false (a4z) (.ints .i64 (a4)))]), (.agg [(.int .i64 (b0)), (.int .i64 (b1)), (.int .i64 (b2)), (.int .i64 (b3)), (.int .i64 (b4)), (.int .i64 (b5)), (.int .i64 (b6)), (.int .i64 (b7)), (.int .i64 (b8))]), (.int .i64 (c))] =
 (go k laws_szState [(.agg [(.int .i64 (a0)), (.arr false (a1z) (.r3 (a1))), (.arr false (a2z) (.ints .i64 (a2))), (.arr false (a3z) (.ints .i64 (a3))), (.arr false (a4z) (.ints .i64 (a4)))]), (.int .i64 ((1048576 : Int)))]).bind fun r0 =>
 cond (decide (D.toInt (nth r0 0) < (0 : Int)))
 (some [(.bool (true))])
 ((go k laws_toState [(.agg [(.int .i64 (a0)), (.arr false (a1z) (.r3 (a1))), (.arr false (a2z) (.ints .i64 (a2))), (.arr false (a3z) (.ints .i64 (a3))), (.arr false (a4z) (.ints .i64 (a4)))])]).bind fun r1 =>
 (go k laws_toPlan [(.agg [(.int .i64 (b0)), (.int .i64 (b1)), (.int .i64 (b2)), (.int .i64 (b3)), (.int .i64 (b4)), (.int .i64 (b5)), (.int .i64 (b6)), (.int .i64 (b7)), (.int .i64 (b8))])]).bind fun r2 =>
 (go k spec_CostRun [(.agg [(.int .i64 (D.toInt (D.cell 0 (nth r1 0)))), (.arr false (D.nil (D.cell 1 (nth r1 0))) (.r3 (D.r3 (D.cell 1 (nth r1 0))))), (.arr false (D.nil (D.cell 2 (nth r1 0))) (.ints .i64 (D.ints (D.cell 2 (nth r1 0))))), (.arr false (D.nil (D.cell 3 (nth r1 0))) (.ints .i64 (D.ints (D.cell 3 (nth r1 0))))), (.arr false (D.nil (D.cell 4 (nth r1 0))) (.ints .i64 (D.ints (D.cell 4 (nth r1 0)))))]), (.agg [(.int .i64 (D.toInt (D.cell 0 (nth r2 0)))), (.int .i64 (D.toInt (D.cell 1 (nth r2 0)))), (.int .i64 (D.toInt (D.cell 2 (nth r2 0)))), (.int .i64 (D.toInt (D.cell 3 (nth r2 0)))), (.int .i64 (D.toInt (D.cell 4 (nth r2 0)))), (.int .i64 (D.toInt (D.cell 5 (nth r2 0)))), (.int .i64 (D.toInt (D.cell 6 (nth r2 0)))), (.int .i64 (D.toInt (D.cell 7 (nth r2 0)))), (.int .i64 (D.toInt (D.cell 8 (nth r2 0))))]), (.int .i64 (c))]).bind fun r3 =>
 (go k laws_toState [(.agg [(.int .i64 (a0)), (.arr false (a1z) (.r3 (a1))), (.arr false (a2z) (.ints .i64 (a2))), (.arr false (a3z) (.ints .i64 (a3))), (.arr false (a4z) (.ints .i64 (a4)))])]).bind fun r4 =>
 (go k laws_toPlan [(.agg [(.int .i64 (b0)), (.int .i64 (b1)), (.int .i64 (b2)), (.int .i64 (b3)), (.int .i64 (b4)), (.int .i64 (b5)), (.int .i64 (b6)), (.int .i64 (b7)), (.int .i64 (b8))])]).bind fun r5 =>
 (go k impl_CostRun [(.agg [(.int .i64 (D.toInt (D.cell 0 (nth r4 0)))), (.arr false (D.nil (D.cell 1 (nth r4 0))) (.r3 (D.r3 (D.cell 1 (nth r4 0))))), (.arr false (D.nil (D.cell 2 (nth r4 0))) (.ints .i64 (D.ints (D.cell 2 (nth r4 0))))), (.arr false (D.nil (D.cell 3 (nth r4 0))) (.ints .i64 (D.ints (D.cell 3 (nth r4 0))))), (.arr false (D.nil (D.cell 4 (nth r4 0))) (.ints .i64 (D.ints (D.cell 4 (nth r4 0)))))]), (.agg [(.int .i64 (D.toInt (D.cell 0 (nth r5 0)))), (.int .i64 (D.toInt (D.cell 1 (nth r5 0)))), (.int .i64 (D.toInt (D.cell 2 (nth r5 0)))), (.int .i64 (D.toInt (D.cell 3 (nth r5 0)))), (.int .i64 (D.toInt (D.cell 4 (nth r5 0)))), (.int .i64 (D.toInt (D.cell 5 (nth r5 0)))), (.int .i64 (D.toInt (D.cell 6 (nth r5 0)))), (.int .i64 (D.toInt (D.cell 7 (nth r5 0)))), (.int .i64 (D.toInt (D.cell 8 (nth r5 0))))]), (.int .i64 (c))]).bind fun r6 =>
 cond (!decide (D.toInt (nth r6 0) = D.toInt (nth r3 0)))
 (some [(.bool (false))])
 ((go k laws_toState [(.agg [(.int .i64 (a0)), (.arr false (a1z) (.r3 (a1))), (.arr false (a2z) (.ints .i64 (a2))), (.arr false (a3z) (.ints .i64 (a3))), (.arr false (a4z) (.ints .i64 (a4)))])]).bind fun r7 =>
 (go k laws_eqState [(.agg [(.int .i64 (D.toInt (D.cell 0 (nth r4 0)))), (.arr false (D.nil (D.cell 1 (nth r4 0))) (.r3 (D.r3 (D.cell 1 (nth r4 0))))), (.arr false (D.nil (D.cell 2 (nth r4 0))) (.ints .i64 (D.ints (D.cell 2 (nth r4 0))))), (.arr false (D.nil (D.cell 3 (nth r4 0))) (.ints .i64 (D.ints (D.cell 3 (nth r4 0))))), (.arr false (D.nil (D.cell 4 (nth r4 0))) (.ints .i64 (D.ints (D.cell 4 (nth r4 0)))))]), (.agg [(.int .i64 (D.toInt (D.cell 0 (nth r7 0)))), (.arr false (D.nil (D.cell 1 (nth r7 0))) (.r3 (D.r3 (D.cell 1 (nth r7 0))))), (.arr false (D.nil (D.cell 2 (nth r7 0))) (.ints .i64 (D.ints (D.cell 2 (nth r7 0))))), (.arr false (D.nil (D.cell 3 (nth r7 0))) (.ints .i64 (D.ints (D.cell 3 (nth r7 0))))), (.arr false (D.nil (D.cell 4 (nth r7 0))) (.ints .i64 (D.ints (D.cell 4 (nth r7 0)))))])]).bind fun r8 =>
 cond (!bit (nth r8 0))
 (some [(.bool (false))])
 (some [(.bool (true))]))) := by kernel_rfl
end Go.Proofs.YtoldpdhhfmlckaaGreat
end
section
namespace Go.Proofs.YtoldpdhhfmlckaaGreat
open Go.Ev
set_option maxRecDepth 20000
set_option maxHeartbeats 1000000 in
theorem law_CostRun (k : Nat) (hk : 2000000 ≤ k) (a0 : Int) (a1z : Bool) (a1 : List (Int × Int × Int)) (a2z : Bool) (a2 : List Int) (a3z : Bool) (a3 : List Int) (a4z : Bool) (a4 : List Int) (b0 : Int) (b1 : Int) (b2 : Int) (b3 : Int) (b4 : Int) (b5 : Int) (b6 : Int) (b7 : Int) (b8 : Int) (c : Int) (hl_a1 : (a1.length : Int) ≤ 9223372036854775807) (hl_a2 : (a2.length : Int) ≤ 9223372036854775807) (hl_a3 : (a3.length : Int) ≤ 9223372036854775807) (hl_a4 : (a4.length : Int) ≤ 9223372036854775807) : go (k + 14) laws_FnExactCostRun [(.agg [(.int .i64 (a0)), (.arr false (a1z) (.r3 (a1))), (.arr false (a2z) (.ints .i64 (a2))), (.arr false (a3z) (.ints .i64 (a3))), (.arr false (a4z) (.ints .i64 (a4)))]), (.agg [(.int .i64 (b0)), (.int .i64 (b1)), (.int .i64 (b2)), (.int .i64 (b3)), (.int .i64 (b4)), (.int .i64 (b5)), (.int .i64 (b6)), (.int .i64 (b7)), (.int .i64 (b8))]), (.int .i64 (c))] = some [.bool true] := by
  rw [qkj]
  by_cases h : (a1.length : Int) + a2.length + a3.length + a4.length ≤ 1048576
  case neg => simp (disch := omega) only [qeb, if_neg h, bit, qa2, nth0, qzo, dT, qhn]
  have eA : ∀ (k : Nat), 2000000 ≤ k → go (k + 9) spec_CostRun [.agg [.int .i64 (a0), .arr false (false) (.r3 (a1)), .arr false (false) (.ints .i64 (a2)), .arr false (false) (.ints .i64 (a3)), .arr false (false) (.ints .i64 (a4))], .agg [.int .i64 b0, .int .i64 b1, .int .i64 b2, .int .i64 b3, .int .i64 b4, .int .i64 b5, .int .i64 b6, .int .i64 b7, .int .i64 b8], .int .i64 c] = some [.int .i64 (cstR a0 (a1, a2, a3) a4 ⟨b0, b1, b2, b3, b4, b5, b6, b7, b8⟩ c)] :=
    fun k hk => qe0 k hk a0 (a1, a2, a3) a4 ⟨b0, b1, b2, b3, b4, b5, b6, b7, b8⟩ c (by show (a1.length : Int) ≤ _; omega) (by omega)
  have eB : ∀ (k : Nat), 2000000 ≤ k → go (k + 13) impl_CostRun [.agg [.int .i64 (a0), .arr false (false) (.r3 (a1)), .arr false (false) (.ints .i64 (a2)), .arr false (false) (.ints .i64 (a3)), .arr false (false) (.ints .i64 (a4))], .agg [.int .i64 b0, .int .i64 b1, .int .i64 b2, .int .i64 b3, .int .i64 b4, .int .i64 b5, .int .i64 b6, .int .i64 b7, .int .i64 b8], .int .i64 c] = some [.int .i64 (cstR a0 (a1, a2, a3) a4 ⟨b0, b1, b2, b3, b4, b5, b6, b7, b8⟩ c)] :=
    fun k hk => qbh k hk a0 (a1, a2, a3) a4 ⟨b0, b1, b2, b3, b4, b5, b6, b7, b8⟩ c (by show (a1.length : Int) ≤ _; omega) (by show (a2.length : Int) ≤ _; omega) (by show (a3.length : Int) ≤ _; omega) (by omega)
  simp (disch := omega) only [qeb, if_pos h, qem, qel, bit, qa2, nth0, qgt, qzo, qgu, qt9, quz, qg5, qoq, qg7, qg8, qg9, qha, qhb, qhc, eB, qdu, qzn, Bool.not_true, qhl, eA, dTT, dF]
end Go.Proofs.YtoldpdhhfmlckaaGreat
end
