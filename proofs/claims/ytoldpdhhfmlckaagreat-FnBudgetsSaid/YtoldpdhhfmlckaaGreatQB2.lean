/- What the program's functions compute, and plain facts of it (part 2). No condition beyond those that each theorem states. -/
import Derived.Test.YtoldpdhhfmlckaaGreatQB1
set_option linter.unusedVariables false
set_option linter.unusedSimpArgs false
section
namespace Go.Proofs.YtoldpdhhfmlckaaGreat
open Go.Ev
theorem qf8 (k : Nat) (a : Int) : go (k + 1) spec_SplitEven [(.int .i64 (a))] =
 cond (decide (a < (0 : Int)))
 (some [(.int .i64 (0 : Int)), (.int .i64 (0 : Int))])
 (some [(.int .i64 (IntKind.wrap .i64 (a - IntKind.wrap .i64 (Int.tdiv a (2 : Int))))), (.int .i64 (IntKind.wrap .i64 (Int.tdiv a (2 : Int))))]) := by kernel_rfl
theorem qev (k : Nat) (a : Int) : go (k + 1) impl_SplitEven [(.int .i64 (a))] =
 cond (decide (a < (0 : Int)))
 (some [(.int .i64 (0 : Int)), (.int .i64 (0 : Int))])
 (some [(.int .i64 (IntKind.wrap .i64 (a - IntKind.wrap .i64 (Int.tdiv a (2 : Int))))), (.int .i64 (IntKind.wrap .i64 (Int.tdiv a (2 : Int))))]) := by kernel_rfl
theorem qfb (k : Nat) (a0 a1 a2 b : Int) : go (k + 1) impl_child [(.agg [(.int .i64 (a0)), (.int .i64 (a1)), (.int .i64 (a2))]), (.int .i64 (b))] =
 some [(.agg [(.int .i64 (a0)), (.int .i64 (IntKind.wrap .i64 (a1 + (1 : Int)))), (.int .i64 (IntKind.wrap .i64 (IntKind.wrap .i64 ((2 : Int) * a2) + b)))])] := by kernel_rfl
theorem qeq (k : Nat) (a0 : Int) (a1z : Bool) (a1 : List (Int × Int × Int)) (b : Int) : go (k + 1) impl_Mesh_refine [(.ptr true [(.int .i64 (a0)), (.arr true (a1z) (.r3 (a1)))]), (.int .i64 (b))] =
 cond (decide ((0 : Int) ≤ b) && decide (b < nI (List.length a1)))
 ((go k impl_child [(.agg [(.int .i64 (Prod.fst (List.getD a1 (Int.toNat b) zz3))), (.int .i64 (Prod.fst (Prod.snd (List.getD a1 (Int.toNat b) zz3)))), (.int .i64 (Prod.snd (Prod.snd (List.getD a1 (Int.toNat b) zz3))))]), (.int .i64 (0 : Int))]).bind fun r0 =>
 (go k impl_child [(.agg [(.int .i64 (Prod.fst (List.getD a1 (Int.toNat b) zz3))), (.int .i64 (Prod.fst (Prod.snd (List.getD a1 (Int.toNat b) zz3)))), (.int .i64 (Prod.snd (Prod.snd (List.getD a1 (Int.toNat b) zz3))))]), (.int .i64 ((1 : Int)))]).bind fun r1 =>
 (go k slices_Replace_impl_Id_impl_Id [(.arr true (a1z) (.r3 (a1))), (.int .i64 (b)), (.int .i64 (IntKind.wrap .i64 (b + (1 : Int)))), (.arr false (false) (.r3 ([(D.toInt (D.cell 0 (nth r0 0)), D.toInt (D.cell 1 (nth r0 0)), D.toInt (D.cell 2 (nth r0 0))), (D.toInt (D.cell 0 (nth r1 0)), D.toInt (D.cell 1 (nth r1 0)), D.toInt (D.cell 2 (nth r1 0)))])))]).bind fun r2 =>
 some [(.ptr true [(.int .i64 (a0)), (.arr true (D.nil (nth r2 0)) (.r3 (D.r3 (nth r2 0))))])])
 (none) := by kernel_rfl
theorem qel (k : Nat) (a0 : Int) (a1z : Bool) (a1 : List (Int × Int × Int)) (b : Int) : go (k + 1) impl_Mesh_coarsen [(.ptr true [(.int .i64 (a0)), (.arr true (a1z) (.r3 (a1)))]), (.int .i64 (b))] =
 cond (decide ((0 : Int) ≤ b) && decide (b < nI (List.length a1)))
 ((go k impl_ParentOf [(.agg [(.int .i64 (Prod.fst (List.getD a1 (Int.toNat b) zz3))), (.int .i64 (Prod.fst (Prod.snd (List.getD a1 (Int.toNat b) zz3)))), (.int .i64 (Prod.snd (Prod.snd (List.getD a1 (Int.toNat b) zz3))))])]).bind fun r0 =>
 (go k slices_Replace_impl_Id_impl_Id [(.arr true (a1z) (.r3 (a1))), (.int .i64 (b)), (.int .i64 (IntKind.wrap .i64 (b + (2 : Int)))), (.arr false (false) (.r3 ([(D.toInt (D.cell 0 (nth r0 0)), D.toInt (D.cell 1 (nth r0 0)), D.toInt (D.cell 2 (nth r0 0)))])))]).bind fun r1 =>
 some [(.ptr true [(.int .i64 (a0)), (.arr true (D.nil (nth r1 0)) (.r3 (D.r3 (nth r1 0))))])])
 (none) := by kernel_rfl
theorem qe4 (k : Nat) (a0 : Int) (a1z : Bool) (a1 : List (Int × Int × Int)) (a2z : Bool) (a2 : List Int) (a3z : Bool) (a3 : List Int) (a4z : Bool) (a4 : List Int) (b : Int) : go (k + 1) impl_State_refine [(.ptr true [(.int .i64 (a0)), (.arr true (a1z) (.r3 (a1))), (.arr true (a2z) (.ints .i64 (a2))), (.arr true (a3z) (.ints .i64 (a3))), (.arr true (a4z) (.ints .i64 (a4)))]), (.int .i64 (b))] =
 cond (decide ((0 : Int) ≤ b) && decide (b < nI (List.length a2)))
 ((go k impl_SplitEven [(.int .i64 (List.getD a2 (Int.toNat b) (0 : Int)))]).bind fun r0 =>
 cond (decide ((0 : Int) ≤ b) && decide (b < nI (List.length a3)))
 (cond (decide ((0 : Int) ≤ b) && decide (b < nI (List.length a2)))
 ((go k impl_ShareOut [(.int .i64 (List.getD a3 (Int.toNat b) (0 : Int))), (.int .i64 (D.toInt (nth r0 0))), (.int .i64 (List.getD a2 (Int.toNat b) (0 : Int)))]).bind fun r1 =>
 (go k impl_Mesh_refine [(.ptr true [(.int .i64 (a0)), (.arr true (a1z) (.r3 (a1)))]), (.int .i64 (b))]).bind fun r2 =>
 (go k slices_Replace_int_int [(.arr true (a2z) (.ints .i64 (a2))), (.int .i64 (b)), (.int .i64 (IntKind.wrap .i64 (b + (1 : Int)))), (.arr false (false) (.ints .i64 ([D.toInt (nth r0 0), D.toInt (nth r0 1)])))]).bind fun r3 =>
 cond (decide ((0 : Int) ≤ b) && decide (b < nI (List.length a3)))
 ((go k slices_Replace_int_int [(.arr true (a3z) (.ints .i64 (a3))), (.int .i64 (b)), (.int .i64 (IntKind.wrap .i64 (b + (1 : Int)))), (.arr false (false) (.ints .i64 ([D.toInt (nth r1 0), IntKind.wrap .i64 (List.getD a3 (Int.toNat b) (0 : Int) - D.toInt (nth r1 0))])))]).bind fun r4 =>
 some [(.ptr true [(.int .i64 (D.toInt (D.cell 0 (nth r2 0)))), (.arr true (D.nil (D.cell 1 (nth r2 0))) (.r3 (D.r3 (D.cell 1 (nth r2 0))))), (.arr true (D.nil (nth r3 0)) (.ints .i64 (D.ints (nth r3 0)))), (.arr true (D.nil (nth r4 0)) (.ints .i64 (D.ints (nth r4 0)))), (.arr true (a4z) (.ints .i64 (a4)))])])
 (none))
 (none))
 (none))
 (none) := by kernel_rfl
theorem qe0 (k : Nat) (a0 : Int) (a1z : Bool) (a1 : List (Int × Int × Int)) (a2z : Bool) (a2 : List Int) (a3z : Bool) (a3 : List Int) (a4z : Bool) (a4 : List Int) (b : Int) : go (k + 1) impl_State_coarsen [(.ptr true [(.int .i64 (a0)), (.arr true (a1z) (.r3 (a1))), (.arr true (a2z) (.ints .i64 (a2))), (.arr true (a3z) (.ints .i64 (a3))), (.arr true (a4z) (.ints .i64 (a4)))]), (.int .i64 (b))] =
 (go k impl_Mesh_coarsen [(.ptr true [(.int .i64 (a0)), (.arr true (a1z) (.r3 (a1)))]), (.int .i64 (b))]).bind fun r0 =>
 cond (decide ((0 : Int) ≤ b) && decide (b < nI (List.length a2)))
 (cond (decide ((0 : Int) ≤ IntKind.wrap .i64 (b + (1 : Int))) && decide (IntKind.wrap .i64 (b + (1 : Int)) < nI (List.length a2)))
 ((go k slices_Replace_int_int [(.arr true (a2z) (.ints .i64 (a2))), (.int .i64 (b)), (.int .i64 (IntKind.wrap .i64 (b + (2 : Int)))), (.arr false (false) (.ints .i64 ([IntKind.wrap .i64 (List.getD a2 (Int.toNat b) (0 : Int) + List.getD a2 (Int.toNat (IntKind.wrap .i64 (b + (1 : Int)))) (0 : Int))])))]).bind fun r1 =>
 cond (decide ((0 : Int) ≤ b) && decide (b < nI (List.length a3)))
 (cond (decide ((0 : Int) ≤ IntKind.wrap .i64 (b + (1 : Int))) && decide (IntKind.wrap .i64 (b + (1 : Int)) < nI (List.length a3)))
 ((go k slices_Replace_int_int [(.arr true (a3z) (.ints .i64 (a3))), (.int .i64 (b)), (.int .i64 (IntKind.wrap .i64 (b + (2 : Int)))), (.arr false (false) (.ints .i64 ([IntKind.wrap .i64 (List.getD a3 (Int.toNat b) (0 : Int) + List.getD a3 (Int.toNat (IntKind.wrap .i64 (b + (1 : Int)))) (0 : Int))])))]).bind fun r2 =>
 some [(.ptr true [(.int .i64 (D.toInt (D.cell 0 (nth r0 0)))), (.arr true (D.nil (D.cell 1 (nth r0 0))) (.r3 (D.r3 (D.cell 1 (nth r0 0))))), (.arr true (D.nil (nth r1 0)) (.ints .i64 (D.ints (nth r1 0)))), (.arr true (D.nil (nth r2 0)) (.ints .i64 (D.ints (nth r2 0)))), (.arr true (a4z) (.ints .i64 (a4)))])])
 (none))
 (none))
 (none))
 (none) := by kernel_rfl
theorem qgx (k : Nat) (a0 : Int) (a1z : Bool) (a1 : List (Int × Int × Int)) (a2z : Bool) (a2 : List Int) (a3z : Bool) (a3 : List Int) (a4z : Bool) (a4 : List Int) (b : Int) : go (k + 1) spec_l08Split [(.agg [(.int .i64 (a0)), (.arr false (a1z) (.r3 (a1))), (.arr false (a2z) (.ints .i64 (a2))), (.arr false (a3z) (.ints .i64 (a3))), (.arr false (a4z) (.ints .i64 (a4)))]), (.int .i64 (b))] =
 cond (decide ((0 : Int) ≤ b) && decide (b < nI (List.length a2)))
 ((go k spec_SplitEven [(.int .i64 (List.getD a2 (Int.toNat b) (0 : Int)))]).bind fun r0 =>
 cond (decide ((0 : Int) ≤ b) && decide (b < nI (List.length a3)))
 (cond (decide ((0 : Int) ≤ b) && decide (b < nI (List.length a2)))
 ((go k spec_ShareOut [(.int .i64 (List.getD a3 (Int.toNat b) (0 : Int))), (.int .i64 (D.toInt (nth r0 0))), (.int .i64 (List.getD a2 (Int.toNat b) (0 : Int)))]).bind fun r1 =>
 cond (decide ((0 : Int) ≤ (0 : Int)) && decide ((0 : Int) ≤ b) && decide (b ≤ nI (List.length a2)))
 (cond (decide (List.length ([] ++ List.take (Int.toNat b - Int.toNat (0 : Int)) (List.drop (0 + Int.toNat (0 : Int)) a2)) ≤ bigLen))
 (cond (decide (List.length ([] ++ List.take (Int.toNat b - Int.toNat (0 : Int)) (List.drop (0 + Int.toNat (0 : Int)) a2) ++ [D.toInt (nth r0 0), D.toInt (nth r0 1)]) ≤ bigLen))
 (cond (decide ((0 : Int) ≤ (0 : Int)) && decide ((0 : Int) ≤ b) && decide (b ≤ nI (List.length a3)))
 (cond (decide (List.length ([] ++ List.take (Int.toNat b - Int.toNat (0 : Int)) (List.drop (0 + Int.toNat (0 : Int)) a3)) ≤ bigLen))
 (cond (decide ((0 : Int) ≤ b) && decide (b < nI (List.length a3)))
 (cond (decide (List.length ([] ++ List.take (Int.toNat b - Int.toNat (0 : Int)) (List.drop (0 + Int.toNat (0 : Int)) a3) ++ [D.toInt (nth r1 0), IntKind.wrap .i64 (List.getD a3 (Int.toNat b) (0 : Int) - D.toInt (nth r1 0))]) ≤ bigLen))
 ((go k spec_l05Split [(.agg [(.int .i64 (a0)), (.arr false (a1z) (.r3 (a1)))]), (.int .i64 (b))]).bind fun r2 =>
 cond (decide ((0 : Int) ≤ IntKind.wrap .i64 (b + (1 : Int))) && decide (IntKind.wrap .i64 (b + (1 : Int)) ≤ nI (List.length a2)) && decide (nI (List.length a2) ≤ nI (List.length a2)))
 (cond (decide (List.length ([] ++ List.take (Int.toNat b - Int.toNat (0 : Int)) (List.drop (0 + Int.toNat (0 : Int)) a2) ++ [D.toInt (nth r0 0), D.toInt (nth r0 1)] ++ List.take (Int.toNat (nI (List.length a2)) - Int.toNat (IntKind.wrap .i64 (b + (1 : Int)))) (List.drop (0 + Int.toNat (IntKind.wrap .i64 (b + (1 : Int)))) a2)) ≤ bigLen))
 (cond (decide ((0 : Int) ≤ IntKind.wrap .i64 (b + (1 : Int))) && decide (IntKind.wrap .i64 (b + (1 : Int)) ≤ nI (List.length a3)) && decide (nI (List.length a3) ≤ nI (List.length a3)))
 (cond (decide (List.length ([] ++ List.take (Int.toNat b - Int.toNat (0 : Int)) (List.drop (0 + Int.toNat (0 : Int)) a3) ++ [D.toInt (nth r1 0), IntKind.wrap .i64 (List.getD a3 (Int.toNat b) (0 : Int) - D.toInt (nth r1 0))] ++ List.take (Int.toNat (nI (List.length a3)) - Int.toNat (IntKind.wrap .i64 (b + (1 : Int)))) (List.drop (0 + Int.toNat (IntKind.wrap .i64 (b + (1 : Int)))) a3)) ≤ bigLen))
 (cond (decide (List.length ([] ++ a4) ≤ bigLen))
 (some [(.agg [(.int .i64 (D.toInt (D.cell 0 (nth r2 0)))), (.arr true (D.nil (D.cell 1 (nth r2 0))) (.r3 (D.r3 (D.cell 1 (nth r2 0))))), (.arr true (false && decide (List.length ([] ++ List.take (Int.toNat b - Int.toNat (0 : Int)) (List.drop (0 + Int.toNat (0 : Int)) a2)) = 0) && decide (List.length ([] ++ List.take (Int.toNat b - Int.toNat (0 : Int)) (List.drop (0 + Int.toNat (0 : Int)) a2) ++ [D.toInt (nth r0 0), D.toInt (nth r0 1)]) = 0) && decide (List.length ([] ++ List.take (Int.toNat b - Int.toNat (0 : Int)) (List.drop (0 + Int.toNat (0 : Int)) a2) ++ [D.toInt (nth r0 0), D.toInt (nth r0 1)] ++ List.take (Int.toNat (nI (List.length a2)) - Int.toNat (IntKind.wrap .i64 (b + (1 : Int)))) (List.drop (0 + Int.toNat (IntKind.wrap .i64 (b + (1 : Int)))) a2)) = 0)) (.ints .i64 ([] ++ List.take (Int.toNat b - Int.toNat (0 : Int)) (List.drop (0 + Int.toNat (0 : Int)) a2) ++ [D.toInt (nth r0 0), D.toInt (nth r0 1)] ++ List.take (Int.toNat (nI (List.length a2)) - Int.toNat (IntKind.wrap .i64 (b + (1 : Int)))) (List.drop (0 + Int.toNat (IntKind.wrap .i64 (b + (1 : Int)))) a2)))), (.arr true (false && decide (List.length ([] ++ List.take (Int.toNat b - Int.toNat (0 : Int)) (List.drop (0 + Int.toNat (0 : Int)) a3)) = 0) && decide (List.length ([] ++ List.take (Int.toNat b - Int.toNat (0 : Int)) (List.drop (0 + Int.toNat (0 : Int)) a3) ++ [D.toInt (nth r1 0), IntKind.wrap .i64 (List.getD a3 (Int.toNat b) (0 : Int) - D.toInt (nth r1 0))]) = 0) && decide (List.length ([] ++ List.take (Int.toNat b - Int.toNat (0 : Int)) (List.drop (0 + Int.toNat (0 : Int)) a3) ++ [D.toInt (nth r1 0), IntKind.wrap .i64 (List.getD a3 (Int.toNat b) (0 : Int) - D.toInt (nth r1 0))] ++ List.take (Int.toNat (nI (List.length a3)) - Int.toNat (IntKind.wrap .i64 (b + (1 : Int)))) (List.drop (0 + Int.toNat (IntKind.wrap .i64 (b + (1 : Int)))) a3)) = 0)) (.ints .i64 ([] ++ List.take (Int.toNat b - Int.toNat (0 : Int)) (List.drop (0 + Int.toNat (0 : Int)) a3) ++ [D.toInt (nth r1 0), IntKind.wrap .i64 (List.getD a3 (Int.toNat b) (0 : Int) - D.toInt (nth r1 0))] ++ List.take (Int.toNat (nI (List.length a3)) - Int.toNat (IntKind.wrap .i64 (b + (1 : Int)))) (List.drop (0 + Int.toNat (IntKind.wrap .i64 (b + (1 : Int)))) a3)))), (.arr true (false && decide (List.length ([] ++ a4) = 0)) (.ints .i64 ([] ++ a4)))])])
 (none))
 (none))
 (none))
 (none))
 (none))
 (none))
 (none))
 (none))
 (none))
 (none))
 (none))
 (none))
 (none))
 (none))
 (none) := by kernel_rfl
theorem qgw (k : Nat) (a0 : Int) (a1z : Bool) (a1 : List (Int × Int × Int)) (a2z : Bool) (a2 : List Int) (a3z : Bool) (a3 : List Int) (a4z : Bool) (a4 : List Int) (b : Int) : go (k + 1) spec_l08Merge [(.agg [(.int .i64 (a0)), (.arr false (a1z) (.r3 (a1))), (.arr false (a2z) (.ints .i64 (a2))), (.arr false (a3z) (.ints .i64 (a3))), (.arr false (a4z) (.ints .i64 (a4)))]), (.int .i64 (b))] =
 cond (decide ((0 : Int) ≤ (0 : Int)) && decide ((0 : Int) ≤ b) && decide (b ≤ nI (List.length a2)))
 (cond (decide (List.length ([] ++ List.take (Int.toNat b - Int.toNat (0 : Int)) (List.drop (0 + Int.toNat (0 : Int)) a2)) ≤ bigLen))
 (cond (decide ((0 : Int) ≤ b) && decide (b < nI (List.length a2)))
 (cond (decide ((0 : Int) ≤ IntKind.wrap .i64 (b + (1 : Int))) && decide (IntKind.wrap .i64 (b + (1 : Int)) < nI (List.length a2)))
 (cond (decide (List.length ([] ++ List.take (Int.toNat b - Int.toNat (0 : Int)) (List.drop (0 + Int.toNat (0 : Int)) a2) ++ [IntKind.wrap .i64 (List.getD a2 (Int.toNat b) (0 : Int) + List.getD a2 (Int.toNat (IntKind.wrap .i64 (b + (1 : Int)))) (0 : Int))]) ≤ bigLen))
 (cond (decide ((0 : Int) ≤ (0 : Int)) && decide ((0 : Int) ≤ b) && decide (b ≤ nI (List.length a3)))
 (cond (decide (List.length ([] ++ List.take (Int.toNat b - Int.toNat (0 : Int)) (List.drop (0 + Int.toNat (0 : Int)) a3)) ≤ bigLen))
 (cond (decide ((0 : Int) ≤ b) && decide (b < nI (List.length a3)))
 (cond (decide ((0 : Int) ≤ IntKind.wrap .i64 (b + (1 : Int))) && decide (IntKind.wrap .i64 (b + (1 : Int)) < nI (List.length a3)))
 (cond (decide (List.length ([] ++ List.take (Int.toNat b - Int.toNat (0 : Int)) (List.drop (0 + Int.toNat (0 : Int)) a3) ++ [IntKind.wrap .i64 (List.getD a3 (Int.toNat b) (0 : Int) + List.getD a3 (Int.toNat (IntKind.wrap .i64 (b + (1 : Int)))) (0 : Int))]) ≤ bigLen))
 ((go k spec_l06Merge [(.agg [(.int .i64 (a0)), (.arr false (a1z) (.r3 (a1)))]), (.int .i64 (b))]).bind fun r0 =>
 cond (decide ((0 : Int) ≤ IntKind.wrap .i64 (b + (2 : Int))) && decide (IntKind.wrap .i64 (b + (2 : Int)) ≤ nI (List.length a2)) && decide (nI (List.length a2) ≤ nI (List.length a2)))
 (cond (decide (List.length ([] ++ List.take (Int.toNat b - Int.toNat (0 : Int)) (List.drop (0 + Int.toNat (0 : Int)) a2) ++ [IntKind.wrap .i64 (List.getD a2 (Int.toNat b) (0 : Int) + List.getD a2 (Int.toNat (IntKind.wrap .i64 (b + (1 : Int)))) (0 : Int))] ++ List.take (Int.toNat (nI (List.length a2)) - Int.toNat (IntKind.wrap .i64 (b + (2 : Int)))) (List.drop (0 + Int.toNat (IntKind.wrap .i64 (b + (2 : Int)))) a2)) ≤ bigLen))
 (cond (decide ((0 : Int) ≤ IntKind.wrap .i64 (b + (2 : Int))) && decide (IntKind.wrap .i64 (b + (2 : Int)) ≤ nI (List.length a3)) && decide (nI (List.length a3) ≤ nI (List.length a3)))
 (cond (decide (List.length ([] ++ List.take (Int.toNat b - Int.toNat (0 : Int)) (List.drop (0 + Int.toNat (0 : Int)) a3) ++ [IntKind.wrap .i64 (List.getD a3 (Int.toNat b) (0 : Int) + List.getD a3 (Int.toNat (IntKind.wrap .i64 (b + (1 : Int)))) (0 : Int))] ++ List.take (Int.toNat (nI (List.length a3)) - Int.toNat (IntKind.wrap .i64 (b + (2 : Int)))) (List.drop (0 + Int.toNat (IntKind.wrap .i64 (b + (2 : Int)))) a3)) ≤ bigLen))
 (cond (decide (List.length ([] ++ a4) ≤ bigLen))
 (some [(.agg [(.int .i64 (D.toInt (D.cell 0 (nth r0 0)))), (.arr true (D.nil (D.cell 1 (nth r0 0))) (.r3 (D.r3 (D.cell 1 (nth r0 0))))), (.arr true (false && decide (List.length ([] ++ List.take (Int.toNat b - Int.toNat (0 : Int)) (List.drop (0 + Int.toNat (0 : Int)) a2)) = 0) && decide (List.length ([] ++ List.take (Int.toNat b - Int.toNat (0 : Int)) (List.drop (0 + Int.toNat (0 : Int)) a2) ++ [IntKind.wrap .i64 (List.getD a2 (Int.toNat b) (0 : Int) + List.getD a2 (Int.toNat (IntKind.wrap .i64 (b + (1 : Int)))) (0 : Int))]) = 0) && decide (List.length ([] ++ List.take (Int.toNat b - Int.toNat (0 : Int)) (List.drop (0 + Int.toNat (0 : Int)) a2) ++ [IntKind.wrap .i64 (List.getD a2 (Int.toNat b) (0 : Int) + List.getD a2 (Int.toNat (IntKind.wrap .i64 (b + (1 : Int)))) (0 : Int))] ++ List.take (Int.toNat (nI (List.length a2)) - Int.toNat (IntKind.wrap .i64 (b + (2 : Int)))) (List.drop (0 + Int.toNat (IntKind.wrap .i64 (b + (2 : Int)))) a2)) = 0)) (.ints .i64 ([] ++ List.take (Int.toNat b - Int.toNat (0 : Int)) (List.drop (0 + Int.toNat (0 : Int)) a2) ++ [IntKind.wrap .i64 (List.getD a2 (Int.toNat b) (0 : Int) + List.getD a2 (Int.toNat (IntKind.wrap .i64 (b + (1 : Int)))) (0 : Int))] ++ List.take (Int.toNat (nI (List.length a2)) - Int.toNat (IntKind.wrap .i64 (b + (2 : Int)))) (List.drop (0 + Int.toNat (IntKind.wrap .i64 (b + (2 : Int)))) a2)))), (.arr true (false && decide (List.length ([] ++ List.take (Int.toNat b - Int.toNat (0 : Int)) (List.drop (0 + Int.toNat (0 : Int)) a3)) = 0) && decide (List.length ([] ++ List.take (Int.toNat b - Int.toNat (0 : Int)) (List.drop (0 + Int.toNat (0 : Int)) a3) ++ [IntKind.wrap .i64 (List.getD a3 (Int.toNat b) (0 : Int) + List.getD a3 (Int.toNat (IntKind.wrap .i64 (b + (1 : Int)))) (0 : Int))]) = 0) && decide (List.length ([] ++ List.take (Int.toNat b - Int.toNat (0 : Int)) (List.drop (0 + Int.toNat (0 : Int)) a3) ++ [IntKind.wrap .i64 (List.getD a3 (Int.toNat b) (0 : Int) + List.getD a3 (Int.toNat (IntKind.wrap .i64 (b + (1 : Int)))) (0 : Int))] ++ List.take (Int.toNat (nI (List.length a3)) - Int.toNat (IntKind.wrap .i64 (b + (2 : Int)))) (List.drop (0 + Int.toNat (IntKind.wrap .i64 (b + (2 : Int)))) a3)) = 0)) (.ints .i64 ([] ++ List.take (Int.toNat b - Int.toNat (0 : Int)) (List.drop (0 + Int.toNat (0 : Int)) a3) ++ [IntKind.wrap .i64 (List.getD a3 (Int.toNat b) (0 : Int) + List.getD a3 (Int.toNat (IntKind.wrap .i64 (b + (1 : Int)))) (0 : Int))] ++ List.take (Int.toNat (nI (List.length a3)) - Int.toNat (IntKind.wrap .i64 (b + (2 : Int)))) (List.drop (0 + Int.toNat (IntKind.wrap .i64 (b + (2 : Int)))) a3)))), (.arr true (false && decide (List.length ([] ++ a4) = 0)) (.ints .i64 ([] ++ a4)))])])
 (none))
 (none))
 (none))
 (none))
 (none))
 (none))
 (none))
 (none))
 (none))
 (none))
 (none))
 (none))
 (none))
 (none))
 (none) := by kernel_rfl
theorem qgr (k : Nat) (a0 : Int) (a1z : Bool) (a1 : List (Int × Int × Int)) (b : Int) : go (k + 1) spec_l06Merge [(.agg [(.int .i64 (a0)), (.arr false (a1z) (.r3 (a1)))]), (.int .i64 (b))] =
 cond (decide ((0 : Int) ≤ b) && decide (b < nI (List.length a1)))
 ((go k spec_ParentOf [(.agg [(.int .i64 (Prod.fst (List.getD a1 (Int.toNat b) zz3))), (.int .i64 (Prod.fst (Prod.snd (List.getD a1 (Int.toNat b) zz3)))), (.int .i64 (Prod.snd (Prod.snd (List.getD a1 (Int.toNat b) zz3))))])]).bind fun r0 =>
 cond (decide ((0 : Int) ≤ (0 : Int)) && decide ((0 : Int) ≤ b) && decide (b ≤ nI (List.length a1)))
 (cond (decide (List.length ([] ++ List.take (Int.toNat b - Int.toNat (0 : Int)) (List.drop (0 + Int.toNat (0 : Int)) a1)) ≤ bigLen))
 (cond (decide (List.length ([] ++ List.take (Int.toNat b - Int.toNat (0 : Int)) (List.drop (0 + Int.toNat (0 : Int)) a1) ++ [(D.toInt (D.cell 0 (nth r0 0)), D.toInt (D.cell 1 (nth r0 0)), D.toInt (D.cell 2 (nth r0 0)))]) ≤ bigLen))
 (cond (decide ((0 : Int) ≤ IntKind.wrap .i64 (b + (2 : Int))) && decide (IntKind.wrap .i64 (b + (2 : Int)) ≤ nI (List.length a1)) && decide (nI (List.length a1) ≤ nI (List.length a1)))
 (cond (decide (List.length ([] ++ List.take (Int.toNat b - Int.toNat (0 : Int)) (List.drop (0 + Int.toNat (0 : Int)) a1) ++ [(D.toInt (D.cell 0 (nth r0 0)), D.toInt (D.cell 1 (nth r0 0)), D.toInt (D.cell 2 (nth r0 0)))] ++ List.take (Int.toNat (nI (List.length a1)) - Int.toNat (IntKind.wrap .i64 (b + (2 : Int)))) (List.drop (0 + Int.toNat (IntKind.wrap .i64 (b + (2 : Int)))) a1)) ≤ bigLen))
 (some [(.agg [(.int .i64 (a0)), (.arr true (false && decide (List.length ([] ++ List.take (Int.toNat b - Int.toNat (0 : Int)) (List.drop (0 + Int.toNat (0 : Int)) a1)) = 0) && decide (List.length ([] ++ List.take (Int.toNat b - Int.toNat (0 : Int)) (List.drop (0 + Int.toNat (0 : Int)) a1) ++ [(D.toInt (D.cell 0 (nth r0 0)), D.toInt (D.cell 1 (nth r0 0)), D.toInt (D.cell 2 (nth r0 0)))]) = 0) && decide (List.length ([] ++ List.take (Int.toNat b - Int.toNat (0 : Int)) (List.drop (0 + Int.toNat (0 : Int)) a1) ++ [(D.toInt (D.cell 0 (nth r0 0)), D.toInt (D.cell 1 (nth r0 0)), D.toInt (D.cell 2 (nth r0 0)))] ++ List.take (Int.toNat (nI (List.length a1)) - Int.toNat (IntKind.wrap .i64 (b + (2 : Int)))) (List.drop (0 + Int.toNat (IntKind.wrap .i64 (b + (2 : Int)))) a1)) = 0)) (.r3 ([] ++ List.take (Int.toNat b - Int.toNat (0 : Int)) (List.drop (0 + Int.toNat (0 : Int)) a1) ++ [(D.toInt (D.cell 0 (nth r0 0)), D.toInt (D.cell 1 (nth r0 0)), D.toInt (D.cell 2 (nth r0 0)))] ++ List.take (Int.toNat (nI (List.length a1)) - Int.toNat (IntKind.wrap .i64 (b + (2 : Int)))) (List.drop (0 + Int.toNat (IntKind.wrap .i64 (b + (2 : Int)))) a1))))])])
 (none))
 (none))
 (none))
 (none))
 (none))
 (none) := by kernel_rfl
theorem qf5 (k : Nat) (a0 a1 a2 : Int) : go (k + 1) spec_ParentOf [(.agg [(.int .i64 (a0)), (.int .i64 (a1)), (.int .i64 (a2))])] =
 (go k spec_IdOk [(.agg [(.int .i64 (a0)), (.int .i64 (a1)), (.int .i64 (a2))])]).bind fun r0 =>
 cond (!bit (nth r0 0))
 (some [(.agg [(.int .i64 (0 : Int)), (.int .i64 (0 : Int)), (.int .i64 (0 : Int))]), (.bool (false))])
 (cond (decide (a1 = (0 : Int)))
 (some [(.agg [(.int .i64 (0 : Int)), (.int .i64 (0 : Int)), (.int .i64 (0 : Int))]), (.bool (false))])
 (some [(.agg [(.int .i64 (a0)), (.int .i64 (IntKind.wrap .i64 (a1 - (1 : Int)))), (.int .i64 (IntKind.wrap .i64 (Int.tdiv a2 (2 : Int))))]), (.bool (true))])) := by kernel_rfl
theorem qet (k : Nat) (a0 a1 a2 : Int) : go (k + 1) impl_ParentOf [(.agg [(.int .i64 (a0)), (.int .i64 (a1)), (.int .i64 (a2))])] =
 (go k impl_IdOk [(.agg [(.int .i64 (a0)), (.int .i64 (a1)), (.int .i64 (a2))])]).bind fun r0 =>
 cond (!bit (nth r0 0))
 (some [(.agg [(.int .i64 (0 : Int)), (.int .i64 (0 : Int)), (.int .i64 (0 : Int))]), (.bool (false))])
 (cond (decide (a1 = (0 : Int)))
 (some [(.agg [(.int .i64 (0 : Int)), (.int .i64 (0 : Int)), (.int .i64 (0 : Int))]), (.bool (false))])
 (some [(.agg [(.int .i64 (a0)), (.int .i64 (IntKind.wrap .i64 (a1 - (1 : Int)))), (.int .i64 (IntKind.wrap .i64 (Int.tdiv a2 (2 : Int))))]), (.bool (true))])) := by kernel_rfl
theorem qf1 (k : Nat) (a0 a1 a2 b0 b1 b2 : Int) : go (k + 1) spec_IsSibling [(.agg [(.int .i64 (a0)), (.int .i64 (a1)), (.int .i64 (a2))]), (.agg [(.int .i64 (b0)), (.int .i64 (b1)), (.int .i64 (b2))])] =
 (go k spec_IdOk [(.agg [(.int .i64 (a0)), (.int .i64 (a1)), (.int .i64 (a2))])]).bind fun r0 =>
 cond (bit (nth r0 0))
 ((go k spec_IdOk [(.agg [(.int .i64 (b0)), (.int .i64 (b1)), (.int .i64 (b2))])]).bind fun r1 =>
 cond (bit (nth r1 0))
 (cond (decide (a0 = b0))
 (cond (decide (a1 = b1))
 (cond (decide (Int.tmod a2 (2 : Int) = (0 : Int)))
 (some [(.bool (decide (b2 = IntKind.wrap .i64 (a2 + (1 : Int)))))])
 (some [(.bool (false))]))
 (some [(.bool (false))]))
 (some [(.bool (false))]))
 (some [(.bool (false))]))
 (some [(.bool (false))]) := by kernel_rfl
theorem qej (k : Nat) (a0 a1 a2 b0 b1 b2 : Int) : go (k + 1) impl_IsSibling [(.agg [(.int .i64 (a0)), (.int .i64 (a1)), (.int .i64 (a2))]), (.agg [(.int .i64 (b0)), (.int .i64 (b1)), (.int .i64 (b2))])] =
 (go k impl_ParentOf [(.agg [(.int .i64 (a0)), (.int .i64 (a1)), (.int .i64 (a2))])]).bind fun r0 =>
 (go k impl_ParentOf [(.agg [(.int .i64 (b0)), (.int .i64 (b1)), (.int .i64 (b2))])]).bind fun r1 =>
 cond (bit (nth r0 1))
 (cond (bit (nth r1 1))
 (cond (decide (D.toInt (D.cell 0 (nth r0 0)) = D.toInt (D.cell 0 (nth r1 0))) && (decide (D.toInt (D.cell 1 (nth r0 0)) = D.toInt (D.cell 1 (nth r1 0))) && (decide (D.toInt (D.cell 2 (nth r0 0)) = D.toInt (D.cell 2 (nth r1 0))) && true)))
 (cond (decide (Int.tmod a2 (2 : Int) = (0 : Int)))
 (some [(.bool (decide (b2 = IntKind.wrap .i64 (a2 + (1 : Int)))))])
 (some [(.bool (false))]))
 (some [(.bool (false))]))
 (some [(.bool (false))]))
 (some [(.bool (false))]) := by kernel_rfl
theorem qgq (k : Nat) (a0 : Int) (a1z : Bool) (a1 : List (Int × Int × Int)) (b : Int) : go (k + 1) spec_l06May [(.agg [(.int .i64 (a0)), (.arr false (a1z) (.r3 (a1)))]), (.int .i64 (b))] =
 cond (decide ((0 : Int) ≤ b) && decide (b < nI (List.length a1)))
 (cond (decide ((0 : Int) ≤ b) && decide (b < nI (List.length a1)))
 (cond (decide ((0 : Int) ≤ IntKind.wrap .i64 (b + (1 : Int))) && decide (IntKind.wrap .i64 (b + (1 : Int)) < nI (List.length a1)))
 ((go k spec_IsSibling [(.agg [(.int .i64 (Prod.fst (List.getD a1 (Int.toNat b) zz3))), (.int .i64 (Prod.fst (Prod.snd (List.getD a1 (Int.toNat b) zz3)))), (.int .i64 (Prod.snd (Prod.snd (List.getD a1 (Int.toNat b) zz3))))]), (.agg [(.int .i64 (Prod.fst (List.getD a1 (Int.toNat (IntKind.wrap .i64 (b + (1 : Int)))) zz3))), (.int .i64 (Prod.fst (Prod.snd (List.getD a1 (Int.toNat (IntKind.wrap .i64 (b + (1 : Int)))) zz3)))), (.int .i64 (Prod.snd (Prod.snd (List.getD a1 (Int.toNat (IntKind.wrap .i64 (b + (1 : Int)))) zz3))))])]).bind fun r0 =>
 cond (!bit (nth r0 0))
 (some [(.bool (false))])
 (cond (decide (b = (0 : Int)))
 (cond (decide (nI (List.length a1) ≤ IntKind.wrap .i64 (b + (2 : Int))))
 (some [(.bool (true))])
 (cond (decide ((0 : Int) ≤ IntKind.wrap .i64 (b + (2 : Int))) && decide (IntKind.wrap .i64 (b + (2 : Int)) < nI (List.length a1)))
 (some [(.bool (decide (Prod.fst (Prod.snd (List.getD a1 (Int.toNat (IntKind.wrap .i64 (b + (2 : Int)))) zz3)) ≤ Prod.fst (Prod.snd (List.getD a1 (Int.toNat b) zz3)))))])
 (none)))
 (cond (decide ((0 : Int) ≤ IntKind.wrap .i64 (b - (1 : Int))) && decide (IntKind.wrap .i64 (b - (1 : Int)) < nI (List.length a1)))
 (cond (decide (Prod.fst (Prod.snd (List.getD a1 (Int.toNat (IntKind.wrap .i64 (b - (1 : Int)))) zz3)) ≤ Prod.fst (Prod.snd (List.getD a1 (Int.toNat b) zz3))))
 (cond (decide (nI (List.length a1) ≤ IntKind.wrap .i64 (b + (2 : Int))))
 (some [(.bool (true))])
 (cond (decide ((0 : Int) ≤ IntKind.wrap .i64 (b + (2 : Int))) && decide (IntKind.wrap .i64 (b + (2 : Int)) < nI (List.length a1)))
 (some [(.bool (decide (Prod.fst (Prod.snd (List.getD a1 (Int.toNat (IntKind.wrap .i64 (b + (2 : Int)))) zz3)) ≤ Prod.fst (Prod.snd (List.getD a1 (Int.toNat b) zz3)))))])
 (none)))
 (some [(.bool (false))]))
 (none))))
 (none))
 (none))
 (none) := by kernel_rfl
theorem qeo (k : Nat) (a0 : Int) (a1z : Bool) (a1 : List (Int × Int × Int)) (b : Int) : go (k + 1) impl_Mesh_mayCoarsen [(.agg [(.int .i64 (a0)), (.arr false (a1z) (.r3 (a1)))]), (.int .i64 (b))] =
 (go k impl_Mesh_has [(.agg [(.int .i64 (a0)), (.arr false (a1z) (.r3 (a1)))]), (.int .i64 (b))]).bind fun r0 =>
 cond (!bit (nth r0 0))
 (some [(.bool (false))])
 ((go k impl_Mesh_has [(.agg [(.int .i64 (a0)), (.arr false (a1z) (.r3 (a1)))]), (.int .i64 (IntKind.wrap .i64 (b + (1 : Int))))]).bind fun r1 =>
 cond (!bit (nth r1 0))
 (some [(.bool (false))])
 (cond (decide ((0 : Int) ≤ b) && decide (b < nI (List.length a1)))
 (cond (decide ((0 : Int) ≤ IntKind.wrap .i64 (b + (1 : Int))) && decide (IntKind.wrap .i64 (b + (1 : Int)) < nI (List.length a1)))
 ((go k impl_IsSibling [(.agg [(.int .i64 (Prod.fst (List.getD a1 (Int.toNat b) zz3))), (.int .i64 (Prod.fst (Prod.snd (List.getD a1 (Int.toNat b) zz3)))), (.int .i64 (Prod.snd (Prod.snd (List.getD a1 (Int.toNat b) zz3))))]), (.agg [(.int .i64 (Prod.fst (List.getD a1 (Int.toNat (IntKind.wrap .i64 (b + (1 : Int)))) zz3))), (.int .i64 (Prod.fst (Prod.snd (List.getD a1 (Int.toNat (IntKind.wrap .i64 (b + (1 : Int)))) zz3)))), (.int .i64 (Prod.snd (Prod.snd (List.getD a1 (Int.toNat (IntKind.wrap .i64 (b + (1 : Int)))) zz3))))])]).bind fun r2 =>
 cond (!bit (nth r2 0))
 (some [(.bool (false))])
 (cond (decide ((0 : Int) ≤ b) && decide (b < nI (List.length a1)))
 ((go k impl_Mesh_has [(.agg [(.int .i64 (a0)), (.arr false (a1z) (.r3 (a1)))]), (.int .i64 (IntKind.wrap .i64 (b - (1 : Int))))]).bind fun r3 =>
 cond (bit (nth r3 0))
 (cond (decide ((0 : Int) ≤ IntKind.wrap .i64 (b - (1 : Int))) && decide (IntKind.wrap .i64 (b - (1 : Int)) < nI (List.length a1)))
 (cond (!decide (Prod.fst (Prod.snd (List.getD a1 (Int.toNat b) zz3)) < Prod.fst (Prod.snd (List.getD a1 (Int.toNat (IntKind.wrap .i64 (b - (1 : Int)))) zz3))))
 ((go k impl_Mesh_has [(.agg [(.int .i64 (a0)), (.arr false (a1z) (.r3 (a1)))]), (.int .i64 (IntKind.wrap .i64 (b + (2 : Int))))]).bind fun r4 =>
 cond (bit (nth r4 0))
 (cond (decide ((0 : Int) ≤ IntKind.wrap .i64 (b + (2 : Int))) && decide (IntKind.wrap .i64 (b + (2 : Int)) < nI (List.length a1)))
 (some [(.bool (!decide (Prod.fst (Prod.snd (List.getD a1 (Int.toNat b) zz3)) < Prod.fst (Prod.snd (List.getD a1 (Int.toNat (IntKind.wrap .i64 (b + (2 : Int)))) zz3)))))])
 (none))
 (some [(.bool (!false))]))
 (some [(.bool (false))]))
 (none))
 ((go k impl_Mesh_has [(.agg [(.int .i64 (a0)), (.arr false (a1z) (.r3 (a1)))]), (.int .i64 (IntKind.wrap .i64 (b + (2 : Int))))]).bind fun r5 =>
 cond (bit (nth r5 0))
 (cond (decide ((0 : Int) ≤ IntKind.wrap .i64 (b + (2 : Int))) && decide (IntKind.wrap .i64 (b + (2 : Int)) < nI (List.length a1)))
 (some [(.bool (!decide (Prod.fst (Prod.snd (List.getD a1 (Int.toNat b) zz3)) < Prod.fst (Prod.snd (List.getD a1 (Int.toNat (IntKind.wrap .i64 (b + (2 : Int)))) zz3)))))])
 (none))
 (some [(.bool (!false))])))
 (none)))
 (none))
 (none))) := by kernel_rfl
theorem qer (k : Nat) (a0 : Int) (a1z : Bool) (a1 : List (Int × Int × Int)) : go (k + 1) impl_Mesh_toRefine [(.agg [(.int .i64 (a0)), (.arr false (a1z) (.r3 (a1)))])] =
 (go k impl_Mesh_unbalanced [(.agg [(.int .i64 (a0)), (.arr false (a1z) (.r3 (a1)))])]).bind fun r0 =>
 cond (decide ((0 : Int) ≤ D.toInt (nth r0 0)))
 (cond (decide ((0 : Int) ≤ D.toInt (nth r0 0)) && decide (D.toInt (nth r0 0) < nI (List.length a1)))
 (cond (decide ((0 : Int) ≤ IntKind.wrap .i64 (D.toInt (nth r0 0) + (1 : Int))) && decide (IntKind.wrap .i64 (D.toInt (nth r0 0) + (1 : Int)) < nI (List.length a1)))
 (cond (decide (Prod.fst (Prod.snd (List.getD a1 (Int.toNat (IntKind.wrap .i64 (D.toInt (nth r0 0) + (1 : Int)))) zz3)) < Prod.fst (Prod.snd (List.getD a1 (Int.toNat (D.toInt (nth r0 0))) zz3))))
 (some [(.int .i64 (IntKind.wrap .i64 (D.toInt (nth r0 0) + (1 : Int))))])
 (some [(.int .i64 (D.toInt (nth r0 0)))]))
 (none))
 (none))
 (some [(.int .i64 (D.toInt (nth r0 0)))]) := by kernel_rfl

end Go.Proofs.YtoldpdhhfmlckaaGreat
end
section
namespace Go.Proofs.YtoldpdhhfmlckaaGreat
open Go.Ev
def qmn (x0 : Int) (z1 : Bool) (l2 : List (Int × Int × Int)) (z3 : Bool) (l4 : List Int) (z5 : Bool) (l6 : List Int) (z7 : Bool) (l8 : List Int) (x9 : Int) : St := ⟨fill 18 [(0, (.ptr 4 (0) (0))), (2, (.int .i64 (x0)))], [(.ptr 4 (0) (0))], [(.arr true (z1) (.r3 (l2))), (.arr true (z3) (.ints .i64 (l4))), (.arr true (z5) (.ints .i64 (l6))), (.arr true (z7) (.ints .i64 (l8))), (.box true [(.int .i64 (x9)), (.sl 0 none), (.sl 1 none), (.sl 2 none), (.sl 3 none)])]⟩
theorem qez (k : Nat) (a0 : Int) (a1z : Bool) (a1 : List (Int × Int × Int)) (a2z : Bool) (a2 : List Int) (a3z : Bool) (a3 : List Int) (a4z : Bool) (a4 : List Int) : go (k + 1) impl_State_balance [(.ptr true [(.int .i64 (a0)), (.arr true (a1z) (.r3 (a1))), (.arr true (a2z) (.ints .i64 (a2))), (.arr true (a3z) (.ints .i64 (a3))), (.arr true (a4z) (.ints .i64 (a4)))])] =
 (go k impl_Mesh_toRefine [(.agg [(.int .i64 (a0)), (.arr false (a1z) (.r3 (a1)))])]).bind fun r0 =>
 lp k impl_State_balance [(.ptr true [(.int .i64 (a0)), (.arr true (a1z) (.r3 (a1))), (.arr true (a2z) (.ints .i64 (a2))), (.arr true (a3z) (.ints .i64 (a3))), (.arr true (a4z) (.ints .i64 (a4)))])] [] 1 k (qmn (D.toInt (nth r0 0)) a1z a1 a2z a2 a3z a3 a4z a4 a0) := by kernel_rfl
theorem qih (k n : Nat) (fu : List (Nat × Nat)) (a0 : Int) (a1z : Bool) (a1 : List (Int × Int × Int)) (a2z : Bool) (a2 : List Int) (a3z : Bool) (a3 : List Int) (a4z : Bool) (a4 : List Int) (x0 : Int) (z1 : Bool) (l2 : List (Int × Int × Int)) (z3 : Bool) (l4 : List Int) (z5 : Bool) (l6 : List Int) (z7 : Bool) (l8 : List Int) (x9 : Int) : lp k impl_State_balance [(.ptr true [(.int .i64 (a0)), (.arr true (a1z) (.r3 (a1))), (.arr true (a2z) (.ints .i64 (a2))), (.arr true (a3z) (.ints .i64 (a3))), (.arr true (a4z) (.ints .i64 (a4)))])] fu 1 (n + 1) (qmn x0 z1 l2 z3 l4 z5 l6 z7 l8 x9) =
 cond (decide ((0 : Int) ≤ x0))
 ((go k impl_State_refine [(.ptr true [(.int .i64 (x9)), (.arr true (z1) (.r3 (l2))), (.arr true (z3) (.ints .i64 (l4))), (.arr true (z5) (.ints .i64 (l6))), (.arr true (z7) (.ints .i64 (l8)))]), (.int .i64 (x0))]).bind fun r0 =>
 (go k impl_Mesh_toRefine [(.agg [(.int .i64 (D.toInt (D.cell 0 (nth r0 0)))), (.arr false (D.nil (D.cell 1 (nth r0 0))) (.r3 (D.r3 (D.cell 1 (nth r0 0)))))])]).bind fun r1 =>
 lp k impl_State_balance [(.ptr true [(.int .i64 (a0)), (.arr true (a1z) (.r3 (a1))), (.arr true (a2z) (.ints .i64 (a2))), (.arr true (a3z) (.ints .i64 (a3))), (.arr true (a4z) (.ints .i64 (a4)))])] fu 1 n (qmn (D.toInt (nth r1 0)) (D.nil (D.cell 1 (nth r0 0))) (D.r3 (D.cell 1 (nth r0 0))) (D.nil (D.cell 2 (nth r0 0))) (D.ints (D.cell 2 (nth r0 0))) (D.nil (D.cell 3 (nth r0 0))) (D.ints (D.cell 3 (nth r0 0))) (D.nil (D.cell 4 (nth r0 0))) (D.ints (D.cell 4 (nth r0 0))) (D.toInt (D.cell 0 (nth r0 0)))))
 (some [(.ptr true [(.int .i64 (x9)), (.arr true (z1) (.r3 (l2))), (.arr true (z3) (.ints .i64 (l4))), (.arr true (z5) (.ints .i64 (l6))), (.arr true (z7) (.ints .i64 (l8)))])]) := by kernel_rfl
def qni (x0 : Int) (z1 : Bool) (l2 : List (Int × Int × Int)) (z3 : Bool) (l4 : List Int) (z5 : Bool) (l6 : List Int) (z7 : Bool) (l8 : List Int) (x9 : Int) (z10 : Bool) (l11 : List (Int × Int × Int)) (z12 : Bool) (l13 : List Int) (z14 : Bool) (l15 : List Int) (z16 : Bool) (l17 : List Int) (x18 : Int) : St := ⟨fill 19 [(1, (.ptr 4 (0) (0))), (2, (.ptr 9 (0) (0))), (3, (.int .i64 (x0)))], [], [(.arr true (z1) (.r3 (l2))), (.arr true (z3) (.ints .i64 (l4))), (.arr true (z5) (.ints .i64 (l6))), (.arr true (z7) (.ints .i64 (l8))), (.box true [(.int .i64 (x9)), (.sl 0 none), (.sl 1 none), (.sl 2 none), (.sl 3 none)]), (.arr true (z10) (.r3 (l11))), (.arr true (z12) (.ints .i64 (l13))), (.arr true (z14) (.ints .i64 (l15))), (.arr true (z16) (.ints .i64 (l17))), (.box true [(.int .i64 (x18)), (.sl 5 none), (.sl 6 none), (.sl 7 none), (.sl 8 none)])]⟩
theorem qgv (k : Nat) (a0 : Int) (a1z : Bool) (a1 : List (Int × Int × Int)) (a2z : Bool) (a2 : List Int) (a3z : Bool) (a3 : List Int) (a4z : Bool) (a4 : List Int) : go (k + 1) spec_l08Level [(.agg [(.int .i64 (a0)), (.arr true (a1z) (.r3 (a1))), (.arr true (a2z) (.ints .i64 (a2))), (.arr true (a3z) (.ints .i64 (a3))), (.arr true (a4z) (.ints .i64 (a4)))])] =
 (go k spec_l05First [(.agg [(.int .i64 (a0)), (.arr false (a1z) (.r3 (a1)))])]).bind fun r0 =>
 lp k spec_l08Level [] [] 2 k (qni (D.toInt (nth r0 0)) a1z a1 a2z a2 a3z a3 a4z a4 a0 true ([]) true ([]) true ([]) true ([]) (0 : Int)) := by kernel_rfl
theorem qjc (k n : Nat) (fu : List (Nat × Nat)) (x0 : Int) (z1 : Bool) (l2 : List (Int × Int × Int)) (z3 : Bool) (l4 : List Int) (z5 : Bool) (l6 : List Int) (z7 : Bool) (l8 : List Int) (x9 : Int) (z10 : Bool) (l11 : List (Int × Int × Int)) (z12 : Bool) (l13 : List Int) (z14 : Bool) (l15 : List Int) (z16 : Bool) (l17 : List Int) (x18 : Int) : lp k spec_l08Level [] fu 2 (n + 1) (qni x0 z1 l2 z3 l4 z5 l6 z7 l8 x9 z10 l11 z12 l13 z14 l15 z16 l17 x18) =
 cond (decide ((0 : Int) ≤ x0))
 ((go k spec_l05Coarser [(.agg [(.int .i64 (x9)), (.arr false (z1) (.r3 (l2)))]), (.int .i64 (x0))]).bind fun r0 =>
 (go k spec_l08Split [(.agg [(.int .i64 (x9)), (.arr false (z1) (.r3 (l2))), (.arr false (z3) (.ints .i64 (l4))), (.arr false (z5) (.ints .i64 (l6))), (.arr false (z7) (.ints .i64 (l8)))]), (.int .i64 (D.toInt (nth r0 0)))]).bind fun r1 =>
 (go k spec_l05First [(.agg [(.int .i64 (D.toInt (D.cell 0 (nth r1 0)))), (.arr false (D.nil (D.cell 1 (nth r1 0))) (.r3 (D.r3 (D.cell 1 (nth r1 0)))))])]).bind fun r2 =>
 lp k spec_l08Level [] fu 2 n (qni (D.toInt (nth r2 0)) (D.nil (D.cell 1 (nth r1 0))) (D.r3 (D.cell 1 (nth r1 0))) (D.nil (D.cell 2 (nth r1 0))) (D.ints (D.cell 2 (nth r1 0))) (D.nil (D.cell 3 (nth r1 0))) (D.ints (D.cell 3 (nth r1 0))) (D.nil (D.cell 4 (nth r1 0))) (D.ints (D.cell 4 (nth r1 0))) (D.toInt (D.cell 0 (nth r1 0))) z10 l11 z12 l13 z14 l15 z16 l17 x18))
 (some [(.agg [(.int .i64 (x9)), (.arr true (z1) (.r3 (l2))), (.arr true (z3) (.ints .i64 (l4))), (.arr true (z5) (.ints .i64 (l6))), (.arr true (z7) (.ints .i64 (l8)))])]) := by kernel_rfl
def qnl (x0 : Int) (z1 : Bool) (l2 : List (Int × Int × Int)) (z3 : Bool) (l4 : List Int) (z5 : Bool) (l6 : List Int) (z7 : Bool) (l8 : List Int) (x9 : Int) (z10 : Bool) (l11 : List (Int × Int × Int)) (z12 : Bool) (l13 : List Int) (z14 : Bool) (l15 : List Int) (z16 : Bool) (l17 : List Int) (x18 : Int) (z19 : Bool) (l20 : List Int) (z21 : Bool) (l22 : List (Int × Int × Int)) (z23 : Bool) (l24 : List Int) (z25 : Bool) (l26 : List Int) (z27 : Bool) (l28 : List Int) (x29 : Int) : St := ⟨fill 93 [(3, (.ptr 4 (0) (0))), (6, (.ptr 9 (0) (0))), (7, (.sl 10 none)), (8, (.ptr 15 (0) (0))), (10, (.int .i64 (x0)))], [], [(.arr false (z1) (.r3 (l2))), (.arr false (z3) (.ints .i64 (l4))), (.arr false (z5) (.ints .i64 (l6))), (.arr false (z7) (.ints .i64 (l8))), (.box true [(.int .i64 (x9)), (.sl 0 none), (.sl 1 none), (.sl 2 none), (.sl 3 none)]), (.arr true (z10) (.r3 (l11))), (.arr true (z12) (.ints .i64 (l13))), (.arr true (z14) (.ints .i64 (l15))), (.arr true (z16) (.ints .i64 (l17))), (.box true [(.int .i64 (x18)), (.sl 5 none), (.sl 6 none), (.sl 7 none), (.sl 8 none)]), (.arr true (z19) (.ints .i64 (l20))), (.arr true (z21) (.r3 (l22))), (.arr true (z23) (.ints .i64 (l24))), (.arr true (z25) (.ints .i64 (l26))), (.arr true (z27) (.ints .i64 (l28))), (.box true [(.int .i64 (x29)), (.sl 11 none), (.sl 12 none), (.sl 13 none), (.sl 14 none)])]⟩
def qnm (x0 : Int) (z1 : Bool) (l2 : List (Int × Int × Int)) (z3 : Bool) (l4 : List Int) (z5 : Bool) (l6 : List Int) (z7 : Bool) (l8 : List Int) (x9 : Int) (z10 : Bool) (l11 : List (Int × Int × Int)) (z12 : Bool) (l13 : List Int) (z14 : Bool) (l15 : List Int) (z16 : Bool) (l17 : List Int) (x18 : Int) (z19 : Bool) (l20 : List Int) (z21 : Bool) (l22 : List (Int × Int × Int)) (z23 : Bool) (l24 : List Int) (z25 : Bool) (l26 : List Int) (z27 : Bool) (l28 : List Int) (x29 : Int) : St := ⟨fill 93 [(3, (.ptr 4 (0) (0))), (6, (.ptr 9 (0) (0))), (7, (.sl 10 none)), (8, (.ptr 15 (0) (0))), (9, (.int .i64 (x0)))], [], [(.arr false (z1) (.r3 (l2))), (.arr false (z3) (.ints .i64 (l4))), (.arr false (z5) (.ints .i64 (l6))), (.arr false (z7) (.ints .i64 (l8))), (.box true [(.int .i64 (x9)), (.sl 0 none), (.sl 1 none), (.sl 2 none), (.sl 3 none)]), (.arr true (z10) (.r3 (l11))), (.arr true (z12) (.ints .i64 (l13))), (.arr true (z14) (.ints .i64 (l15))), (.arr true (z16) (.ints .i64 (l17))), (.box true [(.int .i64 (x18)), (.sl 5 none), (.sl 6 none), (.sl 7 none), (.sl 8 none)]), (.arr true (z19) (.ints .i64 (l20))), (.arr true (z21) (.r3 (l22))), (.arr true (z23) (.ints .i64 (l24))), (.arr true (z25) (.ints .i64 (l26))), (.arr true (z27) (.ints .i64 (l28))), (.box true [(.int .i64 (x29)), (.sl 11 none), (.sl 12 none), (.sl 13 none), (.sl 14 none)])]⟩
theorem qg3 (k : Nat) (a0 : Int) (a1z : Bool) (a1 : List (Int × Int × Int)) (a2z : Bool) (a2 : List Int) (a3z : Bool) (a3 : List Int) (a4z : Bool) (a4 : List Int) (b c : Int) : go (k + 1) spec_l17Adapt [(.agg [(.int .i64 (a0)), (.arr false (a1z) (.r3 (a1))), (.arr false (a2z) (.ints .i64 (a2))), (.arr false (a3z) (.ints .i64 (a3))), (.arr false (a4z) (.ints .i64 (a4)))]), (.int .i64 (b)), (.int .i64 (c))] =
 (go k spec_l16Wishes [(.agg [(.int .i64 (a0)), (.arr false (a1z) (.r3 (a1))), (.arr false (a2z) (.ints .i64 (a2))), (.arr false (a3z) (.ints .i64 (a3))), (.arr false (a4z) (.ints .i64 (a4)))]), (.int .i64 (b)), (.int .i64 (c))]).bind fun r0 =>
 (go k spec_l07Copy [(.agg [(.int .i64 (a0)), (.arr false (a1z) (.r3 (a1))), (.arr false (a2z) (.ints .i64 (a2))), (.arr false (a3z) (.ints .i64 (a3))), (.arr false (a4z) (.ints .i64 (a4)))])]).bind fun r1 =>
 lp k spec_l17Adapt [] [] 4 k (qnm (IntKind.wrap .i64 (nI (List.length (D.ints (nth r0 0))) - (1 : Int))) a1z a1 a2z a2 a3z a3 a4z a4 a0 true ([]) true ([]) true ([]) true ([]) (0 : Int) (D.nil (nth r0 0)) (D.ints (nth r0 0)) (D.nil (D.cell 1 (nth r1 0))) (D.r3 (D.cell 1 (nth r1 0))) (D.nil (D.cell 2 (nth r1 0))) (D.ints (D.cell 2 (nth r1 0))) (D.nil (D.cell 3 (nth r1 0))) (D.ints (D.cell 3 (nth r1 0))) (D.nil (D.cell 4 (nth r1 0))) (D.ints (D.cell 4 (nth r1 0))) (D.toInt (D.cell 0 (nth r1 0)))) := by kernel_rfl
theorem qjf (k n : Nat) (fu : List (Nat × Nat)) (x0 : Int) (z1 : Bool) (l2 : List (Int × Int × Int)) (z3 : Bool) (l4 : List Int) (z5 : Bool) (l6 : List Int) (z7 : Bool) (l8 : List Int) (x9 : Int) (z10 : Bool) (l11 : List (Int × Int × Int)) (z12 : Bool) (l13 : List Int) (z14 : Bool) (l15 : List Int) (z16 : Bool) (l17 : List Int) (x18 : Int) (z19 : Bool) (l20 : List Int) (z21 : Bool) (l22 : List (Int × Int × Int)) (z23 : Bool) (l24 : List Int) (z25 : Bool) (l26 : List Int) (z27 : Bool) (l28 : List Int) (x29 : Int) : lp k spec_l17Adapt [] fu 10 (n + 1) (qnl x0 z1 l2 z3 l4 z5 l6 z7 l8 x9 z10 l11 z12 l13 z14 l15 z16 l17 x18 z19 l20 z21 l22 z23 l24 z25 l26 z27 l28 x29) =
 cond (decide (IntKind.wrap .i64 (x0 + (1 : Int)) < nI (List.length l24)))
 (cond (decide ((0 : Int) ≤ x0) && decide (x0 < nI (List.length l22)))
 ((go k spec_LeafOf [(.agg [(.int .i64 (x9)), (.arr false (z1) (.r3 (l2)))]), (.agg [(.int .i64 (Prod.fst (List.getD l22 (Int.toNat x0) zz3))), (.int .i64 (Prod.fst (Prod.snd (List.getD l22 (Int.toNat x0) zz3)))), (.int .i64 (Prod.snd (Prod.snd (List.getD l22 (Int.toNat x0) zz3))))])]).bind fun r0 =>
 cond (decide ((0 : Int) ≤ IntKind.wrap .i64 (x0 + (1 : Int))) && decide (IntKind.wrap .i64 (x0 + (1 : Int)) < nI (List.length l22)))
 ((go k spec_LeafOf [(.agg [(.int .i64 (x9)), (.arr false (z1) (.r3 (l2)))]), (.agg [(.int .i64 (Prod.fst (List.getD l22 (Int.toNat (IntKind.wrap .i64 (x0 + (1 : Int)))) zz3))), (.int .i64 (Prod.fst (Prod.snd (List.getD l22 (Int.toNat (IntKind.wrap .i64 (x0 + (1 : Int)))) zz3)))), (.int .i64 (Prod.snd (Prod.snd (List.getD l22 (Int.toNat (IntKind.wrap .i64 (x0 + (1 : Int)))) zz3))))])]).bind fun r1 =>
 cond (decide ((0 : Int) ≤ D.toInt (nth r0 0)))
 (cond (decide ((0 : Int) ≤ D.toInt (nth r1 0)))
 (cond (decide ((0 : Int) ≤ D.toInt (nth r0 0)) && decide (D.toInt (nth r0 0) < nI (List.length l20)))
 (cond (decide (List.getD l20 (Int.toNat (D.toInt (nth r0 0))) (0 : Int) = (-1 : Int)))
 (cond (decide ((0 : Int) ≤ D.toInt (nth r1 0)) && decide (D.toInt (nth r1 0) < nI (List.length l20)))
 (cond (decide (List.getD l20 (Int.toNat (D.toInt (nth r1 0))) (0 : Int) = (-1 : Int)))
 ((go k spec_l06May [(.agg [(.int .i64 (x29)), (.arr false (z21) (.r3 (l22)))]), (.int .i64 (x0))]).bind fun r2 =>
 cond (bit (nth r2 0))
 ((go k spec_l08Merge [(.agg [(.int .i64 (x29)), (.arr false (z21) (.r3 (l22))), (.arr false (z23) (.ints .i64 (l24))), (.arr false (z25) (.ints .i64 (l26))), (.arr false (z27) (.ints .i64 (l28)))]), (.int .i64 (x0))]).bind fun r3 =>
 lp k spec_l17Adapt [] fu 10 n (qnl (IntKind.wrap .i64 (x0 + (1 : Int))) z1 l2 z3 l4 z5 l6 z7 l8 x9 z10 l11 z12 l13 z14 l15 z16 l17 x18 z19 l20 (D.nil (D.cell 1 (nth r3 0))) (D.r3 (D.cell 1 (nth r3 0))) (D.nil (D.cell 2 (nth r3 0))) (D.ints (D.cell 2 (nth r3 0))) (D.nil (D.cell 3 (nth r3 0))) (D.ints (D.cell 3 (nth r3 0))) (D.nil (D.cell 4 (nth r3 0))) (D.ints (D.cell 4 (nth r3 0))) (D.toInt (D.cell 0 (nth r3 0)))))
 (lp k spec_l17Adapt [] fu 10 n (qnl (IntKind.wrap .i64 (x0 + (1 : Int))) z1 l2 z3 l4 z5 l6 z7 l8 x9 z10 l11 z12 l13 z14 l15 z16 l17 x18 z19 l20 z21 l22 z23 l24 z25 l26 z27 l28 x29)))
 (lp k spec_l17Adapt [] fu 10 n (qnl (IntKind.wrap .i64 (x0 + (1 : Int))) z1 l2 z3 l4 z5 l6 z7 l8 x9 z10 l11 z12 l13 z14 l15 z16 l17 x18 z19 l20 z21 l22 z23 l24 z25 l26 z27 l28 x29)))
 (none))
 (lp k spec_l17Adapt [] fu 10 n (qnl (IntKind.wrap .i64 (x0 + (1 : Int))) z1 l2 z3 l4 z5 l6 z7 l8 x9 z10 l11 z12 l13 z14 l15 z16 l17 x18 z19 l20 z21 l22 z23 l24 z25 l26 z27 l28 x29)))
 (none))
 (lp k spec_l17Adapt [] fu 10 n (qnl (IntKind.wrap .i64 (x0 + (1 : Int))) z1 l2 z3 l4 z5 l6 z7 l8 x9 z10 l11 z12 l13 z14 l15 z16 l17 x18 z19 l20 z21 l22 z23 l24 z25 l26 z27 l28 x29)))
 (lp k spec_l17Adapt [] fu 10 n (qnl (IntKind.wrap .i64 (x0 + (1 : Int))) z1 l2 z3 l4 z5 l6 z7 l8 x9 z10 l11 z12 l13 z14 l15 z16 l17 x18 z19 l20 z21 l22 z23 l24 z25 l26 z27 l28 x29)))
 (none))
 (none))
 (some [(.agg [(.int .i64 (x29)), (.arr true (z21) (.r3 (l22))), (.arr true (z23) (.ints .i64 (l24))), (.arr true (z25) (.ints .i64 (l26))), (.arr true (z27) (.ints .i64 (l28)))])]) := by kernel_rfl
theorem qjg (k n : Nat) (fu : List (Nat × Nat)) (x0 : Int) (z1 : Bool) (l2 : List (Int × Int × Int)) (z3 : Bool) (l4 : List Int) (z5 : Bool) (l6 : List Int) (z7 : Bool) (l8 : List Int) (x9 : Int) (z10 : Bool) (l11 : List (Int × Int × Int)) (z12 : Bool) (l13 : List Int) (z14 : Bool) (l15 : List Int) (z16 : Bool) (l17 : List Int) (x18 : Int) (z19 : Bool) (l20 : List Int) (z21 : Bool) (l22 : List (Int × Int × Int)) (z23 : Bool) (l24 : List Int) (z25 : Bool) (l26 : List Int) (z27 : Bool) (l28 : List Int) (x29 : Int) : lp k spec_l17Adapt [] fu 4 (n + 1) (qnm x0 z1 l2 z3 l4 z5 l6 z7 l8 x9 z10 l11 z12 l13 z14 l15 z16 l17 x18 z19 l20 z21 l22 z23 l24 z25 l26 z27 l28 x29) =
 cond (decide ((0 : Int) ≤ x0))
 (cond (decide ((0 : Int) ≤ x0) && decide (x0 < nI (List.length l20)))
 (cond (decide (List.getD l20 (Int.toNat x0) (0 : Int) = (1 : Int)))
 ((go k spec_l08Split [(.agg [(.int .i64 (x29)), (.arr false (z21) (.r3 (l22))), (.arr false (z23) (.ints .i64 (l24))), (.arr false (z25) (.ints .i64 (l26))), (.arr false (z27) (.ints .i64 (l28)))]), (.int .i64 (x0))]).bind fun r0 =>
 lp k spec_l17Adapt [] fu 4 n (qnm (IntKind.wrap .i64 (x0 - (1 : Int))) z1 l2 z3 l4 z5 l6 z7 l8 x9 z10 l11 z12 l13 z14 l15 z16 l17 x18 z19 l20 (D.nil (D.cell 1 (nth r0 0))) (D.r3 (D.cell 1 (nth r0 0))) (D.nil (D.cell 2 (nth r0 0))) (D.ints (D.cell 2 (nth r0 0))) (D.nil (D.cell 3 (nth r0 0))) (D.ints (D.cell 3 (nth r0 0))) (D.nil (D.cell 4 (nth r0 0))) (D.ints (D.cell 4 (nth r0 0))) (D.toInt (D.cell 0 (nth r0 0)))))
 (lp k spec_l17Adapt [] fu 4 n (qnm (IntKind.wrap .i64 (x0 - (1 : Int))) z1 l2 z3 l4 z5 l6 z7 l8 x9 z10 l11 z12 l13 z14 l15 z16 l17 x18 z19 l20 z21 l22 z23 l24 z25 l26 z27 l28 x29)))
 (none))
 ((go k spec_l08Level [(.agg [(.int .i64 (x29)), (.arr true (z21) (.r3 (l22))), (.arr true (z23) (.ints .i64 (l24))), (.arr true (z25) (.ints .i64 (l26))), (.arr true (z27) (.ints .i64 (l28)))])]).bind fun r1 =>
 lp k spec_l17Adapt [] fu 10 k (qnl (0 : Int) z1 l2 z3 l4 z5 l6 z7 l8 x9 z10 l11 z12 l13 z14 l15 z16 l17 x18 z19 l20 (D.nil (D.cell 1 (nth r1 0))) (D.r3 (D.cell 1 (nth r1 0))) (D.nil (D.cell 2 (nth r1 0))) (D.ints (D.cell 2 (nth r1 0))) (D.nil (D.cell 3 (nth r1 0))) (D.ints (D.cell 3 (nth r1 0))) (D.nil (D.cell 4 (nth r1 0))) (D.ints (D.cell 4 (nth r1 0))) (D.toInt (D.cell 0 (nth r1 0))))) := by kernel_rfl
def qml (x0 : Int) (z1 : Bool) (l2 : List (Int × Int × Int)) (z3 : Bool) (l4 : List Int) (z5 : Bool) (l6 : List Int) (z7 : Bool) (l8 : List Int) (x9 : Int) (l10 : List (Int × Int × Int)) : St := ⟨fill 91 [(0, (.ptr 4 (0) (0))), (7, (.mp 5)), (9, (.int .i64 (x0)))], [(.ptr 4 (0) (0))], [(.arr true (z1) (.r3 (l2))), (.arr true (z3) (.ints .i64 (l4))), (.arr true (z5) (.ints .i64 (l6))), (.arr true (z7) (.ints .i64 (l8))), (.box true [(.int .i64 (x9)), (.sl 0 none), (.sl 1 none), (.sl 2 none), (.sl 3 none)]), (.mp (l10))]⟩
def qmm (x0 : Int) (z1 : Bool) (l2 : List (Int × Int × Int)) (z3 : Bool) (l4 : List Int) (z5 : Bool) (l6 : List Int) (z7 : Bool) (l8 : List Int) (x9 : Int) (z10 : Bool) (l11 : List Int) (l12 : List (Int × Int × Int)) : St := ⟨fill 91 [(0, (.ptr 4 (0) (0))), (6, (.sl 5 none)), (7, (.mp 6)), (8, (.int .i64 (x0)))], [(.ptr 4 (0) (0))], [(.arr true (z1) (.r3 (l2))), (.arr true (z3) (.ints .i64 (l4))), (.arr true (z5) (.ints .i64 (l6))), (.arr true (z7) (.ints .i64 (l8))), (.box true [(.int .i64 (x9)), (.sl 0 none), (.sl 1 none), (.sl 2 none), (.sl 3 none)]), (.arr true (z10) (.ints .i64 (l11))), (.mp (l12))]⟩
theorem qey (k : Nat) (a0 : Int) (a1z : Bool) (a1 : List (Int × Int × Int)) (a2z : Bool) (a2 : List Int) (a3z : Bool) (a3 : List Int) (a4z : Bool) (a4 : List Int) (b c : Int) : go (k + 1) impl_State_adapt [(.ptr true [(.int .i64 (a0)), (.arr true (a1z) (.r3 (a1))), (.arr true (a2z) (.ints .i64 (a2))), (.arr true (a3z) (.ints .i64 (a3))), (.arr true (a4z) (.ints .i64 (a4)))]), (.int .i64 (b)), (.int .i64 (c))] =
 (go k impl_Wishes [(.agg [(.int .i64 (a0)), (.arr false (a1z) (.r3 (a1))), (.arr false (a2z) (.ints .i64 (a2))), (.arr false (a3z) (.ints .i64 (a3))), (.arr false (a4z) (.ints .i64 (a4)))]), (.int .i64 (b)), (.int .i64 (c))]).bind fun r0 =>
 lp k impl_State_adapt [(.ptr true [(.int .i64 (a0)), (.arr true (a1z) (.r3 (a1))), (.arr true (a2z) (.ints .i64 (a2))), (.arr true (a3z) (.ints .i64 (a3))), (.arr true (a4z) (.ints .i64 (a4)))])] [] 3 k (qmm (IntKind.wrap .i64 (nI (List.length (D.ints (nth r0 0))) - (1 : Int))) a1z a1 a2z a2 a3z a3 a4z a4 a0 (D.nil (nth r0 0)) (D.ints (nth r0 0)) ([])) := by kernel_rfl
theorem qif (k n : Nat) (fu : List (Nat × Nat)) (a0 : Int) (a1z : Bool) (a1 : List (Int × Int × Int)) (a2z : Bool) (a2 : List Int) (a3z : Bool) (a3 : List Int) (a4z : Bool) (a4 : List Int) (x0 : Int) (z1 : Bool) (l2 : List (Int × Int × Int)) (z3 : Bool) (l4 : List Int) (z5 : Bool) (l6 : List Int) (z7 : Bool) (l8 : List Int) (x9 : Int) (l10 : List (Int × Int × Int)) : lp k impl_State_adapt [(.ptr true [(.int .i64 (a0)), (.arr true (a1z) (.r3 (a1))), (.arr true (a2z) (.ints .i64 (a2))), (.arr true (a3z) (.ints .i64 (a3))), (.arr true (a4z) (.ints .i64 (a4)))])] fu 12 (n + 1) (qml x0 z1 l2 z3 l4 z5 l6 z7 l8 x9 l10) =
 cond (decide (IntKind.wrap .i64 (x0 + (1 : Int)) < nI (List.length l2)))
 (cond (decide ((0 : Int) ≤ x0) && decide (x0 < nI (List.length l2)))
 (cond (hasK l10 (Prod.fst (List.getD l2 (Int.toNat x0) zz3), Prod.fst (Prod.snd (List.getD l2 (Int.toNat x0) zz3)), Prod.snd (Prod.snd (List.getD l2 (Int.toNat x0) zz3))))
 (cond (decide ((0 : Int) ≤ IntKind.wrap .i64 (x0 + (1 : Int))) && decide (IntKind.wrap .i64 (x0 + (1 : Int)) < nI (List.length l2)))
 (cond (hasK l10 (Prod.fst (List.getD l2 (Int.toNat (IntKind.wrap .i64 (x0 + (1 : Int)))) zz3), Prod.fst (Prod.snd (List.getD l2 (Int.toNat (IntKind.wrap .i64 (x0 + (1 : Int)))) zz3)), Prod.snd (Prod.snd (List.getD l2 (Int.toNat (IntKind.wrap .i64 (x0 + (1 : Int)))) zz3))))
 ((go k impl_Mesh_mayCoarsen [(.agg [(.int .i64 (x9)), (.arr false (z1) (.r3 (l2)))]), (.int .i64 (x0))]).bind fun r0 =>
 cond (bit (nth r0 0))
 ((go k impl_State_coarsen [(.ptr true [(.int .i64 (x9)), (.arr true (z1) (.r3 (l2))), (.arr true (z3) (.ints .i64 (l4))), (.arr true (z5) (.ints .i64 (l6))), (.arr true (z7) (.ints .i64 (l8)))]), (.int .i64 (x0))]).bind fun r1 =>
 lp k impl_State_adapt [(.ptr true [(.int .i64 (a0)), (.arr true (a1z) (.r3 (a1))), (.arr true (a2z) (.ints .i64 (a2))), (.arr true (a3z) (.ints .i64 (a3))), (.arr true (a4z) (.ints .i64 (a4)))])] fu 12 n (qml (IntKind.wrap .i64 (x0 + (1 : Int))) (D.nil (D.cell 1 (nth r1 0))) (D.r3 (D.cell 1 (nth r1 0))) (D.nil (D.cell 2 (nth r1 0))) (D.ints (D.cell 2 (nth r1 0))) (D.nil (D.cell 3 (nth r1 0))) (D.ints (D.cell 3 (nth r1 0))) (D.nil (D.cell 4 (nth r1 0))) (D.ints (D.cell 4 (nth r1 0))) (D.toInt (D.cell 0 (nth r1 0))) l10))
 (lp k impl_State_adapt [(.ptr true [(.int .i64 (a0)), (.arr true (a1z) (.r3 (a1))), (.arr true (a2z) (.ints .i64 (a2))), (.arr true (a3z) (.ints .i64 (a3))), (.arr true (a4z) (.ints .i64 (a4)))])] fu 12 n (qml (IntKind.wrap .i64 (x0 + (1 : Int))) z1 l2 z3 l4 z5 l6 z7 l8 x9 l10)))
 (lp k impl_State_adapt [(.ptr true [(.int .i64 (a0)), (.arr true (a1z) (.r3 (a1))), (.arr true (a2z) (.ints .i64 (a2))), (.arr true (a3z) (.ints .i64 (a3))), (.arr true (a4z) (.ints .i64 (a4)))])] fu 12 n (qml (IntKind.wrap .i64 (x0 + (1 : Int))) z1 l2 z3 l4 z5 l6 z7 l8 x9 l10)))
 (none))
 (lp k impl_State_adapt [(.ptr true [(.int .i64 (a0)), (.arr true (a1z) (.r3 (a1))), (.arr true (a2z) (.ints .i64 (a2))), (.arr true (a3z) (.ints .i64 (a3))), (.arr true (a4z) (.ints .i64 (a4)))])] fu 12 n (qml (IntKind.wrap .i64 (x0 + (1 : Int))) z1 l2 z3 l4 z5 l6 z7 l8 x9 l10)))
 (none))
 (some [(.ptr true [(.int .i64 (x9)), (.arr true (z1) (.r3 (l2))), (.arr true (z3) (.ints .i64 (l4))), (.arr true (z5) (.ints .i64 (l6))), (.arr true (z7) (.ints .i64 (l8)))])]) := by kernel_rfl
theorem qig (k n : Nat) (fu : List (Nat × Nat)) (a0 : Int) (a1z : Bool) (a1 : List (Int × Int × Int)) (a2z : Bool) (a2 : List Int) (a3z : Bool) (a3 : List Int) (a4z : Bool) (a4 : List Int) (x0 : Int) (z1 : Bool) (l2 : List (Int × Int × Int)) (z3 : Bool) (l4 : List Int) (z5 : Bool) (l6 : List Int) (z7 : Bool) (l8 : List Int) (x9 : Int) (z10 : Bool) (l11 : List Int) (l12 : List (Int × Int × Int)) : lp k impl_State_adapt [(.ptr true [(.int .i64 (a0)), (.arr true (a1z) (.r3 (a1))), (.arr true (a2z) (.ints .i64 (a2))), (.arr true (a3z) (.ints .i64 (a3))), (.arr true (a4z) (.ints .i64 (a4)))])] fu 3 (n + 1) (qmm x0 z1 l2 z3 l4 z5 l6 z7 l8 x9 z10 l11 l12) =
 cond (decide ((0 : Int) ≤ x0))
 (cond (decide ((0 : Int) ≤ x0) && decide (x0 < nI (List.length l11)))
 (cond (decide (List.getD l11 (Int.toNat x0) (0 : Int) = (1 : Int)))
 ((go k impl_State_refine [(.ptr true [(.int .i64 (x9)), (.arr true (z1) (.r3 (l2))), (.arr true (z3) (.ints .i64 (l4))), (.arr true (z5) (.ints .i64 (l6))), (.arr true (z7) (.ints .i64 (l8)))]), (.int .i64 (x0))]).bind fun r0 =>
 lp k impl_State_adapt [(.ptr true [(.int .i64 (a0)), (.arr true (a1z) (.r3 (a1))), (.arr true (a2z) (.ints .i64 (a2))), (.arr true (a3z) (.ints .i64 (a3))), (.arr true (a4z) (.ints .i64 (a4)))])] fu 3 n (qmm (IntKind.wrap .i64 (x0 - (1 : Int))) (D.nil (D.cell 1 (nth r0 0))) (D.r3 (D.cell 1 (nth r0 0))) (D.nil (D.cell 2 (nth r0 0))) (D.ints (D.cell 2 (nth r0 0))) (D.nil (D.cell 3 (nth r0 0))) (D.ints (D.cell 3 (nth r0 0))) (D.nil (D.cell 4 (nth r0 0))) (D.ints (D.cell 4 (nth r0 0))) (D.toInt (D.cell 0 (nth r0 0))) z10 l11 l12))
 (cond (decide (List.getD l11 (Int.toNat x0) (0 : Int) = (-1 : Int)))
 (cond (decide ((0 : Int) ≤ x0) && decide (x0 < nI (List.length l2)))
 (lp k impl_State_adapt [(.ptr true [(.int .i64 (a0)), (.arr true (a1z) (.r3 (a1))), (.arr true (a2z) (.ints .i64 (a2))), (.arr true (a3z) (.ints .i64 (a3))), (.arr true (a4z) (.ints .i64 (a4)))])] fu 3 n (qmm (IntKind.wrap .i64 (x0 - (1 : Int))) z1 l2 z3 l4 z5 l6 z7 l8 x9 z10 l11 (l12 ++ [(Prod.fst (List.getD l2 (Int.toNat x0) zz3), Prod.fst (Prod.snd (List.getD l2 (Int.toNat x0) zz3)), Prod.snd (Prod.snd (List.getD l2 (Int.toNat x0) zz3)))])))
 (none))
 (lp k impl_State_adapt [(.ptr true [(.int .i64 (a0)), (.arr true (a1z) (.r3 (a1))), (.arr true (a2z) (.ints .i64 (a2))), (.arr true (a3z) (.ints .i64 (a3))), (.arr true (a4z) (.ints .i64 (a4)))])] fu 3 n (qmm (IntKind.wrap .i64 (x0 - (1 : Int))) z1 l2 z3 l4 z5 l6 z7 l8 x9 z10 l11 l12))))
 (none))
 ((go k impl_State_balance [(.ptr true [(.int .i64 (x9)), (.arr true (z1) (.r3 (l2))), (.arr true (z3) (.ints .i64 (l4))), (.arr true (z5) (.ints .i64 (l6))), (.arr true (z7) (.ints .i64 (l8)))])]).bind fun r1 =>
 lp k impl_State_adapt [(.ptr true [(.int .i64 (a0)), (.arr true (a1z) (.r3 (a1))), (.arr true (a2z) (.ints .i64 (a2))), (.arr true (a3z) (.ints .i64 (a3))), (.arr true (a4z) (.ints .i64 (a4)))])] fu 12 k (qml (0 : Int) (D.nil (D.cell 1 (nth r1 0))) (D.r3 (D.cell 1 (nth r1 0))) (D.nil (D.cell 2 (nth r1 0))) (D.ints (D.cell 2 (nth r1 0))) (D.nil (D.cell 3 (nth r1 0))) (D.ints (D.cell 3 (nth r1 0))) (D.nil (D.cell 4 (nth r1 0))) (D.ints (D.cell 4 (nth r1 0))) (D.toInt (D.cell 0 (nth r1 0))) l12)) := by kernel_rfl
theorem qee (k : Nat) (a0 : Int) (a1z : Bool) (a1 : List (Int × Int × Int)) (a2z : Bool) (a2 : List Int) (a3z : Bool) (a3 : List Int) (a4z : Bool) (a4 : List Int) (b c : Int) : go (k + 1) impl_AdaptState [(.agg [(.int .i64 (a0)), (.arr false (a1z) (.r3 (a1))), (.arr false (a2z) (.ints .i64 (a2))), (.arr false (a3z) (.ints .i64 (a3))), (.arr false (a4z) (.ints .i64 (a4)))]), (.int .i64 (b)), (.int .i64 (c))] =
 (go k impl_copyState [(.agg [(.int .i64 (a0)), (.arr false (a1z) (.r3 (a1))), (.arr false (a2z) (.ints .i64 (a2))), (.arr false (a3z) (.ints .i64 (a3))), (.arr false (a4z) (.ints .i64 (a4)))])]).bind fun r0 =>
 (go k impl_StateOk [(.agg [(.int .i64 (a0)), (.arr false (a1z) (.r3 (a1))), (.arr false (a2z) (.ints .i64 (a2))), (.arr false (a3z) (.ints .i64 (a3))), (.arr false (a4z) (.ints .i64 (a4)))])]).bind fun r1 =>
 cond (bit (nth r1 0))
 ((go k impl_State_adapt [(.ptr true [(.int .i64 (D.toInt (D.cell 0 (nth r0 0)))), (.arr true (D.nil (D.cell 1 (nth r0 0))) (.r3 (D.r3 (D.cell 1 (nth r0 0))))), (.arr true (D.nil (D.cell 2 (nth r0 0))) (.ints .i64 (D.ints (D.cell 2 (nth r0 0))))), (.arr true (D.nil (D.cell 3 (nth r0 0))) (.ints .i64 (D.ints (D.cell 3 (nth r0 0))))), (.arr true (D.nil (D.cell 4 (nth r0 0))) (.ints .i64 (D.ints (D.cell 4 (nth r0 0)))))]), (.int .i64 (b)), (.int .i64 (c))]).bind fun r2 =>
 some [(.agg [(.int .i64 (D.toInt (D.cell 0 (nth r2 0)))), (.arr true (D.nil (D.cell 1 (nth r2 0))) (.r3 (D.r3 (D.cell 1 (nth r2 0))))), (.arr true (D.nil (D.cell 2 (nth r2 0))) (.ints .i64 (D.ints (D.cell 2 (nth r2 0))))), (.arr true (D.nil (D.cell 3 (nth r2 0))) (.ints .i64 (D.ints (D.cell 3 (nth r2 0))))), (.arr true (D.nil (D.cell 4 (nth r2 0))) (.ints .i64 (D.ints (D.cell 4 (nth r2 0)))))])])
 (some [(.agg [(.int .i64 (D.toInt (D.cell 0 (nth r0 0)))), (.arr true (D.nil (D.cell 1 (nth r0 0))) (.r3 (D.r3 (D.cell 1 (nth r0 0))))), (.arr true (D.nil (D.cell 2 (nth r0 0))) (.ints .i64 (D.ints (D.cell 2 (nth r0 0))))), (.arr true (D.nil (D.cell 3 (nth r0 0))) (.ints .i64 (D.ints (D.cell 3 (nth r0 0))))), (.arr true (D.nil (D.cell 4 (nth r0 0))) (.ints .i64 (D.ints (D.cell 4 (nth r0 0)))))])]) := by kernel_rfl
def qnk (x0 x1 x2 : Int) (z3 : Bool) (l4 : List (Int × Int × Int)) (z5 : Bool) (l6 : List Int) (z7 : Bool) (l8 : List Int) (z9 : Bool) (l10 : List Int) (x11 : Int) (z12 : Bool) (l13 : List Int) : St := ⟨fill 53 [(1, (.int .i64 (x0))), (2, (.int .i64 (x1))), (3, (.ptr 4 (0) (0))), (7, (.sl 5 none)), (8, (.int .i64 (x2)))], [], [(.arr false (z3) (.r3 (l4))), (.arr false (z5) (.ints .i64 (l6))), (.arr false (z7) (.ints .i64 (l8))), (.arr false (z9) (.ints .i64 (l10))), (.box true [(.int .i64 (x11)), (.sl 0 none), (.sl 1 none), (.sl 2 none), (.sl 3 none)]), (.arr true (z12) (.ints .i64 (l13)))]⟩
theorem qg2 (k : Nat) (a0 : Int) (a1z : Bool) (a1 : List (Int × Int × Int)) (a2z : Bool) (a2 : List Int) (a3z : Bool) (a3 : List Int) (a4z : Bool) (a4 : List Int) (b c : Int) : go (k + 1) spec_l16Wishes [(.agg [(.int .i64 (a0)), (.arr false (a1z) (.r3 (a1))), (.arr false (a2z) (.ints .i64 (a2))), (.arr false (a3z) (.ints .i64 (a3))), (.arr false (a4z) (.ints .i64 (a4)))]), (.int .i64 (b)), (.int .i64 (c))] =
 lp k spec_l16Wishes [] [] 3 k (qnk b c (0 : Int) a1z a1 a2z a2 a3z a3 a4z a4 a0 false ([])) := by kernel_rfl
theorem qje (k n : Nat) (fu : List (Nat × Nat)) (x0 x1 x2 : Int) (z3 : Bool) (l4 : List (Int × Int × Int)) (z5 : Bool) (l6 : List Int) (z7 : Bool) (l8 : List Int) (z9 : Bool) (l10 : List Int) (x11 : Int) (z12 : Bool) (l13 : List Int) : lp k spec_l16Wishes [] fu 3 (n + 1) (qnk x0 x1 x2 z3 l4 z5 l6 z7 l8 z9 l10 x11 z12 l13) =
 cond (decide (x2 < nI (List.length l6)))
 ((go k spec_l16Jump [(.agg [(.int .i64 (x11)), (.arr false (z3) (.r3 (l4))), (.arr false (z5) (.ints .i64 (l6))), (.arr false (z7) (.ints .i64 (l8))), (.arr false (z9) (.ints .i64 (l10)))]), (.int .i64 (x2))]).bind fun r0 =>
 cond (decide (x0 < D.toInt (nth r0 0)))
 (cond (decide ((0 : Int) ≤ x2) && decide (x2 < nI (List.length l4)))
 (cond (decide (Prod.fst (Prod.snd (List.getD l4 (Int.toNat x2) zz3)) < (4 : Int)))
 (cond (decide (List.length (l13 ++ [(1 : Int)]) ≤ bigLen))
 (lp k spec_l16Wishes [] fu 3 n (qnk x0 x1 (IntKind.wrap .i64 (x2 + (1 : Int))) z3 l4 z5 l6 z7 l8 z9 l10 x11 (z12 && decide (List.length (l13 ++ [(1 : Int)]) = 0)) (l13 ++ [(1 : Int)])))
 (none))
 (cond (decide (D.toInt (nth r0 0) < x1))
 (cond (decide ((0 : Int) ≤ x2) && decide (x2 < nI (List.length l4)))
 (cond (decide ((0 : Int) < Prod.fst (Prod.snd (List.getD l4 (Int.toNat x2) zz3))))
 (cond (decide (List.length (l13 ++ [(-1 : Int)]) ≤ bigLen))
 (lp k spec_l16Wishes [] fu 3 n (qnk x0 x1 (IntKind.wrap .i64 (x2 + (1 : Int))) z3 l4 z5 l6 z7 l8 z9 l10 x11 (z12 && decide (List.length (l13 ++ [(-1 : Int)]) = 0)) (l13 ++ [(-1 : Int)])))
 (none))
 (cond (decide (List.length (l13 ++ [(0 : Int)]) ≤ bigLen))
 (lp k spec_l16Wishes [] fu 3 n (qnk x0 x1 (IntKind.wrap .i64 (x2 + (1 : Int))) z3 l4 z5 l6 z7 l8 z9 l10 x11 (z12 && decide (List.length (l13 ++ [(0 : Int)]) = 0)) (l13 ++ [(0 : Int)])))
 (none)))
 (none))
 (cond (decide (List.length (l13 ++ [(0 : Int)]) ≤ bigLen))
 (lp k spec_l16Wishes [] fu 3 n (qnk x0 x1 (IntKind.wrap .i64 (x2 + (1 : Int))) z3 l4 z5 l6 z7 l8 z9 l10 x11 (z12 && decide (List.length (l13 ++ [(0 : Int)]) = 0)) (l13 ++ [(0 : Int)])))
 (none))))
 (none))
 (cond (decide (D.toInt (nth r0 0) < x1))
 (cond (decide ((0 : Int) ≤ x2) && decide (x2 < nI (List.length l4)))
 (cond (decide ((0 : Int) < Prod.fst (Prod.snd (List.getD l4 (Int.toNat x2) zz3))))
 (cond (decide (List.length (l13 ++ [(-1 : Int)]) ≤ bigLen))
 (lp k spec_l16Wishes [] fu 3 n (qnk x0 x1 (IntKind.wrap .i64 (x2 + (1 : Int))) z3 l4 z5 l6 z7 l8 z9 l10 x11 (z12 && decide (List.length (l13 ++ [(-1 : Int)]) = 0)) (l13 ++ [(-1 : Int)])))
 (none))
 (cond (decide (List.length (l13 ++ [(0 : Int)]) ≤ bigLen))
 (lp k spec_l16Wishes [] fu 3 n (qnk x0 x1 (IntKind.wrap .i64 (x2 + (1 : Int))) z3 l4 z5 l6 z7 l8 z9 l10 x11 (z12 && decide (List.length (l13 ++ [(0 : Int)]) = 0)) (l13 ++ [(0 : Int)])))
 (none)))
 (none))
 (cond (decide (List.length (l13 ++ [(0 : Int)]) ≤ bigLen))
 (lp k spec_l16Wishes [] fu 3 n (qnk x0 x1 (IntKind.wrap .i64 (x2 + (1 : Int))) z3 l4 z5 l6 z7 l8 z9 l10 x11 (z12 && decide (List.length (l13 ++ [(0 : Int)]) = 0)) (l13 ++ [(0 : Int)])))
 (none))))
 (some [(.arr true (z12) (.ints .i64 (l13)))]) := by kernel_rfl
theorem qg1 (k : Nat) (a0 : Int) (a1z : Bool) (a1 : List (Int × Int × Int)) (a2z : Bool) (a2 : List Int) (a3z : Bool) (a3 : List Int) (a4z : Bool) (a4 : List Int) (b : Int) : go (k + 1) spec_l16Jump [(.agg [(.int .i64 (a0)), (.arr false (a1z) (.r3 (a1))), (.arr false (a2z) (.ints .i64 (a2))), (.arr false (a3z) (.ints .i64 (a3))), (.arr false (a4z) (.ints .i64 (a4)))]), (.int .i64 (b))] =
 cond (decide ((0 : Int) < b))
 ((go k spec_l09Surface [(.agg [(.int .i64 (a0)), (.arr false (a1z) (.r3 (a1))), (.arr false (a2z) (.ints .i64 (a2))), (.arr false (a3z) (.ints .i64 (a3))), (.arr false (a4z) (.ints .i64 (a4)))]), (.int .i64 (b))]).bind fun r0 =>
 (go k spec_l09Surface [(.agg [(.int .i64 (a0)), (.arr false (a1z) (.r3 (a1))), (.arr false (a2z) (.ints .i64 (a2))), (.arr false (a3z) (.ints .i64 (a3))), (.arr false (a4z) (.ints .i64 (a4)))]), (.int .i64 (IntKind.wrap .i64 (b - (1 : Int))))]).bind fun r1 =>
 (go k spec_l09Gap [(.int .i64 (D.toInt (nth r0 0))), (.int .i64 (D.toInt (nth r1 0)))]).bind fun r2 =>
 cond (decide (IntKind.wrap .i64 (b + (1 : Int)) < nI (List.length a2)))
 ((go k spec_l09Surface [(.agg [(.int .i64 (a0)), (.arr false (a1z) (.r3 (a1))), (.arr false (a2z) (.ints .i64 (a2))), (.arr false (a3z) (.ints .i64 (a3))), (.arr false (a4z) (.ints .i64 (a4)))]), (.int .i64 (b))]).bind fun r3 =>
 (go k spec_l09Surface [(.agg [(.int .i64 (a0)), (.arr false (a1z) (.r3 (a1))), (.arr false (a2z) (.ints .i64 (a2))), (.arr false (a3z) (.ints .i64 (a3))), (.arr false (a4z) (.ints .i64 (a4)))]), (.int .i64 (IntKind.wrap .i64 (b + (1 : Int))))]).bind fun r4 =>
 (go k spec_l09Gap [(.int .i64 (D.toInt (nth r3 0))), (.int .i64 (D.toInt (nth r4 0)))]).bind fun r5 =>
 some [(.int .i64 (if D.toInt (nth r5 0) > D.toInt (nth r2 0) then D.toInt (nth r5 0) else D.toInt (nth r2 0)))])
 (some [(.int .i64 (D.toInt (nth r2 0)))]))
 (cond (decide (IntKind.wrap .i64 (b + (1 : Int)) < nI (List.length a2)))
 ((go k spec_l09Surface [(.agg [(.int .i64 (a0)), (.arr false (a1z) (.r3 (a1))), (.arr false (a2z) (.ints .i64 (a2))), (.arr false (a3z) (.ints .i64 (a3))), (.arr false (a4z) (.ints .i64 (a4)))]), (.int .i64 (b))]).bind fun r6 =>
 (go k spec_l09Surface [(.agg [(.int .i64 (a0)), (.arr false (a1z) (.r3 (a1))), (.arr false (a2z) (.ints .i64 (a2))), (.arr false (a3z) (.ints .i64 (a3))), (.arr false (a4z) (.ints .i64 (a4)))]), (.int .i64 (IntKind.wrap .i64 (b + (1 : Int))))]).bind fun r7 =>
 (go k spec_l09Gap [(.int .i64 (D.toInt (nth r6 0))), (.int .i64 (D.toInt (nth r7 0)))]).bind fun r8 =>
 some [(.int .i64 (if D.toInt (nth r8 0) > (0 : Int) then D.toInt (nth r8 0) else (0 : Int)))])
 (some [(.int .i64 (0 : Int))])) := by kernel_rfl
def qmp (x0 x1 x2 x3 : Int) (z4 : Bool) (l5 : List (Int × Int × Int)) (z6 : Bool) (l7 : List Int) (z8 : Bool) (l9 : List Int) (z10 : Bool) (l11 : List Int) (x12 : Int) (z13 : Bool) (l14 : List Int) : St := ⟨fill 29 [(1, (.int .i64 (x0))), (2, (.ptr 4 (0) (0))), (5, (.int .i64 (x1))), (11, (.sl 5 none)), (12, (.int .i64 (x2))), (13, (.int .i64 (x3)))], [], [(.arr false (z4) (.r3 (l5))), (.arr false (z6) (.ints .i64 (l7))), (.arr false (z8) (.ints .i64 (l9))), (.arr false (z10) (.ints .i64 (l11))), (.box true [(.int .i64 (x12)), (.sl 0 none), (.sl 1 none), (.sl 2 none), (.sl 3 none)]), (.arr true (z13) (.ints .i64 (l14)))]⟩
theorem qe3 (k : Nat) (a0 : Int) (a1z : Bool) (a1 : List (Int × Int × Int)) (a2z : Bool) (a2 : List Int) (a3z : Bool) (a3 : List Int) (a4z : Bool) (a4 : List Int) (b : Int) : go (k + 1) impl_State_jump [(.agg [(.int .i64 (a0)), (.arr false (a1z) (.r3 (a1))), (.arr false (a2z) (.ints .i64 (a2))), (.arr false (a3z) (.ints .i64 (a3))), (.arr false (a4z) (.ints .i64 (a4)))]), (.int .i64 (b))] =
 (go k impl_Mesh_neighbours [(.agg [(.int .i64 (a0)), (.arr false (a1z) (.r3 (a1)))]), (.int .i64 (b))]).bind fun r0 =>
 lp k impl_State_jump [] [] 3 k (qmp b (0 : Int) (nI (List.length (D.ints (nth r0 0)))) (0 : Int) a1z a1 a2z a2 a3z a3 a4z a4 a0 (D.nil (nth r0 0)) (D.ints (nth r0 0))) := by kernel_rfl
theorem qij (k n : Nat) (fu : List (Nat × Nat)) (x0 x1 x2 x3 : Int) (z4 : Bool) (l5 : List (Int × Int × Int)) (z6 : Bool) (l7 : List Int) (z8 : Bool) (l9 : List Int) (z10 : Bool) (l11 : List Int) (x12 : Int) (z13 : Bool) (l14 : List Int) : lp k impl_State_jump [] fu 3 (n + 1) (qmp x0 x1 x2 x3 z4 l5 z6 l7 z8 l9 z10 l11 x12 z13 l14) =
 cond (decide (x3 < x2))
 (cond (decide ((0 : Int) ≤ x3) && decide (x3 < nI (List.length l14)))
 ((go k impl_State_surface [(.agg [(.int .i64 (x12)), (.arr false (z4) (.r3 (l5))), (.arr false (z6) (.ints .i64 (l7))), (.arr false (z8) (.ints .i64 (l9))), (.arr false (z10) (.ints .i64 (l11)))]), (.int .i64 (x0))]).bind fun r0 =>
 (go k impl_State_surface [(.agg [(.int .i64 (x12)), (.arr false (z4) (.r3 (l5))), (.arr false (z6) (.ints .i64 (l7))), (.arr false (z8) (.ints .i64 (l9))), (.arr false (z10) (.ints .i64 (l11)))]), (.int .i64 (List.getD l14 (Int.toNat x3) (0 : Int)))]).bind fun r1 =>
 (go k impl_absolute [(.int .i64 (IntKind.wrap .i64 (D.toInt (nth r0 0) - D.toInt (nth r1 0))))]).bind fun r2 =>
 lp k impl_State_jump [] fu 3 n (qmp x0 (if D.toInt (nth r2 0) > x1 then D.toInt (nth r2 0) else x1) x2 (IntKind.wrap .i64 (x3 + (1 : Int))) z4 l5 z6 l7 z8 l9 z10 l11 x12 z13 l14))
 (none))
 (some [(.int .i64 (x1))]) := by kernel_rfl
def qmj (x0 x1 : Int) (z2 : Bool) (l3 : List (Int × Int × Int)) (x4 : Int) (z5 : Bool) (l6 : List Int) (z7 : Bool) (l8 : List Int) : St := ⟨fill 28 [(2, (.ptr 1 (0) (0))), (5, (.sl 2 none)), (13, (.sl 3 none)), (14, (.int .i64 (x0))), (15, (.int .i64 (x1)))], [], [(.arr false (z2) (.r3 (l3))), (.box true [(.int .i64 (x4)), (.sl 0 none)]), (.arr true (z5) (.ints .i64 (l6))), (.arr true (z7) (.ints .i64 (l8)))]⟩
theorem qep (k : Nat) (a0 : Int) (a1z : Bool) (a1 : List (Int × Int × Int)) (b : Int) : go (k + 1) impl_Mesh_neighbours [(.agg [(.int .i64 (a0)), (.arr false (a1z) (.r3 (a1)))]), (.int .i64 (b))] =
 lp k impl_Mesh_neighbours [] [] 3 k (qmj (nI (List.length [IntKind.wrap .i64 (b - (1 : Int)), IntKind.wrap .i64 (b + (1 : Int))])) (0 : Int) a1z a1 a0 false ([]) false ([IntKind.wrap .i64 (b - (1 : Int)), IntKind.wrap .i64 (b + (1 : Int))])) := by kernel_rfl
theorem qid (k n : Nat) (fu : List (Nat × Nat)) (x0 x1 : Int) (z2 : Bool) (l3 : List (Int × Int × Int)) (x4 : Int) (z5 : Bool) (l6 : List Int) (z7 : Bool) (l8 : List Int) : lp k impl_Mesh_neighbours [] fu 3 (n + 1) (qmj x0 x1 z2 l3 x4 z5 l6 z7 l8) =
 cond (decide (x1 < x0))
 (cond (decide ((0 : Int) ≤ x1) && decide (x1 < nI (List.length l8)))
 ((go k impl_Mesh_has [(.agg [(.int .i64 (x4)), (.arr false (z2) (.r3 (l3)))]), (.int .i64 (List.getD l8 (Int.toNat x1) (0 : Int)))]).bind fun r0 =>
 cond (bit (nth r0 0))
 (cond (decide (List.length (l6 ++ [List.getD l8 (Int.toNat x1) (0 : Int)]) ≤ bigLen))
 (lp k impl_Mesh_neighbours [] fu 3 n (qmj x0 (IntKind.wrap .i64 (x1 + (1 : Int))) z2 l3 x4 (z5 && decide (List.length (l6 ++ [List.getD l8 (Int.toNat x1) (0 : Int)]) = 0)) (l6 ++ [List.getD l8 (Int.toNat x1) (0 : Int)]) z7 l8))
 (none))
 (lp k impl_Mesh_neighbours [] fu 3 n (qmj x0 (IntKind.wrap .i64 (x1 + (1 : Int))) z2 l3 x4 z5 l6 z7 l8)))
 (none))
 (some [(.arr true (z5) (.ints .i64 (l6)))]) := by kernel_rfl
def qmr (x0 x1 x2 x3 : Int) (z4 : Bool) (l5 : List (Int × Int × Int)) (z6 : Bool) (l7 : List Int) (z8 : Bool) (l9 : List Int) (z10 : Bool) (l11 : List Int) (x12 : Int) (z13 : Bool) (l14 : List Int) : St := ⟨fill 52 [(1, (.int .i64 (x0))), (2, (.int .i64 (x1))), (3, (.ptr 4 (0) (0))), (7, (.sl 5 none)), (18, (.sl 0 none)), (19, (.int .i64 (x2))), (20, (.int .i64 (x3)))], [], [(.arr false (z4) (.r3 (l5))), (.arr false (z6) (.ints .i64 (l7))), (.arr false (z8) (.ints .i64 (l9))), (.arr false (z10) (.ints .i64 (l11))), (.box true [(.int .i64 (x12)), (.sl 0 none), (.sl 1 none), (.sl 2 none), (.sl 3 none)]), (.arr true (z13) (.ints .i64 (l14)))]⟩
theorem qe8 (k : Nat) (a0 : Int) (a1z : Bool) (a1 : List (Int × Int × Int)) (a2z : Bool) (a2 : List Int) (a3z : Bool) (a3 : List Int) (a4z : Bool) (a4 : List Int) (b c : Int) : go (k + 1) impl_Wishes [(.agg [(.int .i64 (a0)), (.arr false (a1z) (.r3 (a1))), (.arr false (a2z) (.ints .i64 (a2))), (.arr false (a3z) (.ints .i64 (a3))), (.arr false (a4z) (.ints .i64 (a4)))]), (.int .i64 (b)), (.int .i64 (c))] =
 (go k impl_StateOk [(.agg [(.int .i64 (a0)), (.arr false (a1z) (.r3 (a1))), (.arr false (a2z) (.ints .i64 (a2))), (.arr false (a3z) (.ints .i64 (a3))), (.arr false (a4z) (.ints .i64 (a4)))])]).bind fun r0 =>
 cond (!bit (nth r0 0))
 (some [(.arr true (true) (.ints .i64 ([])))])
 (lp k impl_Wishes [] [] 5 k (qmr b c (nI (List.length a1)) (0 : Int) a1z a1 a2z a2 a3z a3 a4z a4 a0 false ([]))) := by kernel_rfl
theorem qil (k n : Nat) (fu : List (Nat × Nat)) (x0 x1 x2 x3 : Int) (z4 : Bool) (l5 : List (Int × Int × Int)) (z6 : Bool) (l7 : List Int) (z8 : Bool) (l9 : List Int) (z10 : Bool) (l11 : List Int) (x12 : Int) (z13 : Bool) (l14 : List Int) : lp k impl_Wishes [] fu 5 (n + 1) (qmr x0 x1 x2 x3 z4 l5 z6 l7 z8 l9 z10 l11 x12 z13 l14) =
 cond (decide (x3 < x2))
 (cond (decide ((0 : Int) ≤ x3) && decide (x3 < nI (List.length l5)))
 ((go k impl_State_jump [(.agg [(.int .i64 (x12)), (.arr false (z4) (.r3 (l5))), (.arr false (z6) (.ints .i64 (l7))), (.arr false (z8) (.ints .i64 (l9))), (.arr false (z10) (.ints .i64 (l11)))]), (.int .i64 (x3))]).bind fun r0 =>
 cond (decide (x0 < D.toInt (nth r0 0)))
 (cond (decide (Prod.fst (Prod.snd (List.getD l5 (Int.toNat x3) zz3)) < (4 : Int)))
 (cond (decide (List.length (l14 ++ [(1 : Int)]) ≤ bigLen))
 (lp k impl_Wishes [] fu 5 n (qmr x0 x1 x2 (IntKind.wrap .i64 (x3 + (1 : Int))) z4 l5 z6 l7 z8 l9 z10 l11 x12 (z13 && decide (List.length (l14 ++ [(1 : Int)]) = 0)) (l14 ++ [(1 : Int)])))
 (none))
 (cond (decide (D.toInt (nth r0 0) < x1))
 (cond (decide ((0 : Int) < Prod.fst (Prod.snd (List.getD l5 (Int.toNat x3) zz3))))
 (cond (decide (List.length (l14 ++ [(-1 : Int)]) ≤ bigLen))
 (lp k impl_Wishes [] fu 5 n (qmr x0 x1 x2 (IntKind.wrap .i64 (x3 + (1 : Int))) z4 l5 z6 l7 z8 l9 z10 l11 x12 (z13 && decide (List.length (l14 ++ [(-1 : Int)]) = 0)) (l14 ++ [(-1 : Int)])))
 (none))
 (cond (decide (List.length (l14 ++ [(0 : Int)]) ≤ bigLen))
 (lp k impl_Wishes [] fu 5 n (qmr x0 x1 x2 (IntKind.wrap .i64 (x3 + (1 : Int))) z4 l5 z6 l7 z8 l9 z10 l11 x12 (z13 && decide (List.length (l14 ++ [(0 : Int)]) = 0)) (l14 ++ [(0 : Int)])))
 (none)))
 (cond (decide (List.length (l14 ++ [(0 : Int)]) ≤ bigLen))
 (lp k impl_Wishes [] fu 5 n (qmr x0 x1 x2 (IntKind.wrap .i64 (x3 + (1 : Int))) z4 l5 z6 l7 z8 l9 z10 l11 x12 (z13 && decide (List.length (l14 ++ [(0 : Int)]) = 0)) (l14 ++ [(0 : Int)])))
 (none))))
 (cond (decide (D.toInt (nth r0 0) < x1))
 (cond (decide ((0 : Int) < Prod.fst (Prod.snd (List.getD l5 (Int.toNat x3) zz3))))
 (cond (decide (List.length (l14 ++ [(-1 : Int)]) ≤ bigLen))
 (lp k impl_Wishes [] fu 5 n (qmr x0 x1 x2 (IntKind.wrap .i64 (x3 + (1 : Int))) z4 l5 z6 l7 z8 l9 z10 l11 x12 (z13 && decide (List.length (l14 ++ [(-1 : Int)]) = 0)) (l14 ++ [(-1 : Int)])))
 (none))
 (cond (decide (List.length (l14 ++ [(0 : Int)]) ≤ bigLen))
 (lp k impl_Wishes [] fu 5 n (qmr x0 x1 x2 (IntKind.wrap .i64 (x3 + (1 : Int))) z4 l5 z6 l7 z8 l9 z10 l11 x12 (z13 && decide (List.length (l14 ++ [(0 : Int)]) = 0)) (l14 ++ [(0 : Int)])))
 (none)))
 (cond (decide (List.length (l14 ++ [(0 : Int)]) ≤ bigLen))
 (lp k impl_Wishes [] fu 5 n (qmr x0 x1 x2 (IntKind.wrap .i64 (x3 + (1 : Int))) z4 l5 z6 l7 z8 l9 z10 l11 x12 (z13 && decide (List.length (l14 ++ [(0 : Int)]) = 0)) (l14 ++ [(0 : Int)])))
 (none))))
 (none))
 (some [(.arr true (z13) (.ints .i64 (l14)))]) := by kernel_rfl
def qm4 (x0 : Int) (z1 : Bool) (l2 : List (Int × Int × Int)) (x3 x4 x5 x6 : Int) : St := ⟨fill 21 [(2, (.ptr 1 (0) (0))), (3, (.ptr 2 (0) (0))), (5, (.int .i64 (x0)))], [], [(.arr false (z1) (.r3 (l2))), (.box true [(.int .i64 (x3)), (.sl 0 none)]), (.box true [(.int .i64 (x4)), (.int .i64 (x5)), (.int .i64 (x6))])]⟩
theorem qf2 (k : Nat) (a0 : Int) (a1z : Bool) (a1 : List (Int × Int × Int)) (b0 b1 b2 : Int) : go (k + 1) spec_LeafOf [(.agg [(.int .i64 (a0)), (.arr false (a1z) (.r3 (a1)))]), (.agg [(.int .i64 (b0)), (.int .i64 (b1)), (.int .i64 (b2))])] =
 lp k spec_LeafOf [] [] 2 k (qm4 (0 : Int) a1z a1 a0 b0 b1 b2) := by kernel_rfl
theorem qiy (k n : Nat) (fu : List (Nat × Nat)) (x0 : Int) (z1 : Bool) (l2 : List (Int × Int × Int)) (x3 x4 x5 x6 : Int) : lp k spec_LeafOf [] fu 2 (n + 1) (qm4 x0 z1 l2 x3 x4 x5 x6) =
 cond (decide (x0 < nI (List.length l2)))
 (cond (decide ((0 : Int) ≤ x0) && decide (x0 < nI (List.length l2)))
 (cond (decide (Prod.fst (List.getD l2 (Int.toNat x0) zz3) = x4) && (decide (Prod.fst (Prod.snd (List.getD l2 (Int.toNat x0) zz3)) = x5) && (decide (Prod.snd (Prod.snd (List.getD l2 (Int.toNat x0) zz3)) = x6) && true)))
 (some [(.int .i64 (x0))])
 (lp k spec_LeafOf [] fu 2 n (qm4 (IntKind.wrap .i64 (x0 + (1 : Int))) z1 l2 x3 x4 x5 x6)))
 (none))
 (some [(.int .i64 ((-1 : Int)))]) := by kernel_rfl
def qmq (x0 x1 x2 : Int) (z3 : Bool) (l4 : List (Int × Int × Int)) (z5 : Bool) (l6 : List Int) (z7 : Bool) (l8 : List Int) (z9 : Bool) (l10 : List Int) (x11 : Int) : St := ⟨fill 26 [(1, (.int .i64 (x0))), (2, (.int .i64 (x1))), (3, (.ptr 4 (0) (0))), (7, (.int .i64 (x2)))], [], [(.arr false (z3) (.r3 (l4))), (.arr false (z5) (.ints .i64 (l6))), (.arr false (z7) (.ints .i64 (l8))), (.arr false (z9) (.ints .i64 (l10))), (.box true [(.int .i64 (x11)), (.sl 0 none), (.sl 1 none), (.sl 2 none), (.sl 3 none)])]⟩
theorem qe6 (k : Nat) (a0 : Int) (a1z : Bool) (a1 : List (Int × Int × Int)) (a2z : Bool) (a2 : List Int) (a3z : Bool) (a3 : List Int) (a4z : Bool) (a4 : List Int) (b c : Int) : go (k + 1) impl_TuneHigh [(.agg [(.int .i64 (a0)), (.arr false (a1z) (.r3 (a1))), (.arr false (a2z) (.ints .i64 (a2))), (.arr false (a3z) (.ints .i64 (a3))), (.arr false (a4z) (.ints .i64 (a4)))]), (.int .i64 (b)), (.int .i64 (c))] =
 (go k impl_StateOk [(.agg [(.int .i64 (a0)), (.arr false (a1z) (.r3 (a1))), (.arr false (a2z) (.ints .i64 (a2))), (.arr false (a3z) (.ints .i64 (a3))), (.arr false (a4z) (.ints .i64 (a4)))])]).bind fun r0 =>
 cond (!bit (nth r0 0))
 (some [(.int .i64 ((-1 : Int)))])
 (lp k impl_TuneHigh [] [] 4 k (qmq b c (0 : Int) a1z a1 a2z a2 a3z a3 a4z a4 a0)) := by kernel_rfl
theorem qik (k n : Nat) (fu : List (Nat × Nat)) (x0 x1 x2 : Int) (z3 : Bool) (l4 : List (Int × Int × Int)) (z5 : Bool) (l6 : List Int) (z7 : Bool) (l8 : List Int) (z9 : Bool) (l10 : List Int) (x11 : Int) : lp k impl_TuneHigh [] fu 4 (n + 1) (qmq x0 x1 x2 z3 l4 z5 l6 z7 l8 z9 l10 x11) =
 cond (decide (x2 ≤ (1073741824 : Int)))
 ((go k impl_AdaptState [(.agg [(.int .i64 (x11)), (.arr false (z3) (.r3 (l4))), (.arr false (z5) (.ints .i64 (l6))), (.arr false (z7) (.ints .i64 (l8))), (.arr false (z9) (.ints .i64 (l10)))]), (.int .i64 (x2)), (.int .i64 (x0))]).bind fun r0 =>
 cond (decide (nI (List.length (D.r3 (D.cell 1 (nth r0 0)))) ≤ x1))
 (some [(.int .i64 (x2))])
 (lp k impl_TuneHigh [] fu 4 n (qmq x0 x1 (if IntKind.wrap .i64 ((2 : Int) * x2) > (1 : Int) then IntKind.wrap .i64 ((2 : Int) * x2) else (1 : Int)) z3 l4 z5 l6 z7 l8 z9 l10 x11)))
 (some [(.int .i64 ((-1 : Int)))]) := by kernel_rfl

end Go.Proofs.YtoldpdhhfmlckaaGreat
end
section
namespace Go.Proofs.YtoldpdhhfmlckaaGreat
open Go.Ev
abbrev S3 := List Cell × List Int × List Int
structure StU (r : Int) (s : S3) (b : List Int) : Prop where
  mesh : qla r 0 s.1 = true
  ml : s.2.1.length = s.1.length
  tl : s.2.2.length = s.1.length
  bl : (b.length : Int) = r
  mt : qkz s.2.1 s.2.2 = true
  bed : qak b = true
  sum : isum s.2.1 ≤ 10000000
theorem StF.toU {r : Int} {l : List Cell} {m t b : List Int} (F : StF r l m t b) : StU r (l, m, t) b := ⟨F.mesh, F.ml, F.tl, F.bl, F.mt, F.bed, F.sum⟩
theorem StU.toF {r : Int} {s : S3} {b : List Int} (U : StU r s b) (h : unb s.1 < 0) : StF r s.1 s.2.1 s.2.2 b := ⟨U.mesh, h, U.ml, U.tl, U.bl, U.mt, U.bed, U.sum⟩
theorem StU.len {r : Int} {s : S3} {b : List Int} (U : StU r s b) : 1 ≤ s.1.length ∧ s.1.length ≤ 128 := qlf U.mesh
theorem StU.rr {r : Int} {s : S3} {b : List Int} (U : StU r s b) : 1 ≤ r ∧ r ≤ 8 := ⟨(qle _ _ _ U.mesh).1, (qle _ _ _ U.mesh).2.1⟩
theorem StU.at {r : Int} {s : S3} {b : List Int} (U : StU r s b) (i : Nat) : 0 ≤ s.2.1.getD i 0 ∧ s.2.1.getD i 0 ≤ 10000000 ∧ 0 ≤ s.2.2.getD i 0 ∧ s.2.2.getD i 0 ≤ 1000 * s.2.1.getD i 0 := qk0 _ _ (by rw [U.ml, U.tl]) U.mt i
theorem StU.id {r : Int} {s : S3} {b : List Int} (U : StU r s b) {i : Nat} (h : i < s.1.length) : idOk (s.1.getD i zz3).1 (s.1.getD i zz3).2.1 (s.1.getD i zz3).2.2 = true := ((qle _ _ _ U.mesh).2.2.2.1 _ h).2.2
theorem qjt : ∀ (n : Nat) (m t : List Int), qkz m t = true → qkz (m.take n) (t.take n) = true
  | 0, m, t, h => by simp [qkz]
  | n + 1, [], t, h => by simp [qkz]
  | n + 1, x :: m, [], h => by simp [qkz]
  | n + 1, x :: m, y :: t, h => by
    simp only [List.take_succ_cons, qkz, Bool.and_eq_true] at h ⊢
    exact ⟨h.1, h.2.1, qjt n m t h.2.2⟩
theorem qjs : ∀ (n : Nat) (m t : List Int), qkz m t = true → qkz (m.drop n) (t.drop n) = true
  | 0, m, t, h => by simpa using h
  | n + 1, [], t, h => by simp [qkz]
  | n + 1, x :: m, [], h => by cases h' : List.drop n m <;> simp [qkz, h']
  | n + 1, x :: m, y :: t, h => by
    simp only [List.drop_succ_cons, qkz, Bool.and_eq_true] at h ⊢
    exact qjs n m t h.2.2
theorem qjq : ∀ (m t m' t' : List Int), m.length = t.length → qkz m t = true → qkz m' t' = true → qkz (m ++ m') (t ++ t') = true
  | [], [], m', t', _, _, h => h
  | [], _ :: _, _, _, h, _, _ => by simp at h
  | _ :: _, [], _, _, h, _, _ => by simp at h
  | x :: m, y :: t, m', t', hl, h, h' => by
    simp only [List.cons_append, qkz, Bool.and_eq_true] at h ⊢
    exact ⟨h.1, h.2.1, qjq m t m' t' (by simpa using hl) h.2.2 h'⟩
theorem qjr {x y : Int} {m t : List Int} (h1 : 0 ≤ x ∧ x ≤ 10000000) (h2 : 0 ≤ y ∧ y ≤ 1000 * x) (h : qkz m t = true) : qkz (x :: m) (y :: t) = true := by
  simp only [qkz, Bool.and_eq_true, qhx]; exact ⟨h1, h2, h⟩
theorem qh0 {m : List Int} {i : Nat} (h : i < m.length) : isum (m.take i) + m.getD i 0 + isum (m.drop (i + 1)) = isum m := by
  have e := qd5 h 0
  have := congrArg isum e
  rw [qhz, isum] at this
  omega
abbrev hA (x : Int) : Int := x - x / 2
abbrev hB (x : Int) : Int := x / 2
theorem hAB {x : Int} (h : 0 ≤ x) : hA x + hB x = x ∧ 0 ≤ hB x ∧ hB x ≤ x ∧ 0 ≤ hA x ∧ hA x ≤ x := by unfold hA hB; omega
def rfM (m : List Int) (i : Nat) : List Int := m.take i ++ hA (m.getD i 0) :: hB (m.getD i 0) :: m.drop (i + 1)
abbrev shr (t m : Int) : Int := qnr t (hA m) m
def rfT (t m : List Int) (i : Nat) : List Int := t.take i ++ shr (t.getD i 0) (m.getD i 0) :: (t.getD i 0 - shr (t.getD i 0) (m.getD i 0)) :: t.drop (i + 1)
def rfS (s : S3) (i : Nat) : S3 := (qn3 s.1 i, rfM s.2.1 i, rfT s.2.2 s.2.1 i)
theorem qnz {t m : Int} (hm : 0 ≤ m ∧ m ≤ 10000000) (ht : 0 ≤ t ∧ t ≤ 1000 * m) : (0 ≤ shr t m ∧ shr t m ≤ 1000 * hA m) ∧ 0 ≤ t - shr t m ∧ t - shr t m ≤ 1000 * hB m := by
  have q := hAB hm.1
  have p1 := (qns t (hA m) m).1
  have p2 := qnt (t := t) (p := hA m) (m := m) ht.1 (by omega) ht.2
  by_cases h0 : m = 0
  · subst h0
    have : t = 0 := by omega
    subst this
    have p3 : shr 0 0 = 0 := by unfold shr; omega
    rw [p3] at *
    exact ⟨⟨by omega, by omega⟩, by omega, by omega⟩
  · have e : shr t m = (t * hA m) / m := by
      unfold shr qnr
      rw [show inR m 1 10000000 = true from qhx.2 (by omega), show inR (hA m) 0 m = true from qhx.2 (by omega), show inR t 0 (1000 * m) = true from qhx.2 ht]
      simp only [Bool.and_self, qdv]
      exact Int.tdiv_eq_ediv_of_nonneg (Int.mul_nonneg ht.1 (by omega))
    refine ⟨⟨p1, p2⟩, ?_, ?_⟩
    · have : (t * hA m) / m ≤ t := by
        apply Int.ediv_le_of_le_mul (by omega)
        exact Int.mul_le_mul_of_nonneg_left (by omega) ht.1
      omega
    · have hx : t * hB m ≤ 1000 * m * hB m := Int.mul_le_mul_of_nonneg_right ht.2 (by omega)
      have hs : t * hA m + t * hB m = t * m := by rw [← Int.mul_add, q.1]
      have h2 : (t - 1000 * hB m) * m ≤ t * hA m := by
        rw [Int.sub_mul, Int.mul_right_comm 1000 (hB m) m]
        rw [show 1000 * m * hB m = 1000 * m * hB m from rfl] at hx
        omega
      have : t - 1000 * hB m ≤ (t * hA m) / m := (Int.le_ediv_iff_mul_le (by omega)).2 h2
      omega
theorem qmc {m : List Int} {i : Nat} (h : i < m.length) : (rfM m i).length = m.length + 1 := by
  simp only [rfM, List.length_append, List.length_take, List.length_cons, List.length_drop]; omega
theorem qme {t m : List Int} {i : Nat} (h : i < t.length) : (rfT t m i).length = t.length + 1 := by
  simp only [rfT, List.length_append, List.length_take, List.length_cons, List.length_drop]; omega
theorem qmd {m : List Int} {i : Nat} (h : i < m.length) (h0 : 0 ≤ m.getD i 0) : isum (rfM m i) = isum m := by
  have := qh0 h; have := hAB h0
  simp only [rfM, qhz, isum]
  omega
theorem rf_U {r : Int} {s : S3} {b : List Int} (U : StU r s b) {i : Nat} (hi : i < s.1.length) (hl : qjk s.1 i < 4) : StU r (rfS s i) b := by
  have a := U.at i; have ml := U.ml; have tl := U.tl; have q := hAB a.1
  have sh := qnz ⟨a.1, a.2.1⟩ ⟨a.2.2.1, a.2.2.2⟩
  refine ⟨qn6 U.mesh hi hl, ?_, ?_, U.bl, ?_, U.bed, ?_⟩
  · show (rfM s.2.1 i).length = (qn3 s.1 i).length
    rw [qmc (by omega), qn4 hi]; omega
  · show (rfT s.2.2 s.2.1 i).length = (qn3 s.1 i).length
    rw [qme (by omega), qn4 hi]; omega
  · exact qjq _ _ _ _ (by rw [List.length_take, List.length_take]; omega) (qjt i _ _ U.mt) (qjr (by omega) sh.1 (qjr (by omega) sh.2 (qjs _ _ _ U.mt)))
  · show isum (rfM s.2.1 i) ≤ _
    rw [qmd (by omega) a.1]; exact U.sum
def cmM (m : List Int) (i : Nat) : List Int := m.take i ++ (m.getD i 0 + m.getD (i + 1) 0) :: m.drop (i + 2)
def cmS (s : S3) (i : Nat) : S3 := (qk6 s.1 i, cmM s.2.1 i, cmM s.2.2 i)
theorem qdo {m : List Int} {i : Nat} (h : i + 1 < m.length) : (cmM m i).length + 1 = m.length := by
  simp only [cmM, List.length_append, List.length_take, List.length_cons, List.length_drop]; omega
theorem qh1 {m : List Int} {i : Nat} (h : i + 1 < m.length) : isum (m.take i) + m.getD i 0 + m.getD (i + 1) 0 + isum (m.drop (i + 2)) = isum m := by
  have e := qh0 (show i < m.length by omega)
  rw [qeb h 0, isum, show i + 1 + 1 = i + 2 from rfl] at e
  omega
theorem qdp {m : List Int} {i : Nat} (h : i + 1 < m.length) : isum (cmM m i) = isum m := by
  have := qh1 h
  simp only [cmM, qhz, isum]
  omega
theorem qh5 {m : List Int} (h : ∀ x ∈ m, 0 ≤ x) : 0 ≤ isum m := by
  induction m with
  | nil => simp [isum]
  | cons x m ih => have := h x (by simp); have := ih fun y hy => h y (by simp [hy]); simp only [isum]; omega
theorem cm_U {r : Int} {s : S3} {b : List Int} (U : StU r s b) {i : Nat} (hi : i + 1 < s.1.length) (hs : sib (s.1.getD i zz3) (s.1.getD (i + 1) zz3) = true) : StU r (cmS s i) b := by
  have a := U.at i; have a' := U.at (i + 1); have ml := U.ml; have tl := U.tl
  have mem := qk1 _ _ (by rw [ml, tl]) U.mt
  have s1 := qh5 (m := s.2.1.take i) fun x hx => (mem.1 x (List.mem_of_mem_take hx)).1
  have s2 := qh5 (m := s.2.1.drop (i + 2)) fun x hx => (mem.1 x (List.mem_of_mem_drop hx)).1
  have s3 := qh1 (m := s.2.1) (i := i) (by omega)
  have s4 := U.sum
  refine ⟨qk8 U.mesh hi hs, ?_, ?_, U.bl, ?_, U.bed, ?_⟩
  · show (cmM s.2.1 i).length = (qk6 s.1 i).length
    have h1 := qdo (m := s.2.1) (i := i) (by omega); have h2 := qk7 hi; omega
  · show (cmM s.2.2 i).length = (qk6 s.1 i).length
    have h1 := qdo (m := s.2.2) (i := i) (by omega); have h2 := qk7 hi; omega
  · exact qjq _ _ _ _ (by rw [List.length_take, List.length_take]; omega) (qjt i _ _ U.mt) (qjr (by omega) (by omega) (qjs _ _ _ U.mt))
  · show isum (cmM s.2.1 i) ≤ _
    rw [qdp (by omega)]; exact U.sum
def lvS : Nat → S3 → S3
  | 0, s => s
  | n + 1, s => if unb s.1 < 0 then s else lvS n (rfS s (qdq s.1 (unb s.1).toNat))
theorem qjo {r : Int} {b : List Int} : ∀ (n : Nat) (s : S3), StU r s b → 129 ≤ n + s.1.length → StU r (lvS n s) b ∧ unb (lvS n s).1 < 0
  | 0, s, U, hn => by have := U.len; omega
  | n + 1, s, U, hn => by
    unfold lvS
    by_cases g : unb s.1 < 0
    · rw [if_pos g]; exact ⟨U, g⟩
    · rw [if_neg g]
      obtain ⟨j, e, h1, h2⟩ := qo3 (by omega : 0 ≤ unb s.1)
      have c := qdr U.mesh h1 h2
      rw [e, Int.toNat_natCast]
      exact qjo n _ (rf_U U c.1 c.2) (by show 129 ≤ n + (qn3 s.1 _).length; rw [qn4 c.1]; omega)
def spS (w : List Int) : Nat → S3 → S3
  | 0, s => s
  | n + 1, s => spS w n (if w.getD n 0 = 1 then rfS s n else s)
def mayC (l : List Cell) (i : Nat) : Bool := sib (l.getD i zz3) (l.getD (i + 1) zz3) && ((decide (i = 0) || decide (qjk l (i - 1) ≤ qjk l i)) && (decide (l.length ≤ i + 2) || decide (qjk l (i + 2) ≤ qjk l i)))
def mgS (P : Cell → Bool) : Nat → Nat → S3 → S3
  | 0, i, s => s
  | n + 1, i, s => if i + 1 < s.1.length then mgS P n (i + 1) (if (P (s.1.getD i zz3) && (P (s.1.getD (i + 1) zz3) && mayC s.1 i)) = true then cmS s i else s) else s
theorem qn5 {l : List Cell} {i j : Nat} (hi : i < l.length) (h : j < i) : (qn3 l i).getD j zz3 = l.getD j zz3 := by
  unfold qn3
  simp only [List.getD_eq_getElem?_getD]
  rw [List.getElem?_append_left (by rw [List.length_take]; omega), List.getElem?_take, if_pos h]
theorem qn1 {r : Int} {b : List Int} (w : List Int) (l0 : List Cell) (hw : ∀ j, w.getD j 0 = 1 → qjk l0 j < 4) : ∀ (n : Nat) (s : S3), StU r s b → n ≤ s.1.length → (∀ j, j < n → s.1.getD j zz3 = l0.getD j zz3) → StU r (spS w n s) b
  | 0, s, U, hn, he => U
  | n + 1, s, U, hn, he => by
    unfold spS
    by_cases g : w.getD n 0 = 1
    · rw [if_pos g]
      have hl : qjk s.1 n < 4 := by have := hw n g; unfold qjk at *; rw [he n (by omega)]; exact this
      exact qn1 w l0 hw n _ (rf_U U (by omega) hl) (by show n ≤ (qn3 s.1 n).length; rw [qn4 (by omega)]; omega) fun j hj => by
        show (qn3 s.1 n).getD j zz3 = _
        rw [qn5 (by omega) hj]; exact he j (by omega)
    · rw [if_neg g]
      exact qn1 w l0 hw n s U (by omega) fun j hj => he j (by omega)
theorem qli {r : Int} {b : List Int} (P : Cell → Bool) : ∀ (n i : Nat) (s : S3), StU r s b → StU r (mgS P n i s) b
  | 0, i, s, U => U
  | n + 1, i, s, U => by
    unfold mgS
    by_cases g : i + 1 < s.1.length
    · rw [if_pos g]
      by_cases h : (P (s.1.getD i zz3) && (P (s.1.getD (i + 1) zz3) && mayC s.1 i)) = true
      · rw [if_pos h]
        simp only [Bool.and_eq_true, mayC] at h
        exact qli P n (i + 1) _ (cm_U U g h.2.2.1)
      · rw [if_neg h]; exact qli P n (i + 1) s U
    · rw [if_neg g]; exact U
theorem qk9 {l : List Cell} {i : Nat} (hi : i + 1 < l.length) (hu : unb l < 0) (hm : mayC l i = true) (h1 : 1 ≤ qjk l i) : unb (qk6 l i) < 0 := by
  have ml := qk7 hi
  simp only [mayC, Bool.and_eq_true, Bool.or_eq_true, decide_eq_true_eq, sib] at hm
  obtain ⟨⟨_, _, _, hlev, _⟩, hlo, hhi⟩ := hm
  rw [qo4] at hu ⊢
  have lv : ∀ j, qjk (qk6 l i) j = if j < i then qjk l j else if j = i then qjk l i - 1 else qjk l (j + 1) := fun j => by
    unfold qk6 qjk
    simp only [List.getD_eq_getElem?_getD]
    by_cases g : j < i
    · rw [if_pos g, List.getElem?_append_left (by rw [List.length_take]; omega), List.getElem?_take, if_pos g]
    · rw [if_neg g, List.getElem?_append_right (by rw [List.length_take]; omega), List.length_take, Nat.min_eq_left (by omega)]
      by_cases g2 : j = i
      · subst g2; rw [if_pos rfl, Nat.sub_self]; simp [par]
      · rw [if_neg g2, show j - i = (j - i - 1) + 1 by omega, List.getElem?_cons_succ, List.getElem?_drop]
        congr 4; omega
  intro j hj
  have hj' : j + 1 < l.length - 1 := by omega
  rw [lv, lv]
  have hu1 := fun q (hq : q + 1 < l.length) => hu q hq
  have hle : qjk l i = qjk l (i + 1) := hlev
  by_cases g : j + 1 < i
  · rw [if_pos (by omega), if_pos g]; exact hu j (by omega)
  by_cases g1 : j + 1 = i
  · rw [if_pos (by omega), if_neg (by omega), if_pos g1]
    have := hu j (by omega)
    rw [g1] at this
    rcases hlo with h | h
    · omega
    · rw [show i - 1 = j by omega] at h; omega
  by_cases g2 : j = i
  · subst g2
    rw [if_neg (by omega), if_pos rfl, if_neg (by omega), if_neg (by omega)]
    have := hu (j + 1) (by omega)
    rcases hhi with h | h
    · omega
    · rw [show j + 1 + 1 = j + 2 by omega] at *; omega
  · rw [if_neg (by omega), if_neg (by omega), if_neg (by omega), if_neg (by omega)]; exact hu (j + 1) (by omega)
theorem qn0 {a b : Cell} (h : sib a b = true) : 1 ≤ a.2.1 := by
  simp only [sib, Bool.and_eq_true, decide_eq_true_eq] at h
  obtain ⟨h1, h2, h3, h4, h5, h6⟩ := h
  rw [← h3, ← h4, h6] at h2
  exact (qlu h1 h2 h5).1
theorem qlk (P : Cell → Bool) : ∀ (n i : Nat) (s : S3), unb s.1 < 0 → unb (mgS P n i s).1 < 0
  | 0, i, s, U => U
  | n + 1, i, s, U => by
    unfold mgS
    by_cases g : i + 1 < s.1.length
    · rw [if_pos g]
      by_cases h : (P (s.1.getD i zz3) && (P (s.1.getD (i + 1) zz3) && mayC s.1 i)) = true
      · rw [if_pos h]
        simp only [Bool.and_eq_true] at h
        have h2 := h.2.2
        simp only [mayC, Bool.and_eq_true] at h2
        exact qlk P n (i + 1) _ (qk9 g U h.2.2 (qn0 h2.1))
      · rw [if_neg h]; exact qlk P n (i + 1) s U
    · rw [if_neg g]; exact U
end Go.Proofs.YtoldpdhhfmlckaaGreat
end
section
namespace Go.Proofs.YtoldpdhhfmlckaaGreat
open Go.Ev
set_option maxRecDepth 20000
theorem qoz (o : Bool) (d0 d1 d2 d3 : D) (l : List D) : (D.ptr o (d0 :: d1 :: d2 :: d3 :: l)).cell 3 = d3 := Eq.trans rfl rfl
theorem qo0 (o : Bool) (d0 d1 d2 d3 d4 : D) (l : List D) : (D.ptr o (d0 :: d1 :: d2 :: d3 :: d4 :: l)).cell 4 = d4 := Eq.trans rfl rfl
theorem qcg (k : Nat) (hk : 2000000 ≤ k) (a : Int) (h : 0 ≤ a) (h' : a ≤ 1000000000) : go (k + 1) spec_SplitEven [(.int .i64 (a))] = some [.int .i64 (hA a), .int .i64 (hB a)] := by
  rw [qf8]
  have e : Int.tdiv a 2 = a / 2 := Int.tdiv_eq_ediv_of_nonneg h
  rw [e]
  simp (disch := omega) only [dF, qpd, qdt]
theorem qa2 (k : Nat) (hk : 2000000 ≤ k) (a : Int) (h : 0 ≤ a) (h' : a ≤ 1000000000) : go (k + 1) impl_SplitEven [(.int .i64 (a))] = some [.int .i64 (hA a), .int .i64 (hB a)] := by
  rw [qev]
  have e : Int.tdiv a 2 = a / 2 := Int.tdiv_eq_ediv_of_nonneg h
  rw [e]
  simp (disch := omega) only [dF, qpd, qdt]
theorem qc5 (k : Nat) (hk : 2000000 ≤ k) (r : Int) (s : S3) (b : List Int) (U : StU r s b) (i : Nat) (hi : i < s.1.length) (hv : qjk s.1 i < 4) :
    go (k + 5) spec_l08Split [.agg [.int .i64 (r), .arr false (false) (.r3 (s.1)), .arr false (false) (.ints .i64 (s.2.1)), .arr false (false) (.ints .i64 (s.2.2)), .arr false (false) (.ints .i64 (b))], .int .i64 (i : Int)] = some [.agg [.int .i64 (r), .arr true (false) (.r3 ((rfS s i).1)), .arr true (false) (.ints .i64 ((rfS s i).2.1)), .arr true (false) (.ints .i64 ((rfS s i).2.2)), .arr true (false) (.ints .i64 (b))]] := by
  obtain ⟨l, m, t⟩ := s
  simp only at hi hv ⊢
  rw [qgx]
  have L := U.len; have ml : m.length = l.length := U.ml; have tl : t.length = l.length := U.tl; have bl := U.bl; have rr := U.rr
  have a : 0 ≤ m.getD i 0 ∧ m.getD i 0 ≤ 10000000 ∧ 0 ≤ t.getD i 0 ∧ t.getD i 0 ≤ 1000 * m.getD i 0 := U.at i
  simp only at L
  have q := hAB a.1
  have sh := qnz ⟨a.1, a.2.1⟩ ⟨a.2.2.1, a.2.2.2⟩
  simp only [shr] at sh
  have m1 : (m.take i).length = i := by rw [List.length_take]; omega
  have t1 : (t.take i).length = i := by rw [List.length_take]; omega
  have l2 : ∀ (x : List Int) (p q : Int), x.length = i → (x ++ [p, q]).length = i + 2 := fun x p q h => by rw [List.length_append, h]; rfl
  have m2 := fun p q => l2 (m.take i) p q m1
  have t2 := fun p q => l2 (t.take i) p q t1
  have m3 : ∀ p q : Int, (m.take i ++ [p, q] ++ m.drop (i + 1)).length = l.length + 1 := fun p q => by rw [List.length_append, m2, List.length_drop]; omega
  have t3 : ∀ p q : Int, (t.take i ++ [p, q] ++ t.drop (i + 1)).length = l.length + 1 := fun p q => by rw [List.length_append, t2, List.length_drop]; omega
  have cS := qcy k (by omega) r false l i (by omega) hi (U.id hi) hv
  simp (disch := omega) only [dT, nI, Bool.and_true, Int.toNat_natCast, qcg, qcf, ton0, Nat.sub_zero, Nat.zero_add, List.drop_zero, qlm, m1, big0, m2, t1, t2, cS, qdg, qpd, qoo, m3, t3, Bool.false_and, dF, Bool.and_false, qdv, qan, nth0, qdi, qos, qdj, qln, qlz, nth1]
  rw [List.append_assoc, List.append_assoc]
  rfl
theorem qa0 (k : Nat) (hk : 2000000 ≤ k) (r : Int) (l : List Cell) (h : qla r 0 l = true) (i : Nat) (hi : i < l.length) (hv : qjk l i < 4) :
    go (k + 2) impl_Mesh_refine [.ptr true [.int .i64 r, .arr true false (.r3 l)], .int .i64 (i : Int)] = some [.ptr true [.int .i64 r, .arr true false (.r3 (qn3 l i))]] := by
  rw [qeq]
  have L := qlf h
  have id := qhv.1 ((qle _ _ _ h).2.2.2.1 _ hi).2.2
  have hp : pow2 (l.getD i zz3).2.1 ≤ 16 := by
    rcases lev (qhx.2 id.2.1) with e | e | e | e | e <;> rw [e] <;> decide
  have eR := qbz k false false l [ch0 (l.getD i zz3), ch1 (l.getD i zz3)] (i : Int) ((i + 1 : Nat) : Int) (by omega) (by omega) (by omega) (by simp) (by simp <;> omega) (by omega) (by simp)
  rw [Int.toNat_natCast, Int.toNat_natCast] at eR
  simp only [qjk] at hv
  simp (disch := omega) only [dT, nI, Bool.and_true, Int.toNat_natCast, qfb, qpd, Int.add_zero, qdg, qan, nth0, qdi, qos, qdj, qdk, eR, qln, qlz, qdv]
  rw [List.append_assoc]; rfl
theorem qbp (k : Nat) (hk : 2000000 ≤ k) (r : Int) (s : S3) (b : List Int) (U : StU r s b) (i : Nat) (hi : i < s.1.length) (hv : qjk s.1 i < 4) :
    go (k + 3) impl_State_refine [.ptr true [.int .i64 (r), .arr true (false) (.r3 (s.1)), .arr true (false) (.ints .i64 (s.2.1)), .arr true (false) (.ints .i64 (s.2.2)), .arr true (false) (.ints .i64 (b))], .int .i64 (i : Int)] = some [.ptr true [.int .i64 (r), .arr true (false) (.r3 ((rfS s i).1)), .arr true (false) (.ints .i64 ((rfS s i).2.1)), .arr true (false) (.ints .i64 ((rfS s i).2.2)), .arr true (false) (.ints .i64 (b))]] := by
  obtain ⟨l, m, t⟩ := s
  simp only at hi hv ⊢
  rw [qe4]
  have L := U.len; have ml : m.length = l.length := U.ml; have tl : t.length = l.length := U.tl; have bl := U.bl; have rr := U.rr
  have a : 0 ≤ m.getD i 0 ∧ m.getD i 0 ≤ 10000000 ∧ 0 ≤ t.getD i 0 ∧ t.getD i 0 ≤ 1000 * m.getD i 0 := U.at i
  simp only at L
  have q := hAB a.1
  have sh := qnz ⟨a.1, a.2.1⟩ ⟨a.2.2.1, a.2.2.2⟩
  simp only [shr] at sh
  have eM := qa0 k (by omega) r l U.mesh i hi hv
  have e1 := qb0 (k + 1) false false m [hA (m.getD i 0), hB (m.getD i 0)] (i : Int) ((i + 1 : Nat) : Int) (by omega) (by omega) (by omega) (by simp) (by simp <;> omega) (by omega) (by simp)
  have e2 := qb0 (k + 1) false false t [qnr (t.getD i 0) (hA (m.getD i 0)) (m.getD i 0), t.getD i 0 - qnr (t.getD i 0) (hA (m.getD i 0)) (m.getD i 0)] (i : Int) ((i + 1 : Nat) : Int) (by omega) (by omega) (by omega) (by simp) (by simp <;> omega) (by omega) (by simp)
  rw [Int.toNat_natCast, Int.toNat_natCast] at e1 e2
  simp (disch := omega) only [dT, nI, Bool.and_true, Int.toNat_natCast, qa2, qa1, eM, qdg, qpd, qdv, qan, nth0, qlw, qos, qlx, qln, qlz, nth1, e1, e2, qhy]
  rw [List.append_assoc, List.append_assoc]
  rfl
theorem qaq {a : Cell} (hid : idOk a.1 a.2.1 a.2.2 = true) (hv : 1 ≤ a.2.1) : (∀ (k : Nat), 2000000 ≤ k → go (k + 3) spec_ParentOf [.agg [.int .i64 a.1, .int .i64 a.2.1, .int .i64 a.2.2]] = some [.agg [.int .i64 (par a).1, .int .i64 (par a).2.1, .int .i64 (par a).2.2], .bool true]) ∧
    (∀ (k : Nat), 2000000 ≤ k → go (k + 4) impl_ParentOf [.agg [.int .i64 a.1, .int .i64 a.2.1, .int .i64 a.2.2]] = some [.agg [.int .i64 (par a).1, .int .i64 (par a).2.1, .int .i64 (par a).2.2], .bool true]) := by
  have id := qhv.1 hid
  have hp : pow2 a.2.1 ≤ 16 := by
    rcases lev (qhx.2 id.2.1) with e | e | e | e | e <;> rw [e] <;> decide
  have e : Int.tdiv a.2.2 2 = a.2.2 / 2 := Int.tdiv_eq_ediv_of_nonneg id.2.2.1
  refine ⟨fun k hk => ?_, fun k hk => ?_⟩
  · rw [qf5]; simp (disch := omega) only [qb9, hid, bit, dF, qpd, e, qdt, qan, nth0, qor, Bool.not_true]
  · rw [qet]; simp (disch := omega) only [qaw, hid, bit, dF, qpd, e, qdt, qan, nth0, qor, Bool.not_true]
theorem qc0 (k : Nat) (hk : 2000000 ≤ k) (r : Int) (z : Bool) (l : List Cell) (h : qla r 0 l = true) (i : Nat) (hi : i + 1 < l.length) (hv : 1 ≤ qjk l i) :
    go (k + 4) spec_l06Merge [.agg [.int .i64 r, .arr false z (.r3 l)], .int .i64 (i : Int)] = some [.agg [.int .i64 r, .arr true false (.r3 (qk6 l i))]] := by
  rw [qgr]
  have L := qlf h
  have eP := (qaq ((qle _ _ _ h).2.2.2.1 _ (show i < l.length by omega)).2.2 hv).1 k (by omega)
  have m1 : (l.take i).length = i := by rw [List.length_take]; omega
  have m2 : ∀ p : Cell, (l.take i ++ [p]).length = i + 1 := fun p => by rw [List.length_append, m1]; rfl
  have m3 : ∀ p : Cell, (l.take i ++ [p] ++ l.drop (i + 2)).length = l.length - 1 := fun p => by rw [List.length_append, m2, List.length_drop]; omega
  simp (disch := omega) only [dT, nI, Bool.and_true, Int.toNat_natCast, eP, ton0, Nat.sub_zero, Nat.zero_add, List.drop_zero, qlm, m1, big0, m2, qdh, qpd, qoo, m3, Bool.false_and, dF, Bool.and_false, qdv, qan, nth0, qdi, qos, qdj, qdk]
  rw [List.append_assoc]; rfl
theorem qc4 (k : Nat) (hk : 2000000 ≤ k) (r : Int) (s : S3) (b : List Int) (U : StU r s b) (i : Nat) (hi : i + 1 < s.1.length) (hv : 1 ≤ qjk s.1 i) :
    go (k + 5) spec_l08Merge [.agg [.int .i64 (r), .arr false (false) (.r3 (s.1)), .arr false (false) (.ints .i64 (s.2.1)), .arr false (false) (.ints .i64 (s.2.2)), .arr false (false) (.ints .i64 (b))], .int .i64 (i : Int)] = some [.agg [.int .i64 (r), .arr true (false) (.r3 ((cmS s i).1)), .arr true (false) (.ints .i64 ((cmS s i).2.1)), .arr true (false) (.ints .i64 ((cmS s i).2.2)), .arr true (false) (.ints .i64 (b))]] := by
  obtain ⟨l, m, t⟩ := s
  simp only at hi hv ⊢
  rw [qgw]
  have L := U.len; have ml : m.length = l.length := U.ml; have tl : t.length = l.length := U.tl; have bl := U.bl; have rr := U.rr
  have a : 0 ≤ m.getD i 0 ∧ m.getD i 0 ≤ 10000000 ∧ 0 ≤ t.getD i 0 ∧ t.getD i 0 ≤ 1000 * m.getD i 0 := U.at i
  have a' : 0 ≤ m.getD (i + 1) 0 ∧ m.getD (i + 1) 0 ≤ 10000000 ∧ 0 ≤ t.getD (i + 1) 0 ∧ t.getD (i + 1) 0 ≤ 1000 * m.getD (i + 1) 0 := U.at (i + 1)
  simp only at L
  have eM := qc0 k (by omega) r false l U.mesh i hi hv
  have m1 : (m.take i).length = i := by rw [List.length_take]; omega
  have t1 : (t.take i).length = i := by rw [List.length_take]; omega
  have m2 : ∀ p : Int, (m.take i ++ [p]).length = i + 1 := fun p => by rw [List.length_append, m1]; rfl
  have t2 : ∀ p : Int, (t.take i ++ [p]).length = i + 1 := fun p => by rw [List.length_append, t1]; rfl
  have m3 : (m.take i ++ [m.getD i 0 + m.getD (i + 1) 0] ++ m.drop (i + 2)).length + 1 = l.length := by rw [List.length_append, m2, List.length_drop]; omega
  have t3 : (t.take i ++ [t.getD i 0 + t.getD (i + 1) 0] ++ t.drop (i + 2)).length + 1 = l.length := by rw [List.length_append, t2, List.length_drop]; omega
  simp (disch := omega) only [dT, Bool.and_true, nI, Int.toNat_natCast, ton0, Nat.sub_zero, Nat.zero_add, List.drop_zero, qlm, m1, big0, qdg, qpd, m2, t1, t2, eM, qdh, qoo, Bool.false_and, dF, Bool.and_false, qdv, qan, nth0, qdi, qos, qdj, qln, qlz]
  rw [List.append_assoc, List.append_assoc]
  rfl
theorem qaz (k : Nat) (hk : 2000000 ≤ k) (r : Int) (l : List Cell) (h : qla r 0 l = true) (i : Nat) (hi : i + 1 < l.length) (hv : 1 ≤ qjk l i) :
    go (k + 5) impl_Mesh_coarsen [.ptr true [.int .i64 r, .arr true false (.r3 l)], .int .i64 (i : Int)] = some [.ptr true [.int .i64 r, .arr true false (.r3 (qk6 l i))]] := by
  rw [qel]
  have L := qlf h
  have eP := (qaq ((qle _ _ _ h).2.2.2.1 _ (show i < l.length by omega)).2.2 hv).2 k (by omega)
  have eR := qbz (k + 3) false false l [par (l.getD i zz3)] (i : Int) ((i + 2 : Nat) : Int) (by omega) (by omega) (by omega) (by simp) (by simp <;> omega) (by omega) (by simp)
  rw [Int.toNat_natCast, Int.toNat_natCast] at eR
  simp (disch := omega) only [dT, nI, Bool.and_true, Int.toNat_natCast, eP, qdh, qpd, qan, nth0, qdi, qos, qdj, qdk, eR, qln, qlz, qdv]
  rw [List.append_assoc]; rfl
theorem qbc (k : Nat) (hk : 2000000 ≤ k) (r : Int) (s : S3) (b : List Int) (U : StU r s b) (i : Nat) (hi : i + 1 < s.1.length) (hv : 1 ≤ qjk s.1 i) :
    go (k + 6) impl_State_coarsen [.ptr true [.int .i64 (r), .arr true (false) (.r3 (s.1)), .arr true (false) (.ints .i64 (s.2.1)), .arr true (false) (.ints .i64 (s.2.2)), .arr true (false) (.ints .i64 (b))], .int .i64 (i : Int)] = some [.ptr true [.int .i64 (r), .arr true (false) (.r3 ((cmS s i).1)), .arr true (false) (.ints .i64 ((cmS s i).2.1)), .arr true (false) (.ints .i64 ((cmS s i).2.2)), .arr true (false) (.ints .i64 (b))]] := by
  obtain ⟨l, m, t⟩ := s
  simp only at hi hv ⊢
  rw [qe0]
  have L := U.len; have ml : m.length = l.length := U.ml; have tl : t.length = l.length := U.tl; have bl := U.bl; have rr := U.rr
  have a : 0 ≤ m.getD i 0 ∧ m.getD i 0 ≤ 10000000 ∧ 0 ≤ t.getD i 0 ∧ t.getD i 0 ≤ 1000 * m.getD i 0 := U.at i
  have a' : 0 ≤ m.getD (i + 1) 0 ∧ m.getD (i + 1) 0 ≤ 10000000 ∧ 0 ≤ t.getD (i + 1) 0 ∧ t.getD (i + 1) 0 ≤ 1000 * m.getD (i + 1) 0 := U.at (i + 1)
  simp only at L
  have eM := qaz k (by omega) r l U.mesh i hi hv
  have e1 := qb0 (k + 4) false false m [m.getD i 0 + m.getD (i + 1) 0] (i : Int) ((i + 2 : Nat) : Int) (by omega) (by omega) (by omega) (by simp) (by simp <;> omega) (by omega) (by simp)
  have e2 := qb0 (k + 4) false false t [t.getD i 0 + t.getD (i + 1) 0] (i : Int) ((i + 2 : Nat) : Int) (by omega) (by omega) (by omega) (by simp) (by simp <;> omega) (by omega) (by simp)
  rw [Int.toNat_natCast, Int.toNat_natCast] at e1 e2
  simp (disch := omega) only [eM, dT, nI, Bool.and_true, qdg, qpd, qdh, Int.toNat_natCast, e1, e2, qan, nth0, qln, qhy, qdv, qlw, qos, qlx, qlz]
  rw [List.append_assoc, List.append_assoc]
  rfl
end Go.Proofs.YtoldpdhhfmlckaaGreat
end
section
namespace Go.Proofs.YtoldpdhhfmlckaaGreat
open Go.Ev
set_option maxRecDepth 20000
theorem qap {a b : Cell} (ha : idOk a.1 a.2.1 a.2.2 = true) (hb : idOk b.1 b.2.1 b.2.2 = true) : (∀ (k : Nat), 2000000 ≤ k → go (k + 3) spec_IsSibling [.agg [.int .i64 a.1, .int .i64 a.2.1, .int .i64 a.2.2], .agg [.int .i64 b.1, .int .i64 b.2.1, .int .i64 b.2.2]] = some [.bool (sib a b)]) ∧
    (∀ (k : Nat), 2000000 ≤ k → go (k + 5) impl_IsSibling [.agg [.int .i64 a.1, .int .i64 a.2.1, .int .i64 a.2.2], .agg [.int .i64 b.1, .int .i64 b.2.1, .int .i64 b.2.2]] = some [.bool (sib a b)]) := by
  have ia := qhv.1 ha; have ib := qhv.1 hb
  have pa : pow2 a.2.1 ≤ 16 := by
    rcases lev (qhx.2 ia.2.1) with e | e | e | e | e <;> rw [e] <;> decide
  have ea : Int.tmod a.2.2 2 = a.2.2 % 2 := Int.tmod_eq_emod_of_nonneg ia.2.2.1
  have da : Int.tdiv a.2.2 2 = a.2.2 / 2 := Int.tdiv_eq_ediv_of_nonneg ia.2.2.1
  have db : Int.tdiv b.2.2 2 = b.2.2 / 2 := Int.tdiv_eq_ediv_of_nonneg ib.2.2.1
  have pb : pow2 b.2.1 ≤ 16 := by
    rcases lev (qhx.2 ib.2.1) with e | e | e | e | e <;> rw [e] <;> decide
  constructor
  · intro k hk
    rw [qf1]
    simp (disch := omega) only [qb9, ha, bit, hb, ea, qpd, qan, nth0, qor, qdv]
    unfold sib
    rw [ha, hb]
    by_cases h1 : a.1 = b.1
    · by_cases h2 : a.2.1 = b.2.1
      · by_cases h3 : a.2.2 % 2 = 0
        · simp (disch := omega) only [dT, qdv, Bool.true_and]
        · simp (disch := omega) only [dT, dF, qdt, qdv, Bool.false_and, Bool.and_false]
      · simp (disch := omega) only [dT, dF, qdt, qdv, Bool.false_and, Bool.and_false]
    · simp (disch := omega) only [dF, qdt, Bool.false_and, Bool.and_false]
  · intro k hk
    rw [qej, qet, qet]
    by_cases z1 : a.2.1 = 0
    · have sf : sib a b = false := by
        rw [← Bool.not_eq_true]; intro hs; have := qn0 hs; omega
      rw [sf]
      by_cases z2 : b.2.1 = 0
      · simp (disch := omega) only [qaw, ha, bit, dT, qpd, qdv, qan, nth0, qor, Bool.not_true, qdt, hb, Bool.and_true, nth1, qdi, qos, qdj, qdk]
      · simp (disch := omega) only [qaw, ha, bit, dT, qpd, qdv, qan, nth0, qor, Bool.not_true, qdt, hb, dF, Bool.and_true, nth1, qdi, qos, qdj, qdk]
    · by_cases z2 : b.2.1 = 0
      · have sf : sib a b = false := by
          rw [← Bool.not_eq_true]; intro hs
          simp only [sib, Bool.and_eq_true, decide_eq_true_eq] at hs
          omega
        rw [sf]
        simp (disch := omega) only [qaw, ha, bit, dF, qpd, qdt, qan, nth0, qor, Bool.not_true, hb, dT, qdv, Bool.and_true, nth1, qdi, qos, qdj, qdk]
      · unfold sib
        rw [ha, hb]
        simp (disch := omega) only [qaw, ha, bit, dF, qpd, da, qdt, qan, nth0, qor, Bool.not_true, hb, db, Bool.and_true, ea, nth1, qdi, qos, qdj, qdk, qdv, Bool.true_and]
        by_cases h1 : a.1 = b.1
        · by_cases h2 : a.2.1 = b.2.1
          · by_cases h3 : a.2.2 % 2 = 0
            · by_cases h5 : b.2.2 = a.2.2 + 1
              · simp (disch := omega) only [dT, Bool.and_true, qdv]
              · by_cases h6 : a.2.2 / 2 = b.2.2 / 2
                · simp (disch := omega) only [dT, Bool.and_true, dF, qdv, Bool.and_false]
                · simp (disch := omega) only [dT, dF, Bool.and_false, qdv, qdt]
            · by_cases h6 : a.2.2 / 2 = b.2.2 / 2
              · simp (disch := omega) only [dT, Bool.and_true, dF, qdt, qdv, Bool.and_false]
              · simp (disch := omega) only [dT, dF, Bool.and_false, qdt, Bool.false_and]
          · simp (disch := omega) only [dT, dF, Bool.false_and, Bool.and_false, qdt]
        · simp (disch := omega) only [dF, Bool.false_and, qdt]
theorem qcz (k : Nat) (hk : 2000000 ≤ k) (r : Int) (z : Bool) (l : List Cell) (h : qla r 0 l = true) (i : Nat) (hi : i + 1 < l.length) :
    go (k + 4) spec_l06May [.agg [.int .i64 r, .arr false z (.r3 l)], .int .i64 (i : Int)] = some [.bool (mayC l i)] := by
  rw [qgq]
  have L := qlf h
  have id := fun j (hj : j < l.length) => ((qle _ _ _ h).2.2.2.1 _ hj).2.2
  have eS := (qap (id i (by omega)) (id (i + 1) hi)).1 k (by omega)
  unfold mayC
  simp (disch := omega) only [dT, nI, Bool.and_true, qdg, qpd, Int.toNat_natCast, eS, bit, qdh, Bool.true_and, qan, nth0, qor, qdv]
  cases sib (l.getD i zz3) (l.getD (i + 1) zz3)
  · simp (disch := omega) only [Bool.not_false, qdv, Bool.false_and]
  by_cases h0 : i = 0
  · subst h0
    by_cases h1 : l.length ≤ 2
    · simp (disch := omega) only [Bool.not_true, dT, dF, qdt, qdv, dTT, Bool.true_or, Bool.and_true]
    · simp only [qjk]
      simp (disch := omega) only [Bool.not_true, dT, Nat.zero_add, dF, qdv, qdt, dTT, Bool.true_or, Bool.false_or, Bool.true_and]
  · by_cases h1 : l.length ≤ i + 2
    · simp only [qjk]
      by_cases h2 : (l.getD (i - 1) zz3).2.1 ≤ (l.getD i zz3).2.1
      · simp (disch := omega) only [Bool.not_true, dF, dT, qdt, qdv, qdf, Int.toNat_natCast, Bool.or_true, Bool.true_or, Bool.and_true]
      · simp (disch := omega) only [Bool.not_true, dF, dT, qdt, qdv, qdf, Int.toNat_natCast, Bool.or_false, Bool.true_or, Bool.and_true, Bool.and_false]
    · simp only [qjk]
      by_cases h2 : (l.getD (i - 1) zz3).2.1 ≤ (l.getD i zz3).2.1
      · simp (disch := omega) only [Bool.not_true, dF, dT, qdv, qdt, qdf, Int.toNat_natCast, Bool.or_true, Bool.false_or, Bool.true_and]
      · simp (disch := omega) only [Bool.not_true, dF, dT, qdv, qdt, qdf, Int.toNat_natCast, Bool.or_false, Bool.false_or, Bool.false_and, Bool.and_false]
theorem qbn (k : Nat) (hk : 2000000 ≤ k) (r : Int) (z : Bool) (l : List Cell) (h : qla r 0 l = true) (i : Nat) (hi : i + 1 < l.length) :
    go (k + 6) impl_Mesh_mayCoarsen [.agg [.int .i64 r, .arr false z (.r3 l)], .int .i64 (i : Int)] = some [.bool (mayC l i)] := by
  rw [qeo]
  have L := qlf h
  have id := fun j (hj : j < l.length) => ((qle _ _ _ h).2.2.2.1 _ hj).2.2
  have eS := (qap (id i (by omega)) (id (i + 1) hi)).2 k (by omega)
  have b1 : inR (i : Int) 0 ((l.length : Int) - 1) = true := qhx.2 (by omega)
  have b2 : inR ((i + 1 : Nat) : Int) 0 ((l.length : Int) - 1) = true := qhx.2 (by omega)
  unfold mayC
  simp (disch := omega) only [qbh, b1, bit, qdg, qpd, b2, dT, nI, Bool.and_true, Int.toNat_natCast, eS, qdh, Bool.true_and, Bool.not_false, qan, nth0, qor, qdv, Bool.not_true, qdt]
  cases sib (l.getD i zz3) (l.getD (i + 1) zz3)
  · simp (disch := omega) only [Bool.not_false, qdv, Bool.false_and]
  by_cases h0 : i = 0
  · subst h0
    have b3 : inR (((0 : Nat) : Int) - 1) 0 ((l.length : Int) - 1) = false := by rw [← Bool.not_eq_true, qhx]; omega
    by_cases h1 : l.length ≤ 2
    · have b4 : inR ((0 + 2 : Nat) : Int) 0 ((l.length : Int) - 1) = false := by rw [← Bool.not_eq_true, qhx]; omega
      simp (disch := omega) only [Bool.not_true, b3, dF, b4, qdt, dTT, Bool.true_or, dT, Bool.and_true]
    · have b4 : inR ((0 + 2 : Nat) : Int) 0 ((l.length : Int) - 1) = true := qhx.2 (by omega)
      simp only [qjk]
      by_cases h3 : (l.getD (0 + 2) zz3).2.1 ≤ (l.getD 0 zz3).2.1
      · simp (disch := omega) only [Bool.not_true, b3, dF, b4, dT, Bool.not_false, qdv, qdt, dTT, Bool.true_or, Bool.or_true, Bool.and_true]
      · simp (disch := omega) only [Bool.not_true, b3, dF, b4, dT, qdv, qdt, dTT, Bool.true_or, Bool.or_false, Bool.and_false]
  · have ci : (i : Int) - 1 = ((i - 1 : Nat) : Int) := by omega
    have b3 : inR (((i - 1 : Nat) : Nat) : Int) 0 ((l.length : Int) - 1) = true := qhx.2 (by omega)
    simp only [qjk]
    by_cases h2 : (l.getD (i - 1) zz3).2.1 ≤ (l.getD i zz3).2.1
    · by_cases h1 : l.length ≤ i + 2
      · have b4 : inR ((i + 2 : Nat) : Int) 0 ((l.length : Int) - 1) = false := by rw [← Bool.not_eq_true, qhx]; omega
        simp (disch := omega) only [Bool.not_true, ci, b3, dT, Int.toNat_natCast, dF, Bool.not_false, b4, qdt, qdv, Bool.or_true, Bool.true_or, Bool.and_true]
      · have b4 : inR ((i + 2 : Nat) : Int) 0 ((l.length : Int) - 1) = true := qhx.2 (by omega)
        by_cases h3 : (l.getD (i + 2) zz3).2.1 ≤ (l.getD i zz3).2.1
        · simp (disch := omega) only [Bool.not_true, ci, b3, dT, Int.toNat_natCast, dF, Bool.not_false, b4, qdv, qdt, Bool.or_true, Bool.and_true]
        · simp (disch := omega) only [Bool.not_true, ci, b3, dT, Int.toNat_natCast, dF, Bool.not_false, b4, qdv, qdt, Bool.or_true, Bool.or_false, Bool.and_false]
    · simp (disch := omega) only [Bool.not_true, ci, b3, dT, Int.toNat_natCast, qdt, qdv, dF, Bool.or_false, Bool.false_and, Bool.and_false]
def toR (l : List Cell) : Int := if unb l < 0 then unb l else ((qdq l (unb l).toNat : Nat) : Int)
theorem qbs (k : Nat) (hk : 2000000 ≤ k) (r : Int) (z : Bool) (l : List Cell) (h : qla r 0 l = true) : go (k + 3) impl_Mesh_toRefine [.agg [.int .i64 r, .arr false z (.r3 l)]] = some [.int .i64 (toR l)] := by
  rw [qer]
  have L := qlf h
  have mv := qlg _ _ _ h
  rw [qbt k (by omega) _ _ _ (by omega) mv]
  unfold toR
  by_cases g : unb l < 0
  · rw [if_pos g]; simp (disch := omega) only [nI, qan, nth0, qos, dF, dT, Bool.and_true, qdt]
  · rw [if_neg g]
    obtain ⟨j, e, h1, h2⟩ := qo3 (by omega : 0 ≤ unb l)
    rw [e, Int.toNat_natCast]
    unfold qdq
    by_cases g2 : qjk l (j + 1) < qjk l j
    · rw [if_pos g2]; simp only [qjk] at g2; simp (disch := omega) only [nI, qan, nth0, qos, dT, Bool.and_true, qdg, qpd, Int.toNat_natCast, qdv]
    · rw [if_neg g2]; simp only [qjk] at g2; simp (disch := omega) only [nI, qan, nth0, qos, dT, Bool.and_true, qdg, qpd, Int.toNat_natCast, dF, qdt, qdv]
theorem qj2 (k : Nat) (hk : 2000000 ≤ k) (fu : List (Nat × Nat)) (w0 : Int) (v1 : Bool) (w1 : List Cell) (v2 : Bool) (w2 : List Int) (v3 : Bool) (w3 : List Int) (v4 : Bool) (w4 : List Int) (r : Int) (b : List Int) : ∀ (N n : Nat) (s : S3), N < n → StU r s b → 129 ≤ N + s.1.length →
    lp (k + 3) impl_State_balance [.ptr true [.int .i64 w0, .arr true v1 (.r3 w1), .arr true v2 (.ints .i64 w2), .arr true v3 (.ints .i64 w3), .arr true v4 (.ints .i64 w4)]] fu 1 n (qmn (toR s.1) false s.1 false s.2.1 false s.2.2 false b r) = some [.ptr true [.int .i64 (r), .arr true (false) (.r3 ((lvS N s).1)), .arr true (false) (.ints .i64 ((lvS N s).2.1)), .arr true (false) (.ints .i64 ((lvS N s).2.2)), .arr true (false) (.ints .i64 (b))]]
  | N, 0, s, hn, U, hN => by omega
  | 0, n + 1, s, hn, U, hN => by have := U.len; omega
  | N + 1, n + 1, s, hn, U, hN => by
    rw [qih]
    have L := U.len
    unfold lvS toR
    by_cases g : unb s.1 < 0
    · rw [if_pos g, if_pos g]; simp (disch := omega) only [dF, qdt]
    · rw [if_neg g, if_neg g]
      obtain ⟨j, e, h1, h2⟩ := qo3 (by omega : 0 ≤ unb s.1)
      have c := qdr U.mesh h1 h2
      rw [e, Int.toNat_natCast]
      have U' := rf_U U c.1 c.2
      have IH := qj2 k hk fu w0 v1 w1 v2 w2 v3 w3 v4 w4 r b N n _ (by omega) U' (by show 129 ≤ N + (qn3 s.1 _).length; rw [qn4 c.1]; omega)
      have eR := qbp k (by omega) r s b U (qdq s.1 j) c.1 c.2
      have eT := qbs k (by omega) r false _ U'.mesh
      simp (disch := omega) only [dT, eR, qan, nth0, qlw, qos, qlx, qln, qlz, eT, qly, qhy, qoz, qo0, IH, qdv]
theorem qbb (k : Nat) (hk : 2000000 ≤ k) (r : Int) (s : S3) (b : List Int) (U : StU r s b) : go (k + 4) impl_State_balance [.ptr true [.int .i64 (r), .arr true (false) (.r3 (s.1)), .arr true (false) (.ints .i64 (s.2.1)), .arr true (false) (.ints .i64 (s.2.2)), .arr true (false) (.ints .i64 (b))]] = some [.ptr true [.int .i64 (r), .arr true (false) (.r3 ((lvS 128 s).1)), .arr true (false) (.ints .i64 ((lvS 128 s).2.1)), .arr true (false) (.ints .i64 ((lvS 128 s).2.2)), .arr true (false) (.ints .i64 (b))]] := by
  rw [qez]
  have eT := qbs k (by omega) r false _ U.mesh
  have L := U.len
  simp (disch := omega) only [eT, qan, nth0, qos]
  exact qj2 k hk [] _ _ _ _ _ _ _ _ _ r b 128 _ s (by omega) U (by omega)
theorem qkw (k : Nat) (hk : 2000000 ≤ k) (fu : List (Nat × Nat)) (z10 : Bool) (l11 : List Cell) (z12 : Bool) (l13 : List Int) (z14 : Bool) (l15 : List Int) (z16 : Bool) (l17 : List Int) (x18 : Int) (r : Int) (b : List Int) : ∀ (N n : Nat) (s : S3), N < n → StU r s b → 129 ≤ N + s.1.length →
    lp (k + 5) spec_l08Level [] fu 2 (n) (qni (unb s.1) false s.1 false s.2.1 false s.2.2 false b r z10 l11 z12 l13 z14 l15 z16 l17 x18) = some [.agg [.int .i64 (r), .arr true (false) (.r3 ((lvS N s).1)), .arr true (false) (.ints .i64 ((lvS N s).2.1)), .arr true (false) (.ints .i64 ((lvS N s).2.2)), .arr true (false) (.ints .i64 (b))]]
  | N, 0, s, hn, U, hN => by omega
  | 0, n + 1, s, hn, U, hN => by have := U.len; omega
  | N + 1, n + 1, s, hn, U, hN => by
    rw [qjc]
    have L := U.len
    unfold lvS
    by_cases g : unb s.1 < 0
    · rw [if_pos g]; simp (disch := omega) only [dF, qdt]
    · rw [if_neg g]
      obtain ⟨j, e, h1, h2⟩ := qo3 (by omega : 0 ≤ unb s.1)
      have c := qdr U.mesh h1 h2
      rw [e, Int.toNat_natCast]
      have U' := rf_U U c.1 c.2
      have L' := U'.len
      have IH := qkw k hk fu z10 l11 z12 l13 z14 l15 z16 l17 x18 r b N n _ (by omega) U' (by show 129 ≤ N + (qn3 s.1 _).length; rw [qn4 c.1]; omega)
      have eC := qcu (k + 4) (by omega) r false s.1 j (by omega) h1
      have eR := qc5 k (by omega) r s b U (qdq s.1 j) c.1 c.2
      have eT := qcw (k + 4) (by omega) r false (rfS s (qdq s.1 j)).1 (by omega) (qlg _ _ _ U'.mesh)
      simp (disch := omega) only [dT, eC, qan, nth0, qos, eR, qdi, qdj, qln, qlz, eT, qdk, qhy, qdl, qdm, IH, qdv]
theorem qde (k : Nat) (hk : 2000000 ≤ k) (r : Int) (s : S3) (b : List Int) (U : StU r s b) : go (k + 6) spec_l08Level [.agg [.int .i64 (r), .arr true (false) (.r3 (s.1)), .arr true (false) (.ints .i64 (s.2.1)), .arr true (false) (.ints .i64 (s.2.2)), .arr true (false) (.ints .i64 (b))]] = some [.agg [.int .i64 (r), .arr true (false) (.r3 ((lvS 128 s).1)), .arr true (false) (.ints .i64 ((lvS 128 s).2.1)), .arr true (false) (.ints .i64 ((lvS 128 s).2.2)), .arr true (false) (.ints .i64 (b))]] := by
  rw [qgv]
  have L := U.len
  have eT := qcw (k + 4) (by omega) r false s.1 (by omega) (qlg _ _ _ U.mesh)
  simp (disch := omega) only [eT, qan, nth0, qos]
  exact qkw k hk [] _ _ _ _ _ _ _ _ _ r b 128 _ s (by omega) U (by omega)
end Go.Proofs.YtoldpdhhfmlckaaGreat
end
section
namespace Go.Proofs.YtoldpdhhfmlckaaGreat
open Go.Ev
set_option maxRecDepth 20000
theorem len2 (x y : Int) : List.length [x, y] = 2 := Eq.trans rfl rfl
theorem gd0 (x y : Int) : List.getD [x, y] 0 0 = x := Eq.trans rfl rfl
theorem gd1 (x y : Int) : List.getD [x, y] 1 0 = y := Eq.trans rfl rfl
theorem len1 (x : Int) : List.length [x] = 1 := Eq.trans rfl rfl
theorem len0 : List.length ([] : List Int) = 0 := Eq.trans rfl rfl
theorem gdo (x : Int) : List.getD [x] 0 0 = x := Eq.trans rfl rfl
theorem ton1 : Int.toNat 1 = 1 := Eq.trans rfl rfl
def nb (l : List Cell) (i : Nat) : List Int := if 0 < i then (if i + 1 < l.length then [((i - 1 : Nat) : Int), ((i + 1 : Nat) : Int)] else [((i - 1 : Nat) : Int)]) else (if i + 1 < l.length then [((i + 1 : Nat) : Int)] else [])
theorem qbo (k : Nat) (hk : 2000000 ≤ k) (r : Int) (z : Bool) (l : List Cell) (h : qla r 0 l = true) (i : Nat) (hi : i < l.length) :
    go (k + 3) impl_Mesh_neighbours [.agg [.int .i64 r, .arr false z (.r3 l)], .int .i64 (i : Int)] = some [.arr true false (.ints .i64 (nb l i))] := by
  rw [qep]
  have L := qlf h
  have w1 : IntKind.wrap .i64 ((i : Int) - 1) = (i : Int) - 1 := qpd (by omega) (by omega)
  have w2 : IntKind.wrap .i64 ((i : Int) + 1) = ((i + 1 : Nat) : Int) := by rw [qpd (by omega) (by omega)]; omega
  have w3 : IntKind.wrap .i64 ((0 : Int) + 1) = 1 := by rw [qpd (by omega) (by omega)]; rfl
  have w4 : IntKind.wrap .i64 ((1 : Int) + 1) = 2 := by rw [qpd (by omega) (by omega)]; rfl
  rw [w1, w2, len2]
  have n2 : nI 2 = 2 := Eq.trans rfl rfl
  rw [n2]
  have la : ∀ x : Int, ([] ++ [x] : List Int).length = 1 := fun x => rfl
  have lb : ∀ x y : Int, ([x] ++ [y] : List Int).length = 2 := fun x y => rfl
  have f0 := qid (k + 2) (k + 2 - 1) [] 2 0 z l r false [] false [(i : Int) - 1, ((i + 1 : Nat) : Int)]
  have f1 := fun x => qid (k + 2) (k + 2 - 2) [] 2 1 z l r false x false [(i : Int) - 1, ((i + 1 : Nat) : Int)]
  have f2 := fun x => qid (k + 2) (k + 2 - 3) [] 2 2 z l r false x false [(i : Int) - 1, ((i + 1 : Nat) : Int)]
  rw [show k + 2 - 1 + 1 = k + 2 by omega] at f0
  rw [show k + 2 - 2 + 1 = k + 2 - 1 by omega] at f1
  rw [show k + 2 - 3 + 1 = k + 2 - 2 by omega] at f2
  simp (disch := omega) only [dF, dT, nI, len2, Bool.and_false, bit, big0, qpd, Bool.false_and, qdt] at f2
  unfold nb
  by_cases h0 : 0 < i
  · have b1 : inR ((i : Int) - 1) 0 ((l.length : Int) - 1) = true := qhx.2 (by omega)
    have ci : (i : Int) - 1 = ((i - 1 : Nat) : Int) := by omega
    rw [if_pos h0]
    by_cases h1 : i + 1 < l.length
    · have b2 : inR ((i + 1 : Nat) : Int) 0 ((l.length : Int) - 1) = true := qhx.2 (by omega)
      rw [if_pos h1]
      simp (disch := omega) only [dT, nI, len2, Bool.and_true, ton1, gd1, qbh, b2, bit, big0, w4, Bool.false_and, f2, qan, nth0, qor, qdv] at f1
      simp (disch := omega) only [dT, nI, len2, Bool.and_true, ton0, gd0, qbh, b1, bit, qlm, len1, big0, w3, dF, Bool.and_false, f1, lb, qdv, qan, nth0, qor] at f0
      rw [← ci]; exact f0
    · have b2 : inR ((i + 1 : Nat) : Int) 0 ((l.length : Int) - 1) = false := by rw [← Bool.not_eq_true, qhx]; omega
      rw [if_neg h1]
      simp (disch := omega) only [dT, nI, len2, Bool.and_true, ton1, gd1, qbh, b2, bit, big0, w4, Bool.false_and, f2, qan, nth0, qor, qdt, qdv] at f1
      simp (disch := omega) only [dT, nI, len2, Bool.and_true, ton0, gd0, qbh, b1, bit, qlm, len1, big0, w3, dF, Bool.and_false, f1, qdv, qan, nth0, qor] at f0
      rw [← ci]; exact f0
  · have b1 : inR ((i : Int) - 1) 0 ((l.length : Int) - 1) = false := by rw [← Bool.not_eq_true, qhx]; omega
    rw [if_neg h0]
    by_cases h1 : i + 1 < l.length
    · have b2 : inR ((i + 1 : Nat) : Int) 0 ((l.length : Int) - 1) = true := qhx.2 (by omega)
      rw [if_pos h1]
      simp (disch := omega) only [dT, nI, len2, Bool.and_true, ton1, gd1, qbh, b2, bit, big0, w4, Bool.false_and, f2, qan, nth0, qor, qdv] at f1
      have f1' := f1 []
      simp (disch := omega) only [qlm, len1, dT, qdv] at f1'
      simp (disch := omega) only [dT, nI, len2, Bool.and_true, ton0, gd0, qbh, b1, bit, qlm, big0, w3, Bool.false_and, f1', qan, nth0, qor, qdt, qdv] at f0
      exact f0
    · have b2 : inR ((i + 1 : Nat) : Int) 0 ((l.length : Int) - 1) = false := by rw [← Bool.not_eq_true, qhx]; omega
      rw [if_neg h1]
      simp (disch := omega) only [dT, nI, len2, Bool.and_true, ton1, gd1, qbh, b2, bit, big0, w4, Bool.false_and, f2, qan, nth0, qor, qdt, qdv] at f1
      simp (disch := omega) only [dT, nI, len2, Bool.and_true, ton0, gd0, qbh, b1, bit, qlm, big0, w3, Bool.false_and, f1, qan, nth0, qor, qdt, qdv] at f0
      exact f0
def jmp (l : List Cell) (m b : List Int) (i : Nat) : Int := max (if 0 < i then gap (surf l m b i) (surf l m b (i - 1)) else 0) (if i + 1 < l.length then gap (surf l m b i) (surf l m b (i + 1)) else 0)
theorem qhm (a b : Int) : 0 ≤ gap a b := by unfold gap; split <;> omega
theorem qhl (a b : Int) : max (0 - (a - b)) (a - b) = gap a b := by unfold gap; split <;> omega
theorem qc9 (k : Nat) (hk : 2000000 ≤ k) (r : Int) (z1 z2 z3 z4 : Bool) (l : List Cell) (m t b : List Int) (F : StF r l m t b) (i : Nat) (hi : i < l.length) :
    go (k + 2) spec_l16Jump [.agg [.int .i64 (r), .arr false (z1) (.r3 (l)), .arr false (z2) (.ints .i64 (m)), .arr false (z3) (.ints .i64 (t)), .arr false (z4) (.ints .i64 (b))], .int .i64 (i : Int)] = some [.int .i64 (jmp l m b i)] := by
  rw [qg1]
  have L := F.len; have ml := F.ml
  have s0 := qoi F i; have s1 := qoi F (i - 1); have s2 := qoi F (i + 1)
  have g1 := qhm (surf l m b i) (surf l m b (i - 1)); have g2 := qhm (surf l m b i) (surf l m b (i + 1))
  have e0 := qc7 k (by omega) r z1 z2 z3 z4 l m t b F i hi
  unfold jmp
  by_cases h0 : 0 < i
  · have ci : (i : Int) - 1 = ((i - 1 : Nat) : Int) := by omega
    have e1 := qc7 k (by omega) r z1 z2 z3 z4 l m t b F (i - 1) (by omega)
    rw [if_pos h0]
    by_cases h1 : i + 1 < l.length
    · have e2 := qc7 k (by omega) r z1 z2 z3 z4 l m t b F (i + 1) (by omega)
      rw [if_pos h1]
      simp (disch := omega) only [dT, e0, ci, qpd, e1, qdg, nI, e2, imax, qan, nth0, qos, qc6, qdv]
      rw [show ∀ x y : Int, max x y = max y x from fun x y => by omega]
    · rw [if_neg h1]
      simp (disch := omega) only [dT, e0, ci, qpd, e1, qdg, nI, dF, imax, qan, nth0, qos, qdt, qc6, qdv]
      rw [show max (gap (surf l m b i) (surf l m b (i - 1))) 0 = gap (surf l m b i) (surf l m b (i - 1)) by omega]
  · rw [if_neg h0]
    by_cases h1 : i + 1 < l.length
    · have e2 := qc7 k (by omega) r z1 z2 z3 z4 l m t b F (i + 1) (by omega)
      rw [if_pos h1]
      simp (disch := omega) only [dF, e0, qpd, qdg, nI, dT, e2, imax, qan, nth0, qos, qc6, qdv, qdt]
      rw [show ∀ x y : Int, max x y = max y x from fun x y => by omega]
    · rw [if_neg h1]
      simp (disch := omega) only [dF, qpd, qdg, nI, imax, qdt]
      rfl
set_option maxHeartbeats 4000000 in
theorem qbm (k : Nat) (hk : 2000000 ≤ k) (r : Int) (z1 z2 z3 z4 : Bool) (l : List Cell) (m t b : List Int) (F : StF r l m t b) (i : Nat) (hi : i < l.length) :
    go (k + 4) impl_State_jump [.agg [.int .i64 (r), .arr false (z1) (.r3 (l)), .arr false (z2) (.ints .i64 (m)), .arr false (z3) (.ints .i64 (t)), .arr false (z4) (.ints .i64 (b))], .int .i64 (i : Int)] = some [.int .i64 (jmp l m b i)] := by
  rw [qe3]
  have L := F.len; have ml := F.ml
  have s0 := qoi F i; have s1 := qoi F (i - 1); have s2 := qoi F (i + 1)
  have g1 := qhm (surf l m b i) (surf l m b (i - 1)); have g2 := qhm (surf l m b i) (surf l m b (i + 1))
  have e0 := qbr (k + 2) (by omega) r z1 z2 z3 z4 l m t b F i hi
  have eN := qbo k (by omega) r z1 l F.mesh i hi
  have w3 : IntKind.wrap .i64 ((0 : Int) + 1) = 1 := by rw [qpd (by omega) (by omega)]; rfl
  have w4 : IntKind.wrap .i64 ((1 : Int) + 1) = 2 := by rw [qpd (by omega) (by omega)]; rfl
  have n2 : ((2 : Nat) : Int) = 2 := Eq.trans rfl rfl
  have n1 : ((1 : Nat) : Int) = 1 := Eq.trans rfl rfl
  have n0 : ((0 : Nat) : Int) = 0 := Eq.trans rfl rfl
  unfold jmp
  simp (disch := omega) only [eN, nI, qan, nth0, qhy, qln]
  unfold nb
  by_cases h0 : 0 < i
  · have e1 := qbr (k + 2) (by omega) r z1 z2 z3 z4 l m t b F (i - 1) (by omega)
    rw [if_pos h0, if_pos h0]
    by_cases h1 : i + 1 < l.length
    · have e2 := qbr (k + 2) (by omega) r z1 z2 z3 z4 l m t b F (i + 1) (by omega)
      rw [if_pos h1, if_pos h1]
      have f0 := fun y => qij (k + 3) (k + 3 - 1) [] (i : Int) y 2 0 z1 l z2 m z3 t z4 b r false [((i - 1 : Nat) : Int), ((i + 1 : Nat) : Int)]
      have f1 := fun y => qij (k + 3) (k + 3 - 2) [] (i : Int) y 2 1 z1 l z2 m z3 t z4 b r false [((i - 1 : Nat) : Int), ((i + 1 : Nat) : Int)]
      have f2 := fun y => qij (k + 3) (k + 3 - 3) [] (i : Int) y 2 2 z1 l z2 m z3 t z4 b r false [((i - 1 : Nat) : Int), ((i + 1 : Nat) : Int)]
      rw [show k + 3 - 1 + 1 = k + 3 by omega] at f0
      rw [show k + 3 - 2 + 1 = k + 3 - 1 by omega] at f1
      rw [show k + 3 - 3 + 1 = k + 3 - 2 by omega] at f2
      simp (disch := omega) only [dF, dT, nI, len2, Bool.and_false, imax, qpd, qdt] at f2
      simp (disch := omega) only [dT, nI, len2, Bool.and_true, e0, ton1, gd1, e2, imax, w4, f2, qan, nth0, qos, qpd, qa9, qhl, qdv] at f1
      simp (disch := omega) only [dT, nI, len2, Bool.and_true, e0, ton0, gd0, e1, imax, w3, f1, qan, nth0, qos, qpd, qa9, qhl, qdv] at f0
      rw [len2, n2, f0, show ∀ x y : Int, 0 ≤ x → max y (max x 0) = max x y from fun x y h => by omega]
      exact g1
    · rw [if_neg h1, if_neg h1]
      have f0 := fun y => qij (k + 3) (k + 3 - 1) [] (i : Int) y 1 0 z1 l z2 m z3 t z4 b r false [((i - 1 : Nat) : Int)]
      have f1 := fun y => qij (k + 3) (k + 3 - 2) [] (i : Int) y 1 1 z1 l z2 m z3 t z4 b r false [((i - 1 : Nat) : Int)]
      rw [show k + 3 - 1 + 1 = k + 3 by omega] at f0
      rw [show k + 3 - 2 + 1 = k + 3 - 1 by omega] at f1
      simp (disch := omega) only [dF, dT, nI, len1, Bool.and_false, imax, qpd, qdt] at f1
      simp (disch := omega) only [dT, nI, len1, Bool.and_true, e0, ton0, gdo, e1, imax, w3, f1, qan, nth0, qos, qpd, qa9, qhl, qdv] at f0
      rw [len1, n1, f0]
  · rw [if_neg h0, if_neg h0]
    by_cases h1 : i + 1 < l.length
    · have e2 := qbr (k + 2) (by omega) r z1 z2 z3 z4 l m t b F (i + 1) (by omega)
      rw [if_pos h1, if_pos h1]
      have f0 := fun y => qij (k + 3) (k + 3 - 1) [] (i : Int) y 1 0 z1 l z2 m z3 t z4 b r false [((i + 1 : Nat) : Int)]
      have f1 := fun y => qij (k + 3) (k + 3 - 2) [] (i : Int) y 1 1 z1 l z2 m z3 t z4 b r false [((i + 1 : Nat) : Int)]
      rw [show k + 3 - 1 + 1 = k + 3 by omega] at f0
      rw [show k + 3 - 2 + 1 = k + 3 - 1 by omega] at f1
      simp (disch := omega) only [dF, dT, nI, len1, Bool.and_false, imax, qpd, qdt] at f1
      simp (disch := omega) only [dT, nI, len1, Bool.and_true, e0, ton0, gdo, e2, imax, w3, f1, qan, nth0, qos, qpd, qa9, qhl, qdv] at f0
      rw [len1, n1, f0, show ∀ x : Int, max x 0 = max 0 x from fun x => by omega]
    · rw [if_neg h1, if_neg h1]
      have f0 := fun y => qij (k + 3) (k + 3 - 1) [] (i : Int) y 0 0 z1 l z2 m z3 t z4 b r false []
      rw [show k + 3 - 1 + 1 = k + 3 by omega] at f0
      simp (disch := omega) only [dF, dT, nI, len0, Bool.and_false, imax, qpd, qdt] at f0
      rw [len0, n0, f0]
      rfl
def wsh (l : List Cell) (m b : List Int) (hi lo : Int) (i : Nat) : Int := if hi < jmp l m b i ∧ qjk l i < 4 then 1 else if jmp l m b i < lo ∧ 0 < qjk l i then -1 else 0
theorem qon (n : Nat) (g : Nat → Int) : tab (n + 1) g = tab n g ++ [g n] := by
  unfold tab; rw [List.range_succ, List.map_append]; rfl
theorem qh8 {r : Int} {l : List Cell} {m t b : List Int} (F : StF r l m t b) (i : Nat) : 0 ≤ jmp l m b i ∧ jmp l m b i ≤ 161000000 := by
  have s0 := qoi F i; have s1 := qoi F (i - 1); have s2 := qoi F (i + 1)
  unfold jmp gap
  by_cases h0 : 0 < i
  · rw [if_pos h0]
    by_cases h1 : i + 1 < l.length
    · rw [if_pos h1]; omega
    · rw [if_neg h1]; omega
  · rw [if_neg h0]
    by_cases h1 : i + 1 < l.length
    · rw [if_pos h1]; omega
    · rw [if_neg h1]; omega
theorem qkn (k : Nat) (hk : 2000000 ≤ k) (fu : List (Nat × Nat)) (hi lo r : Int) (z1 z2 z3 z4 : Bool) (l : List Cell) (m t b : List Int) (F : StF r l m t b) : ∀ (N i : Nat), i ≤ l.length → l.length - i < N →
    lp (k + 2) spec_l16Wishes [] fu 3 (N) (qnk hi lo (i : Int) z1 l z2 m z3 t z4 b r false (tab i (wsh l m b hi lo))) = some [.arr true false (.ints .i64 (tab l.length (wsh l m b hi lo)))]
  | 0, i, hl, hN => by omega
  | N + 1, i, hl, hN => by
    rw [qje]
    have L := F.len; have ml := F.ml
    by_cases g : i < l.length
    · have IH := qkn k hk fu hi lo r z1 z2 z3 z4 l m t b F N (i + 1) (by omega) (by omega)
      have eJ := qc9 k (by omega) r z1 z2 z3 z4 l m t b F i g
      have la : ∀ x : Int, (tab i (wsh l m b hi lo) ++ [x]).length = i + 1 := fun x => by rw [List.length_append, qom]; rfl
      rw [qon] at IH
      have jb := qh8 F i
      simp only [wsh, qjk] at IH
      by_cases h1 : hi < jmp l m b i
      · by_cases h2 : (l.getD i zz3).2.1 < 4
        · rw [if_pos ⟨h1, h2⟩] at IH; simp (disch := omega) only [nI, dT, eJ, Bool.and_true, Int.toNat_natCast, la, big0, qdg, qpd, dF, Bool.and_false, IH, qdv, qan, nth0, qos]
        · rw [if_neg (fun h => h2 h.2)] at IH
          by_cases h3 : jmp l m b i < lo
          · have h4 : 0 < (l.getD i zz3).2.1 := by omega
            rw [if_pos ⟨h3, h4⟩] at IH; simp (disch := omega) only [nI, dT, eJ, Bool.and_true, Int.toNat_natCast, dF, la, big0, qdg, qpd, Bool.and_false, qdv, IH, qdt, qan, nth0, qos]
          · rw [if_neg (fun h => h3 h.1)] at IH; simp (disch := omega) only [nI, dT, eJ, Bool.and_true, Int.toNat_natCast, dF, la, big0, qdg, qpd, Bool.and_false, qdv, IH, qdt, qan, nth0, qos]
      · rw [if_neg (fun h => h1 h.1)] at IH
        by_cases h3 : jmp l m b i < lo
        · by_cases h4 : 0 < (l.getD i zz3).2.1
          · rw [if_pos ⟨h3, h4⟩] at IH; simp (disch := omega) only [nI, dT, eJ, Bool.and_true, Int.toNat_natCast, la, big0, qdg, qpd, dF, Bool.and_false, qdv, IH, qan, nth0, qos, qdt]
          · rw [if_neg (fun h => h4 h.2)] at IH; simp (disch := omega) only [nI, dT, eJ, Bool.and_true, Int.toNat_natCast, la, big0, qdg, qpd, dF, Bool.and_false, qdv, IH, qdt, qan, nth0, qos]
        · rw [if_neg (fun h => h3 h.1)] at IH; simp (disch := omega) only [nI, dT, eJ, Bool.and_true, Int.toNat_natCast, la, big0, qdg, qpd, dF, Bool.and_false, qdv, IH, qan, nth0, qos, qdt]
    · simp (disch := omega) only [nI, dF, dT, Bool.and_false, Int.toNat_natCast, big0, qdg, qpd, Bool.false_and, qdt]
      rw [show i = l.length by omega]
theorem qjz (k : Nat) (hk : 2000000 ≤ k) (fu : List (Nat × Nat)) (hi lo r : Int) (z1 z2 z3 z4 : Bool) (l : List Cell) (m t b : List Int) (F : StF r l m t b) : ∀ (N i : Nat), i ≤ l.length → l.length - i < N →
    lp (k + 8) impl_Wishes [] fu 5 (N) (qmr hi lo (l.length : Int) (i : Int) z1 l z2 m z3 t z4 b r false (tab i (wsh l m b hi lo))) = some [.arr true false (.ints .i64 (tab l.length (wsh l m b hi lo)))]
  | 0, i, hl, hN => by omega
  | N + 1, i, hl, hN => by
    rw [qil]
    have L := F.len; have ml := F.ml
    by_cases g : i < l.length
    · have IH := qjz k hk fu hi lo r z1 z2 z3 z4 l m t b F N (i + 1) (by omega) (by omega)
      have eJ := qbm (k + 4) (by omega) r z1 z2 z3 z4 l m t b F i g
      have la : ∀ x : Int, (tab i (wsh l m b hi lo) ++ [x]).length = i + 1 := fun x => by rw [List.length_append, qom]; rfl
      rw [qon] at IH
      have jb := qh8 F i
      simp only [wsh, qjk] at IH
      by_cases h1 : hi < jmp l m b i
      · by_cases h2 : (l.getD i zz3).2.1 < 4
        · rw [if_pos ⟨h1, h2⟩] at IH; simp (disch := omega) only [dT, nI, Bool.and_true, eJ, Int.toNat_natCast, la, big0, qdg, qpd, dF, Bool.and_false, IH, qdv, qan, nth0, qos]
        · rw [if_neg (fun h => h2 h.2)] at IH
          by_cases h3 : jmp l m b i < lo
          · have h4 : 0 < (l.getD i zz3).2.1 := by omega
            rw [if_pos ⟨h3, h4⟩] at IH; simp (disch := omega) only [dT, nI, Bool.and_true, eJ, Int.toNat_natCast, dF, la, big0, qdg, qpd, Bool.and_false, qdv, IH, qdt, qan, nth0, qos]
          · rw [if_neg (fun h => h3 h.1)] at IH; simp (disch := omega) only [dT, nI, Bool.and_true, eJ, Int.toNat_natCast, dF, la, big0, qdg, qpd, Bool.and_false, qdv, IH, qdt, qan, nth0, qos]
      · rw [if_neg (fun h => h1 h.1)] at IH
        by_cases h3 : jmp l m b i < lo
        · by_cases h4 : 0 < (l.getD i zz3).2.1
          · rw [if_pos ⟨h3, h4⟩] at IH; simp (disch := omega) only [dT, nI, Bool.and_true, eJ, Int.toNat_natCast, la, big0, qdg, qpd, dF, Bool.and_false, qdv, IH, qan, nth0, qos, qdt]
          · rw [if_neg (fun h => h4 h.2)] at IH; simp (disch := omega) only [dT, nI, Bool.and_true, eJ, Int.toNat_natCast, la, big0, qdg, qpd, dF, Bool.and_false, qdv, IH, qdt, qan, nth0, qos]
        · rw [if_neg (fun h => h3 h.1)] at IH; simp (disch := omega) only [dT, nI, Bool.and_true, eJ, Int.toNat_natCast, la, big0, qdg, qpd, dF, Bool.and_false, qdv, IH, qan, nth0, qos, qdt]
    · simp (disch := omega) only [dF, dT, nI, Bool.and_false, Int.toNat_natCast, big0, qdg, qpd, Bool.false_and, qdt]
      rw [show i = l.length by omega]
theorem qcl (k : Nat) (hk : 2000000 ≤ k) (hi lo r : Int) (z1 z2 z3 z4 : Bool) (l : List Cell) (m t b : List Int) (F : StF r l m t b) :
    go (k + 3) spec_l16Wishes [.agg [.int .i64 (r), .arr false (z1) (.r3 (l)), .arr false (z2) (.ints .i64 (m)), .arr false (z3) (.ints .i64 (t)), .arr false (z4) (.ints .i64 (b))], .int .i64 hi, .int .i64 lo] = some [.arr true false (.ints .i64 (tab l.length (wsh l m b hi lo)))] := by
  rw [qg2]
  have L := F.len
  exact qkn k hk [] hi lo r z1 z2 z3 z4 l m t b F _ 0 (by omega) (by omega)
theorem qa7 (k : Nat) (hk : 2000000 ≤ k) (hi lo r : Int) (z1 z2 z3 z4 : Bool) (l : List Cell) (m t b : List Int) (F : StF r l m t b) :
    go (k + 9) impl_Wishes [.agg [.int .i64 (r), .arr false (z1) (.r3 (l)), .arr false (z2) (.ints .i64 (m)), .arr false (z3) (.ints .i64 (t)), .arr false (z4) (.ints .i64 (b))], .int .i64 hi, .int .i64 lo] = some [.arr true false (.ints .i64 (tab l.length (wsh l m b hi lo)))] := by
  rw [qe8]
  have L := F.len; have ml := F.ml; have bl := F.bl; have rr := F.rr
  have g := stF.2 F
  simp (disch := omega) only [qa4, g, bit, nI, qan, nth0, qor, Bool.not_true, qdt]
  exact qjz k hk [] hi lo r z1 z2 z3 z4 l m t b F _ 0 (by omega) (by omega)
end Go.Proofs.YtoldpdhhfmlckaaGreat
end
section
namespace Go.Proofs.YtoldpdhhfmlckaaGreat
open Go.Ev
set_option maxRecDepth 20000
def qjl (x : Cell) : List Cell → Nat → Int
  | [], _ => -1
  | y :: r, i => if y = x then (i : Int) else qjl x r (i + 1)
def lof (l : List Cell) (x : Cell) : Int := qjl x l 0
theorem qkf (k : Nat) (hk : 2000000 ≤ k) (fu : List (Nat × Nat)) (r : Int) (z : Bool) (l : List Cell) (x : Cell) (hl : l.length ≤ 1048576) : ∀ (N i : Nat), i ≤ l.length → l.length - i < N →
    lp k spec_LeafOf [] fu 2 (N) (qm4 (i : Int) z l r x.1 x.2.1 x.2.2) = some [.int .i64 (qjl x (l.drop i) i)]
  | 0, i, hi, hN => by omega
  | N + 1, i, hi, hN => by
    rw [qiy]
    by_cases g : i < l.length
    · have IH := qkf k hk fu r z l x hl N (i + 1) (by omega) (by omega)
      rw [qeb g zz3, qjl]
      by_cases h : l.getD i zz3 = x
      · rw [if_pos h]; simp (disch := omega) only [nI, dT, Bool.and_true, Int.toNat_natCast, h, dTT, qdg, qpd, qdv]
      · rw [if_neg h]
        have : (decide ((l.getD i zz3).1 = x.1) && (decide ((l.getD i zz3).2.1 = x.2.1) && decide ((l.getD i zz3).2.2 = x.2.2))) = false := by
          rw [← Bool.not_eq_true]
          intro e
          simp only [Bool.and_eq_true, decide_eq_true_eq] at e
          exact h (Prod.ext e.1 (Prod.ext e.2.1 e.2.2))
        simp (disch := omega) only [nI, dT, Bool.and_true, Int.toNat_natCast, this, qdg, qpd, IH, qdt, qdv]
    · rw [List.drop_of_length_le (by omega)]; simp (disch := omega) only [nI, dF, dT, Bool.and_false, Int.toNat_natCast, Bool.and_true, qdg, qpd, qdt]; rfl
theorem qcb (k : Nat) (hk : 2000000 ≤ k) (r : Int) (z : Bool) (l : List Cell) (x : Cell) (hl : l.length ≤ 1048576) : go (k + 1) spec_LeafOf [.agg [.int .i64 r, .arr false z (.r3 l)], .agg [.int .i64 x.1, .int .i64 x.2.1, .int .i64 x.2.2]] = some [.int .i64 (lof l x)] := by
  rw [qf2]
  exact qkf k hk [] r z l x hl _ 0 (by omega) (by omega)
theorem qjm (x : Cell) : ∀ (l : List Cell) (i : Nat), (qjl x l i = -1 ∧ x ∉ l) ∨ ∃ j, j < l.length ∧ qjl x l i = ((i + j : Nat) : Int) ∧ l.getD j zz3 = x
  | [], i => Or.inl ⟨rfl, by simp⟩
  | y :: r, i => by
    unfold qjl
    by_cases h : y = x
    · rw [if_pos h]; exact Or.inr ⟨0, by simp, by simp, by simpa using h⟩
    · rw [if_neg h]
      rcases qjm x r (i + 1) with ⟨e, n⟩ | ⟨j, hj, e, n⟩
      · exact Or.inl ⟨e, by simp only [List.mem_cons, not_or]; exact ⟨fun e => h e.symm, n⟩⟩
      · exact Or.inr ⟨j + 1, by simp; omega, by rw [e]; congr 1; omega, by simpa using n⟩
theorem qjn (l : List Cell) (x : Cell) : (lof l x = -1 ∧ x ∉ l) ∨ ∃ j, j < l.length ∧ lof l x = (j : Int) ∧ l.getD j zz3 = x := by
  rcases qjm x l 0 with h | ⟨j, hj, e, n⟩
  · exact Or.inl h
  · exact Or.inr ⟨j, hj, by unfold lof; rw [e, Nat.zero_add], n⟩
theorem qls : ∀ (l : List Cell) (p : Int), okp p l = true → ∀ x ∈ l, p ≤ qob x.1 x.2.1 x.2.2
  | [], p, h, x, hx => by cases hx
  | y :: l, p, h, x, hx => by
    rw [qlr] at h
    rcases List.mem_cons.1 hx with rfl | hx
    · omega
    · have := qls l _ h.2.2 x hx
      have := qo8 y.2.1
      omega
theorem qo9 {x : Cell} (h : idOk x.1 x.2.1 x.2.2 = true) : 1 ≤ qo6 x.2.1 := by
  rcases lev (qhx.2 (qhv.1 h).2.1) with e | e | e | e | e <;> rw [e] <;> decide
theorem qlt : ∀ (l : List Cell) (p : Int), okp p l = true → ∀ i j, i < l.length → j < l.length → l.getD i zz3 = l.getD j zz3 → i = j
  | [], p, h, i, j, hi, hj, e => by simp at hi
  | y :: l, p, h, 0, 0, hi, hj, e => rfl
  | y :: l, p, h, 0, j + 1, hi, hj, e => by
    rw [qlr] at h
    have hj' : j < l.length := by simpa using hj
    have := qls l _ h.2.2 _ (qho hj' zz3)
    have w := qo9 h.1
    simp only [List.getD_cons_zero, List.getD_cons_succ] at e
    rw [← e, h.2.1] at this
    omega
  | y :: l, p, h, i + 1, 0, hi, hj, e => by
    rw [qlr] at h
    have hi' : i < l.length := by simpa using hi
    have := qls l _ h.2.2 _ (qho hi' zz3)
    have w := qo9 h.1
    simp only [List.getD_cons_zero, List.getD_cons_succ] at e
    rw [e, h.2.1] at this
    omega
  | y :: l, p, h, i + 1, j + 1, hi, hj, e => by
    rw [qlr] at h
    have := qlt l _ h.2.2 i j (by simpa using hi) (by simpa using hj) (by simpa using e)
    omega
def Pw (w : List Int) (l0 : List Cell) (x : Cell) : Bool := decide (0 ≤ lof l0 x) && decide (w.getD (lof l0 x).toNat 0 = -1)
theorem qac {w : List Int} {l0 : List Cell} {p : Int} (h : okp p l0 = true) (x : Cell) : Pw w l0 x = true ↔ ∃ j, j < l0.length ∧ w.getD j 0 = -1 ∧ l0.getD j zz3 = x := by
  unfold Pw
  rw [Bool.and_eq_true, decide_eq_true_eq, decide_eq_true_eq]
  rcases qjn l0 x with ⟨e, n⟩ | ⟨j, hj, e, n⟩
  · rw [e]
    refine ⟨fun h => by omega, fun ⟨j, hj, _, hx⟩ => absurd (hx ▸ qho hj zz3) n⟩
  · rw [e, Int.toNat_natCast]
    refine ⟨fun h => ⟨j, hj, h.2, n⟩, fun ⟨q, hq, hw, hx⟩ => ⟨by omega, ?_⟩⟩
    have := qlt l0 p h q j hq hj (by rw [hx, n])
    rw [← this]; exact hw
def ks (w : List Int) (l0 : List Cell) : Nat → List Cell → List Cell
  | 0, acc => acc
  | n + 1, acc => ks w l0 n (if w.getD n 0 = 1 then acc else if w.getD n 0 = -1 then acc ++ [l0.getD n zz3] else acc)
theorem qib (w : List Int) (l0 : List Cell) (x : Cell) : ∀ (n : Nat) (acc : List Cell), x ∈ ks w l0 n acc ↔ x ∈ acc ∨ ∃ j, j < n ∧ w.getD j 0 = -1 ∧ l0.getD j zz3 = x
  | 0, acc => ⟨Or.inl, fun h => h.elim id fun ⟨j, hj, _⟩ => by omega⟩
  | n + 1, acc => by
    rw [ks, qib w l0 x n]
    by_cases h1 : w.getD n 0 = 1
    · rw [if_pos h1]
      refine ⟨fun h => h.imp id fun ⟨j, hj, e⟩ => ⟨j, by omega, e⟩, fun h => h.imp id fun ⟨j, hj, e, e'⟩ => ⟨j, ?_, e, e'⟩⟩
      by_cases hjn : j = n
      · subst hjn; omega
      · omega
    · rw [if_neg h1]
      by_cases h2 : w.getD n 0 = -1
      · rw [if_pos h2, List.mem_append, List.mem_singleton]
        refine ⟨fun h => ?_, fun h => ?_⟩
        · rcases h with (h | h) | ⟨j, hj, e⟩
          · exact Or.inl h
          · exact Or.inr ⟨n, by omega, h2, h.symm⟩
          · exact Or.inr ⟨j, by omega, e⟩
        · rcases h with h | ⟨j, hj, e, e'⟩
          · exact Or.inl (Or.inl h)
          · by_cases hjn : j = n
            · subst hjn; exact Or.inl (Or.inr e'.symm)
            · exact Or.inr ⟨j, by omega, e, e'⟩
      · rw [if_neg h2]
        refine ⟨fun h => h.imp id fun ⟨j, hj, e⟩ => ⟨j, by omega, e⟩, fun h => h.imp id fun ⟨j, hj, e, e'⟩ => ⟨j, ?_, e, e'⟩⟩
        by_cases hjn : j = n
        · subst hjn; exact absurd e h2
        · omega
theorem qhq (l : List Cell) (x : Cell) : hasK l x = true ↔ x ∈ l := by
  unfold hasK
  rw [List.any_eq_true]
  refine ⟨fun ⟨y, hy, e⟩ => ?_, fun h => ⟨x, h, by simp [eqK]⟩⟩
  have : x = y := by
    simp only [eqK, Bool.and_eq_true, beq_iff_eq, decide_eq_true_eq] at e
    exact Prod.ext e.1 (Prod.ext e.2.1 e.2.2)
  rw [this]; exact hy
theorem qhp {w : List Int} {l0 : List Cell} {p : Int} (h : okp p l0 = true) (x : Cell) : hasK (ks w l0 l0.length []) x = Pw w l0 x := by
  rw [Bool.eq_iff_iff, qhq, qib, qac h]
  simp
def adS (w : List Int) (s : S3) : S3 := mgS (Pw w s.1) 128 0 (lvS 128 (spS w s.1.length s))
set_option maxHeartbeats 1000000 in
theorem qkx (k : Nat) (hk : 2000000 ≤ k) (fu : List (Nat × Nat)) (z1 z2 z3 z4 : Bool) (l0 : List Cell) (m0 t0 b0 : List Int) (r0 : Int) (q1 : Bool) (p1 : List Cell) (q2 : Bool) (p2 : List Int) (q3 : Bool) (p3 : List Int) (q4 : Bool) (p4 : List Int) (x18 : Int) (zw : Bool) (w : List Int) (r : Int) (b : List Int) (hl0 : l0.length ≤ 128) (hw : w.length = l0.length) : ∀ (F N i : Nat) (s : S3), s.1.length - i ≤ F → F < N → i + F ≤ 4096 → StU r s b →
    lp (k + 6) spec_l17Adapt [] fu 10 (N) (qnl (i : Int) z1 l0 z2 m0 z3 t0 z4 b0 r0 q1 p1 q2 p2 q3 p3 q4 p4 x18 zw w false s.1 false s.2.1 false s.2.2 false b r) = some [.agg [.int .i64 (r), .arr true (false) (.r3 ((mgS (Pw w l0) F i s).1)), .arr true (false) (.ints .i64 ((mgS (Pw w l0) F i s).2.1)), .arr true (false) (.ints .i64 ((mgS (Pw w l0) F i s).2.2)), .arr true (false) (.ints .i64 (b))]]
  | F, 0, i, s, hF, hN, hi, U => by omega
  | 0, N + 1, i, s, hF, hN, hi, U => by
    rw [qjf]
    have L := U.len; have ml := U.ml; have tl := U.tl
    simp (disch := omega) only [qdg, qpd, nI, dF, dT, Bool.and_false, Int.toNat_natCast, bit, qdt]; rfl
  | F + 1, N + 1, i, s, hF, hN, hi, U => by
    rw [qjf]
    have L := U.len; have ml := U.ml; have tl := U.tl
    unfold mgS
    by_cases g : i + 1 < s.1.length
    · rw [if_pos g]
      have IH0 := qkx k hk fu z1 z2 z3 z4 l0 m0 t0 b0 r0 q1 p1 q2 p2 q3 p3 q4 p4 x18 zw w r b hl0 hw F N (i + 1) s (by omega) (by omega) (by omega) U
      have eX := qcb (k + 5) (by omega) r0 z1 l0 (s.1.getD i zz3) (by omega)
      have eY := qcb (k + 5) (by omega) r0 z1 l0 (s.1.getD (i + 1) zz3) (by omega)
      have eM := qcz (k + 2) (by omega) r false s.1 U.mesh i g
      rcases qjn l0 (s.1.getD i zz3) with ⟨ex, _⟩ | ⟨j, hj, ex, _⟩
      · have pX : Pw w l0 (s.1.getD i zz3) = false := by unfold Pw; rw [ex]; simp
        rw [ex] at eX
        rw [if_neg (by rw [pX]; simp)]
        simp (disch := omega) only [qdg, qpd, nI, dT, Bool.and_true, Int.toNat_natCast, eX, eY, bit, IH0, qan, nth0, qos, qdv, dF, qdt]
      have pX : Pw w l0 (s.1.getD i zz3) = decide (w.getD j 0 = -1) := by unfold Pw; rw [ex]; simp
      rw [ex] at eX
      rcases qjn l0 (s.1.getD (i + 1) zz3) with ⟨ey, _⟩ | ⟨q, hq, ey, _⟩
      · have pY : Pw w l0 (s.1.getD (i + 1) zz3) = false := by unfold Pw; rw [ey]; simp
        rw [ey] at eY
        rw [if_neg (by rw [pY]; simp)]
        simp (disch := omega) only [qdg, qpd, nI, dT, Bool.and_true, Int.toNat_natCast, eX, eY, bit, IH0, qan, nth0, qos, dF, qdt, qdv]
      have pY : Pw w l0 (s.1.getD (i + 1) zz3) = decide (w.getD q 0 = -1) := by unfold Pw; rw [ey]; simp
      rw [ey] at eY
      by_cases h1 : w.getD j 0 = -1
      · by_cases h2 : w.getD q 0 = -1
        · rw [dT h1] at pX
          rw [dT h2] at pY
          cases hm : mayC s.1 i
          · rw [if_neg (by rw [pX, pY]; simp)]
            simp (disch := omega) only [qdg, qpd, nI, dT, Bool.and_true, Int.toNat_natCast, eX, eY, eM, hm, bit, IH0, qan, nth0, qor, qdt, qos, h2, dTT, qdv, h1]
          · have hs := hm
            simp only [mayC, Bool.and_eq_true] at hs
            have sl := qn0 hs.1
            have U' := cm_U U g hs.1
            have ln := qk7 g
            have IH1 := qkx k hk fu z1 z2 z3 z4 l0 m0 t0 b0 r0 q1 p1 q2 p2 q3 p3 q4 p4 x18 zw w r b hl0 hw F N (i + 1) (cmS s i) (by show (qk6 s.1 i).length - (i + 1) ≤ F; omega) (by omega) (by omega) U'
            have eG := qc4 (k + 1) (by omega) r s b U i g sl
            rw [if_pos (by rw [pX, pY]; simp)]
            simp (disch := omega) only [qdg, qpd, nI, dT, Bool.and_true, Int.toNat_natCast, eX, eY, eM, hm, bit, eG, qan, nth0, qdj, qln, qlz, qdk, qhy, qdl, qdm, qdi, qos, IH1, qor, qdv, h2, dTT, h1]
        · rw [dF h2] at pY
          rw [if_neg (by rw [pY]; simp)]
          simp (disch := omega) only [qdg, qpd, nI, dT, Bool.and_true, Int.toNat_natCast, eX, eY, bit, IH0, qan, nth0, qos, h2, dFF, qdt, qdv, h1, dTT]
      · rw [dF h1] at pX
        rw [if_neg (by rw [pX]; simp)]
        simp (disch := omega) only [qdg, qpd, nI, dT, Bool.and_true, Int.toNat_natCast, eX, eY, bit, IH0, qan, nth0, qos, qdv, h1, dFF, qdt]
    · rw [if_neg g]; simp (disch := omega) only [qdg, qpd, nI, dF, dT, Bool.true_and, Int.toNat_natCast, Bool.and_false, bit, qdt]
theorem qky (k : Nat) (hk : 2000000 ≤ k) (fu : List (Nat × Nat)) (z1 z2 z3 z4 : Bool) (l0 : List Cell) (m0 t0 b0 : List Int) (r0 : Int) (q1 : Bool) (p1 : List Cell) (q2 : Bool) (p2 : List Int) (q3 : Bool) (p3 : List Int) (q4 : Bool) (p4 : List Int) (x18 : Int) (zw : Bool) (w : List Int) (r : Int) (b : List Int) (hl0 : l0.length ≤ 128) (hw : w.length = l0.length) (hw1 : ∀ j, w.getD j 0 = 1 → qjk l0 j < 4) : ∀ (N n : Nat) (s : S3), n < N → n ≤ l0.length → n ≤ s.1.length → (∀ j, j < n → s.1.getD j zz3 = l0.getD j zz3) → StU r s b →
    lp (k + 6) spec_l17Adapt [] fu 4 (N) (qnm ((n : Int) - 1) z1 l0 z2 m0 z3 t0 z4 b0 r0 q1 p1 q2 p2 q3 p3 q4 p4 x18 zw w false s.1 false s.2.1 false s.2.2 false b r) = some [.agg [.int .i64 (r), .arr true (false) (.r3 ((mgS (Pw w l0) 128 0 (lvS 128 (spS w n s))).1)), .arr true (false) (.ints .i64 ((mgS (Pw w l0) 128 0 (lvS 128 (spS w n s))).2.1)), .arr true (false) (.ints .i64 ((mgS (Pw w l0) 128 0 (lvS 128 (spS w n s))).2.2)), .arr true (false) (.ints .i64 (b))]]
  | 0, n, s, hN, hn, hs, he, U => by omega
  | N + 1, 0, s, hN, hn, hs, he, U => by
    rw [qjg]
    have L := U.len
    have eL := qde k (by omega) r s b U
    have U' := (qjo 128 s U (by omega)).1
    have L' := U'.len
    have e := qkx k hk fu z1 z2 z3 z4 l0 m0 t0 b0 r0 q1 p1 q2 p2 q3 p3 q4 p4 x18 zw w r b hl0 hw 128 (k + 6) 0 (lvS 128 s) (by omega) (by omega) (by omega) U'
    rw [show ((0 : Nat) : Int) = 0 from rfl] at e ⊢
    simp (disch := omega) only [dF, nI, dT, Bool.and_true, qpd, qdt, eL, qan, nth0, qdj, qln, qlz, qdk, qhy, qdl, qdm, qdi, qos, e]
    rfl
  | N + 1, n + 1, s, hN, hn, hs, he, U => by
    rw [show ((n + 1 : Nat) : Int) - 1 = (n : Int) by omega, qjg]
    have L := U.len
    unfold spS
    by_cases h1 : w.getD n 0 = 1
    · rw [if_pos h1]
      have hl : qjk s.1 n < 4 := by have := hw1 n h1; unfold qjk at *; rw [he n (by omega)]; exact this
      have U' := rf_U U (show n < s.1.length by omega) hl
      have ln := qn4 (show n < s.1.length by omega)
      have IH := qky k hk fu z1 z2 z3 z4 l0 m0 t0 b0 r0 q1 p1 q2 p2 q3 p3 q4 p4 x18 zw w r b hl0 hw hw1 N n (rfS s n) (by omega) (by omega) (by show n ≤ (qn3 s.1 n).length; omega) (fun j hj => by
        show (qn3 s.1 n).getD j zz3 = _
        rw [qn5 (by omega) hj]; exact he j (by omega)) U'
      have eS := qc5 (k + 1) (by omega) r s b U n (by omega) hl
      simp (disch := omega) only [dT, nI, Bool.and_true, Int.toNat_natCast, h1, dTT, eS, qpd, qan, nth0, qdj, qln, qlz, qdk, qhy, qdl, qdm, qdi, qos, IH, qdv]
    · rw [if_neg h1]
      have IH := qky k hk fu z1 z2 z3 z4 l0 m0 t0 b0 r0 q1 p1 q2 p2 q3 p3 q4 p4 x18 zw w r b hl0 hw hw1 N n s (by omega) (by omega) (by omega) (fun j hj => he j (by omega)) U
      simp (disch := omega) only [dT, nI, Bool.and_true, Int.toNat_natCast, dF, qpd, IH, qdt, qdv]
theorem qpf {l : List Cell} {m b : List Int} {hi lo : Int} (j : Nat) (h : (tab l.length (wsh l m b hi lo)).getD j 0 = 1) : qjk l j < 4 := by
  by_cases hj : j < l.length
  · rw [qol hj] at h
    unfold wsh at h
    by_cases c : hi < jmp l m b j ∧ qjk l j < 4
    · exact c.2
    · rw [if_neg c] at h
      split at h <;> omega
  · rw [qhn (by rw [qom]; omega)] at h; omega
theorem qda (k : Nat) (hk : 2000000 ≤ k) (r : Int) (l : List Cell) (m t b : List Int) (F : StF r l m t b) (hi lo : Int) :
    go (k + 7) spec_l17Adapt [.agg [.int .i64 (r), .arr false (false) (.r3 (l)), .arr false (false) (.ints .i64 (m)), .arr false (false) (.ints .i64 (t)), .arr false (false) (.ints .i64 (b))], .int .i64 hi, .int .i64 lo] = some [.agg [.int .i64 (r), .arr true (false) (.r3 ((adS (tab l.length (wsh l m b hi lo)) (l, m, t)).1)), .arr true (false) (.ints .i64 ((adS (tab l.length (wsh l m b hi lo)) (l, m, t)).2.1)), .arr true (false) (.ints .i64 ((adS (tab l.length (wsh l m b hi lo)) (l, m, t)).2.2)), .arr true (false) (.ints .i64 (b))]] := by
  rw [qg3]
  have L := F.len; have ml := F.ml; have tl := F.tl; have bl := F.bl; have rr := F.rr
  have eW := qcl (k + 3) (by omega) hi lo r false false false false l m t b F
  simp (disch := omega) only [eW, qc1, nI, qan, nth0, qdj, qln, qlz, qdk, qhy, qdl, qdm, qdi, qos, qom, qpd]
  exact qky k hk [] false false false false l m t b r true [] true [] true [] true [] 0 false _ r b (by omega) (qom _ _) qpf (k + 6) l.length (l, m, t) (by omega) (by omega) (by show l.length ≤ l.length; omega) (fun j hj => rfl) F.toU
set_option maxHeartbeats 1000000 in
theorem qj3 (k : Nat) (hk : 2000000 ≤ k) (fu : List (Nat × Nat)) (w0 : Int) (v1 : Bool) (w1 : List Cell) (v2 : Bool) (w2 : List Int) (v3 : Bool) (w3 : List Int) (v4 : Bool) (w4 : List Int) (r : Int) (b : List Int) (K : List Cell) (P : Cell → Bool) (hP : ∀ x, hasK K x = P x) : ∀ (F N i : Nat) (s : S3), s.1.length - i ≤ F → F < N → i + F ≤ 4096 → StU r s b →
    lp (k + 9) impl_State_adapt [.ptr true [.int .i64 w0, .arr true v1 (.r3 w1), .arr true v2 (.ints .i64 w2), .arr true v3 (.ints .i64 w3), .arr true v4 (.ints .i64 w4)]] fu 12 N (qml (i : Int) false s.1 false s.2.1 false s.2.2 false b r K) = some [.ptr true [.int .i64 (r), .arr true (false) (.r3 ((mgS P F i s).1)), .arr true (false) (.ints .i64 ((mgS P F i s).2.1)), .arr true (false) (.ints .i64 ((mgS P F i s).2.2)), .arr true (false) (.ints .i64 (b))]]
  | F, 0, i, s, hF, hN, hi, U => by omega
  | 0, N + 1, i, s, hF, hN, hi, U => by
    rw [qif]
    have L := U.len
    simp (disch := omega) only [qdg, qpd, nI, dF, dT, Bool.and_false, Int.toNat_natCast, bit, qdt]; rfl
  | F + 1, N + 1, i, s, hF, hN, hi, U => by
    rw [qif]
    have L := U.len; have ml := U.ml; have tl := U.tl
    unfold mgS
    by_cases g : i + 1 < s.1.length
    · rw [if_pos g]
      have IH0 := qj3 k hk fu w0 v1 w1 v2 w2 v3 w3 v4 w4 r b K P hP F N (i + 1) s (by omega) (by omega) (by omega) U
      have eM := qbn (k + 3) (by omega) r false s.1 U.mesh i g
      have hx := hP (s.1.getD i zz3); have hy := hP (s.1.getD (i + 1) zz3)
      cases p1 : P (s.1.getD i zz3)
      · rw [p1] at hx
        rw [if_neg (by simp)]
        simp (disch := omega) only [qdg, qpd, nI, dT, Bool.and_true, Int.toNat_natCast, hx, bit, IH0, qdv, qdt]
      rw [p1] at hx
      cases p2 : P (s.1.getD (i + 1) zz3)
      · rw [p2] at hy
        rw [if_neg (by simp)]
        simp (disch := omega) only [qdg, qpd, nI, dT, Bool.and_true, Int.toNat_natCast, hx, hy, bit, IH0, qdt, qdv]
      rw [p2] at hy
      cases hm : mayC s.1 i
      · rw [if_neg (by simp)]
        simp (disch := omega) only [qdg, qpd, nI, dT, Bool.and_true, Int.toNat_natCast, hx, hy, eM, hm, bit, IH0, qan, nth0, qor, qdt, qdv]
      · have hs := hm
        simp only [mayC, Bool.and_eq_true] at hs
        have sl := qn0 hs.1
        have U' := cm_U U g hs.1
        have ln := qk7 g
        have IH1 := qj3 k hk fu w0 v1 w1 v2 w2 v3 w3 v4 w4 r b K P hP F N (i + 1) (cmS s i) (by show (qk6 s.1 i).length - (i + 1) ≤ F; omega) (by omega) (by omega) U'
        have eG := qbc (k + 3) (by omega) r s b U i g sl
        rw [if_pos (show (true && (true && true)) = true from rfl)]
        simp (disch := omega) only [qdg, qpd, nI, dT, Bool.and_true, Int.toNat_natCast, hx, hy, eM, hm, bit, eG, qan, nth0, qlx, qln, qlz, qly, qhy, qoz, qo0, qlw, qos, IH1, qor, qdv]
    · rw [if_neg g]; simp (disch := omega) only [qdg, qpd, nI, dF, dT, Bool.true_and, Int.toNat_natCast, Bool.and_false, bit, qdt]
theorem qj4 (k : Nat) (hk : 2000000 ≤ k) (fu : List (Nat × Nat)) (w0 : Int) (v1 : Bool) (w1 : List Cell) (v2 : Bool) (w2 : List Int) (v3 : Bool) (w3 : List Int) (v4 : Bool) (w4 : List Int) (r : Int) (b : List Int) (l0 : List Cell) (zw : Bool) (w : List Int) (P : Cell → Bool) (hl0 : l0.length ≤ 128) (hw : w.length = l0.length) (hw1 : ∀ j, w.getD j 0 = 1 → qjk l0 j < 4) : ∀ (N n : Nat) (s : S3) (acc : List Cell), n < N → n ≤ l0.length → n ≤ s.1.length → (∀ j, j < n → s.1.getD j zz3 = l0.getD j zz3) → StU r s b → (∀ x, hasK (ks w l0 n acc) x = P x) →
    lp (k + 9) impl_State_adapt [.ptr true [.int .i64 w0, .arr true v1 (.r3 w1), .arr true v2 (.ints .i64 w2), .arr true v3 (.ints .i64 w3), .arr true v4 (.ints .i64 w4)]] fu 3 N (qmm ((n : Int) - 1) false s.1 false s.2.1 false s.2.2 false b r zw w acc) = some [.ptr true [.int .i64 (r), .arr true (false) (.r3 ((mgS P 128 0 (lvS 128 (spS w n s))).1)), .arr true (false) (.ints .i64 ((mgS P 128 0 (lvS 128 (spS w n s))).2.1)), .arr true (false) (.ints .i64 ((mgS P 128 0 (lvS 128 (spS w n s))).2.2)), .arr true (false) (.ints .i64 (b))]]
  | 0, n, s, acc, hN, hn, hs, he, U, hK => by omega
  | N + 1, 0, s, acc, hN, hn, hs, he, U, hK => by
    rw [qig]
    have L := U.len
    have eL := qbb (k + 5) (by omega) r s b U
    have U' := (qjo 128 s U (by omega)).1
    have L' := U'.len
    have e := qj3 k hk fu w0 v1 w1 v2 w2 v3 w3 v4 w4 r b acc P hK 128 (k + 9) 0 (lvS 128 s) (by omega) (by omega) (by omega) U'
    rw [show ((0 : Nat) : Int) = 0 from rfl] at e ⊢
    simp (disch := omega) only [dF, nI, dT, Bool.and_true, qpd, qdt, eL, qan, nth0, qlx, qln, qlz, qly, qhy, qoz, qo0, qlw, qos, e]
    rfl
  | N + 1, n + 1, s, acc, hN, hn, hs, he, U, hK => by
    rw [show ((n + 1 : Nat) : Int) - 1 = (n : Int) by omega, qig]
    have L := U.len
    unfold spS
    unfold ks at hK
    by_cases h1 : w.getD n 0 = 1
    · rw [if_pos h1]
      rw [if_pos h1] at hK
      have hl : qjk s.1 n < 4 := by have := hw1 n h1; unfold qjk at *; rw [he n (by omega)]; exact this
      have U' := rf_U U (show n < s.1.length by omega) hl
      have ln := qn4 (show n < s.1.length by omega)
      have IH := qj4 k hk fu w0 v1 w1 v2 w2 v3 w3 v4 w4 r b l0 zw w P hl0 hw hw1 N n (rfS s n) acc (by omega) (by omega) (by show n ≤ (qn3 s.1 n).length; omega) (fun j hj => by
        show (qn3 s.1 n).getD j zz3 = _
        rw [qn5 (by omega) hj]; exact he j (by omega)) U' hK
      have eS := qbp (k + 6) (by omega) r s b U n (by omega) hl
      simp (disch := omega) only [dT, nI, Bool.and_true, Int.toNat_natCast, h1, dTT, eS, qpd, qan, nth0, qlx, qln, qlz, qly, qhy, qoz, qo0, qlw, qos, IH, dF, qdv, qdt]
    · rw [if_neg h1]
      rw [if_neg h1] at hK
      by_cases h2 : w.getD n 0 = -1
      · rw [if_pos h2] at hK
        have IH := qj4 k hk fu w0 v1 w1 v2 w2 v3 w3 v4 w4 r b l0 zw w P hl0 hw hw1 N n s _ (by omega) (by omega) (by omega) (fun j hj => he j (by omega)) U hK
        have hen := he n (by omega)
        simp (disch := omega) only [dT, nI, Bool.and_true, Int.toNat_natCast, h2, dF, qpd, dTT, hen, IH, qdv, qdt]
      · rw [if_neg h2] at hK
        have IH := qj4 k hk fu w0 v1 w1 v2 w2 v3 w3 v4 w4 r b l0 zw w P hl0 hw hw1 N n s acc (by omega) (by omega) (by omega) (fun j hj => he j (by omega)) U hK
        simp (disch := omega) only [dT, nI, Bool.and_true, Int.toNat_natCast, dF, qpd, qdv, IH, qdt]
theorem qba (k : Nat) (hk : 2000000 ≤ k) (r : Int) (l : List Cell) (m t b : List Int) (F : StF r l m t b) (hi lo : Int) :
    go (k + 10) impl_State_adapt [.ptr true [.int .i64 (r), .arr true (false) (.r3 (l)), .arr true (false) (.ints .i64 (m)), .arr true (false) (.ints .i64 (t)), .arr true (false) (.ints .i64 (b))], .int .i64 hi, .int .i64 lo] = some [.ptr true [.int .i64 (r), .arr true (false) (.r3 ((adS (tab l.length (wsh l m b hi lo)) (l, m, t)).1)), .arr true (false) (.ints .i64 ((adS (tab l.length (wsh l m b hi lo)) (l, m, t)).2.1)), .arr true (false) (.ints .i64 ((adS (tab l.length (wsh l m b hi lo)) (l, m, t)).2.2)), .arr true (false) (.ints .i64 (b))]] := by
  rw [qey]
  have L := F.len; have ml := F.ml; have tl := F.tl; have bl := F.bl; have rr := F.rr
  have eW := qa7 k (by omega) hi lo r false false false false l m t b F
  simp (disch := omega) only [eW, nI, qan, nth0, qhy, qom, qpd, qln]
  have hP := qhp (w := tab l.length (wsh l m b hi lo)) (qlc.1 F.mesh).1
  exact qj4 k hk [] _ _ _ _ _ _ _ _ _ r b l false _ _ (by omega) (qom _ _) qpf (k + 9) l.length (l, m, t) [] (by omega) (by omega) (by show l.length ≤ l.length; omega) (fun j hj => rfl) F.toU hP
theorem qat (k : Nat) (hk : 2000000 ≤ k) (r : Int) (l : List Cell) (m t b : List Int) (F : StF r l m t b) (hi lo : Int) :
    go (k + 11) impl_AdaptState [.agg [.int .i64 (r), .arr false (false) (.r3 (l)), .arr false (false) (.ints .i64 (m)), .arr false (false) (.ints .i64 (t)), .arr false (false) (.ints .i64 (b))], .int .i64 hi, .int .i64 lo] = some [.agg [.int .i64 (r), .arr true (false) (.r3 ((adS (tab l.length (wsh l m b hi lo)) (l, m, t)).1)), .arr true (false) (.ints .i64 ((adS (tab l.length (wsh l m b hi lo)) (l, m, t)).2.1)), .arr true (false) (.ints .i64 ((adS (tab l.length (wsh l m b hi lo)) (l, m, t)).2.2)), .arr true (false) (.ints .i64 (b))]] := by
  rw [qee]
  have L := F.len; have ml := F.ml; have tl := F.tl; have bl := F.bl; have rr := F.rr
  have g := stF.2 F
  have eA := qba k (by omega) r l m t b F hi lo
  simp (disch := omega) only [qbe, qa4, g, bit, qan, nth0, qor, qdv, qdi, qos, qdj, qln, qlz, qdk, qhy, qdl, qdm, eA, qlw, qlx, qly, qoz, qo0]
theorem ad_U {r : Int} {l : List Cell} {m t b : List Int} (F : StF r l m t b) (hi lo : Int) : StF r (adS (tab l.length (wsh l m b hi lo)) (l, m, t)).1 (adS (tab l.length (wsh l m b hi lo)) (l, m, t)).2.1 (adS (tab l.length (wsh l m b hi lo)) (l, m, t)).2.2 b := by
  have U := qn1 (tab l.length (wsh l m b hi lo)) l qpf l.length (l, m, t) F.toU (Nat.le_refl _) (fun j hj => rfl)
  have V := qjo 128 _ U (by have := U.len; omega)
  exact (qli _ 128 0 _ V.1).toF (qlk _ 128 0 _ V.2)
end Go.Proofs.YtoldpdhhfmlckaaGreat
end
section
namespace Go.Proofs.YtoldpdhhfmlckaaGreat
open Go.Ev
structure Ld where
  mi : Int
  mo : Int
  ti : Int
  ou : Int
def Ld.add (a b : Ld) : Ld := ⟨a.mi + b.mi, a.mo + b.mo, a.ti + b.ti, a.ou + b.ou⟩
section
variable {r : Int} {l : List Cell} {m t b : List Int}
end
section
variable {r : Int} {l : List Cell} {m t b : List Int}
end
end Go.Proofs.YtoldpdhhfmlckaaGreat
end
section
namespace Go.Proofs.YtoldpdhhfmlckaaGreat
open Go.Ev
def qnj (x0 x1 : Int) (z2 : Bool) (l3 : List (Int × Int × Int)) (x4 : Int) : St := ⟨fill 21 [(1, (.ptr 1 (0) (0))), (3, (.int .i64 (x0))), (4, (.int .i64 (x1)))], [], [(.arr false (z2) (.r3 (l3))), (.box true [(.int .i64 (x4)), (.sl 0 none)])]⟩
theorem qg0 (k : Nat) (a0 : Int) (a1z : Bool) (a1 : List (Int × Int × Int)) : go (k + 1) spec_l16Cost [(.agg [(.int .i64 (a0)), (.arr false (a1z) (.r3 (a1)))])] =
 lp k spec_l16Cost [] [] 3 k (qnj (0 : Int) (0 : Int) a1z a1 a0) := by kernel_rfl
theorem qjd (k n : Nat) (fu : List (Nat × Nat)) (x0 x1 : Int) (z2 : Bool) (l3 : List (Int × Int × Int)) (x4 : Int) : lp k spec_l16Cost [] fu 3 (n + 1) (qnj x0 x1 z2 l3 x4) =
 cond (decide (IntKind.wrap .i64 (x1 + (1 : Int)) < nI (List.length l3)))
 ((go k spec_l05Face [(.agg [(.int .i64 (x4)), (.arr false (z2) (.r3 (l3)))]), (.int .i64 (x1))]).bind fun r0 =>
 cond (decide ((0 : Int) ≤ IntKind.wrap IntKind.u64 (D.toInt (nth r0 0))))
 (lp k spec_l16Cost [] fu 3 n (qnj (IntKind.wrap .i64 (x0 + IntKind.wrap .i64 ((1 : Int) * (2 : Int) ^ shiftN .i64 (IntKind.wrap IntKind.u64 (D.toInt (nth r0 0)))))) (IntKind.wrap .i64 (x1 + (1 : Int))) z2 l3 x4))
 (none))
 (some [(.int .i64 (x0))]) := by kernel_rfl
end Go.Proofs.YtoldpdhhfmlckaaGreat
end
section
namespace Go.Proofs.YtoldpdhhfmlckaaGreat
open Go.Ev
set_option maxRecDepth 20000
def qhh (l : List Cell) (i : Nat) : Int := pow2 (qhf l i)
def cost (l : List Cell) : Int := qoh (qhh l) (l.length - 1)
theorem qhi {l : List Cell} (h : qaa l) (i : Nat) : 1 ≤ qhh l i ∧ qhh l i ≤ 16 := qlv (qhg h i)
theorem qd1 {l : List Cell} (h : qaa l) : ∀ n : Nat, 0 ≤ qoh (qhh l) n ∧ qoh (qhh l) n ≤ 16 * n
  | 0 => by simp [qoh]
  | n + 1 => by have := qd1 h n; have := qhi h n; simp only [qoh]; omega
theorem qlh {r : Int} {l : List Cell} (h : qla r 0 l = true) : qaa l := fun i => by
  by_cases hi : i < l.length
  · exact (qhv.1 ((qle _ _ _ h).2.2.2.1 _ hi).2.2).2.1
  · unfold qjk; rw [qhn (by omega)]; decide
theorem qka (k : Nat) (hk : 2000000 ≤ k) (fu : List (Nat × Nat)) (z : Bool) (r : Int) (l : List Cell) (hl : 1 ≤ l.length ∧ l.length ≤ 128) (hv : qaa l) : ∀ (N i : Nat), i + 1 ≤ l.length → l.length - i < N →
    lp (k + 1) spec_l16Cost [] fu 3 (N) (qnj (qoh (qhh l) i) (i : Int) z l r) = some [.int .i64 (cost l)]
  | 0, i, hi, hN => by omega
  | N + 1, i, hi, hN => by
    rw [qjd]
    have c := qd1 hv i; have f := qhi hv i
    have fi := qhx.1 (qhg hv i)
    by_cases g : i + 1 < l.length
    · have IH := qka k hk fu z r l hl hv N (i + 1) (by omega) (by omega)
      rw [show qoh (qhh l) (i + 1) = qoh (qhh l) i + qhh l i from rfl] at IH
      have ew : IntKind.wrap .u64 (qhf l i) = qhf l i := qpe (by omega) (by omega)
      have ep : IntKind.wrap .i64 ((1 : Int) * (2 : Int) ^ shiftN .i64 (qhf l i)) = qhh l i := pw (qhg hv i)
      simp (disch := omega) only [qdg, qpd, nI, dT, qcv, qan, nth0, qos, ew, ep, IH, qdv]
    · have : i = l.length - 1 := by omega
      subst this
      simp (disch := omega) only [qdg, qpd, nI, dF, qdt]
      rfl
theorem qc8 (k : Nat) (hk : 2000000 ≤ k) (z : Bool) (r : Int) (l : List Cell) (h : qla r 0 l = true) : go (k + 2) spec_l16Cost [.agg [.int .i64 r, .arr false z (.r3 l)]] = some [.int .i64 (cost l)] := by
  rw [qg0]
  have L := qlf h
  exact qka k hk [] z r l L (qlh h) (k + 1) 0 (by omega) (by omega)
end Go.Proofs.YtoldpdhhfmlckaaGreat
end
section
namespace Go.Proofs.YtoldpdhhfmlckaaGreat
open Go.Ev
def qms (x0 x1 : Int) (z2 : Bool) (l3 : List Int) (z4 : Bool) (l5 : List (Int × Int × Int)) (x6 : Int) (z7 : Bool) (l8 : List Int) : St := ⟨fill 57 [(1, (.sl 0 none)), (2, (.ptr 2 (0) (0))), (5, (.sl 3 none)), (23, (.int .i64 (x0))), (24, (.int .i64 (x1)))], [], [(.arr false (z2) (.ints .i64 (l3))), (.arr false (z4) (.r3 (l5))), (.box true [(.int .i64 (x6)), (.sl 1 none)]), (.arr true (z7) (.ints .i64 (l8)))]⟩
def qmt (x0 x1 x2 x3 x4 : Int) (z5 : Bool) (l6 : List Int) (z7 : Bool) (l8 : List (Int × Int × Int)) (x9 : Int) (z10 : Bool) (l11 : List Int) : St := ⟨fill 57 [(1, (.sl 0 none)), (2, (.ptr 2 (0) (0))), (5, (.sl 3 none)), (6, (.int .i64 (x0))), (7, (.int .i64 (x1))), (8, (.int .i64 (x2))), (23, (.int .i64 (x3))), (24, (.int .i64 (x4)))], [], [(.arr false (z5) (.ints .i64 (l6))), (.arr false (z7) (.r3 (l8))), (.box true [(.int .i64 (x9)), (.sl 1 none)]), (.arr true (z10) (.ints .i64 (l11)))]⟩
theorem qe9 (k : Nat) (a0 : Int) (a1z : Bool) (a1 : List (Int × Int × Int)) (bz : Bool) (b : List Int) : go (k + 1) impl_WorkShare [(.agg [(.int .i64 (a0)), (.arr false (a1z) (.r3 (a1)))]), (.arr false (bz) (.ints .i64 (b)))] =
 (go k impl_MeshOk [(.agg [(.int .i64 (a0)), (.arr false (a1z) (.r3 (a1)))])]).bind fun r0 =>
 cond (!bit (nth r0 0))
 (some [(.arr true (true) (.ints .i64 ([])))])
 ((go k impl_CutsOk [(.int .i64 (nI (List.length a1))), (.arr false (bz) (.ints .i64 (b)))]).bind fun r1 =>
 cond (!bit (nth r1 0))
 (some [(.arr true (true) (.ints .i64 ([])))])
 (lp k impl_WorkShare [] [] 5 k (qms (IntKind.wrap .i64 (nI (List.length b) - (1 : Int))) (0 : Int) bz b a1z a1 a0 false ([])))) := by kernel_rfl
theorem qim (k n : Nat) (fu : List (Nat × Nat)) (x0 x1 : Int) (z2 : Bool) (l3 : List Int) (z4 : Bool) (l5 : List (Int × Int × Int)) (x6 : Int) (z7 : Bool) (l8 : List Int) : lp k impl_WorkShare [] fu 5 (n + 1) (qms x0 x1 z2 l3 z4 l5 x6 z7 l8) =
 cond (decide (x1 < x0))
 (cond (decide ((0 : Int) ≤ x1) && decide (x1 < nI (List.length l3)))
 (lp k impl_WorkShare [] ((5, n) :: fu) 9 k (qmt x1 (0 : Int) (List.getD l3 (Int.toNat x1) (0 : Int)) x0 x1 z2 l3 z4 l5 x6 z7 l8))
 (none))
 (some [(.arr true (z7) (.ints .i64 (l8)))]) := by kernel_rfl
theorem qin (k n : Nat) (fu : List (Nat × Nat)) (x0 x1 x2 x3 x4 : Int) (z5 : Bool) (l6 : List Int) (z7 : Bool) (l8 : List (Int × Int × Int)) (x9 : Int) (z10 : Bool) (l11 : List Int) : lp k impl_WorkShare [] fu 9 (n + 1) (qmt x0 x1 x2 x3 x4 z5 l6 z7 l8 x9 z10 l11) =
 cond (decide ((0 : Int) ≤ IntKind.wrap .i64 (x0 + (1 : Int))) && decide (IntKind.wrap .i64 (x0 + (1 : Int)) < nI (List.length l6)))
 (cond (decide (x2 < if IntKind.wrap .i64 (nI (List.length l8) - (1 : Int)) < List.getD l6 (Int.toNat (IntKind.wrap .i64 (x0 + (1 : Int)))) (0 : Int) then IntKind.wrap .i64 (nI (List.length l8) - (1 : Int)) else List.getD l6 (Int.toNat (IntKind.wrap .i64 (x0 + (1 : Int)))) (0 : Int)))
 ((go k impl_Mesh_faceLevel [(.agg [(.int .i64 (x9)), (.arr false (z7) (.r3 (l8)))]), (.int .i64 (x2))]).bind fun r0 =>
 cond (decide ((0 : Int) ≤ D.toInt (nth r0 0)))
 (lp k impl_WorkShare [] fu 9 n (qmt x0 (IntKind.wrap .i64 (x1 + IntKind.wrap .i64 ((1 : Int) * (2 : Int) ^ shiftN .i64 (D.toInt (nth r0 0))))) (IntKind.wrap .i64 (x2 + (1 : Int))) x3 x4 z5 l6 z7 l8 x9 z10 l11))
 (none))
 (cond (decide (List.length (l11 ++ [x1]) ≤ bigLen))
 (lp k impl_WorkShare [] fu 5 (fuelOf fu 5) (qms x3 (IntKind.wrap .i64 (x4 + (1 : Int))) z5 l6 z7 l8 x9 (z10 && decide (List.length (l11 ++ [x1]) = 0)) (l11 ++ [x1])))
 (none)))
 (none) := by kernel_rfl
def qm0 (x0 : Int) (z1 : Bool) (l2 : List Int) : St := ⟨fill 42 [(1, (.sl 0 none)), (5, (.int .i64 (x0)))], [], [(.arr false (z1) (.ints .i64 (l2)))]⟩
theorem qfv (k : Nat) (a : Int) (bz : Bool) (b : List Int) : go (k + 1) spec_CutsOk [(.int .i64 (a)), (.arr false (bz) (.ints .i64 (b)))] =
 (go k spec_l01In [(.int .i64 (nI (List.length b))), (.int .i64 ((2 : Int))), (.int .i64 ((17 : Int)))]).bind fun r0 =>
 cond (!bit (nth r0 0))
 (some [(.bool (false))])
 (cond (decide ((0 : Int) ≤ (0 : Int)) && decide ((0 : Int) < nI (List.length b)))
 (cond (!decide (List.getD b (Int.toNat (0 : Int)) (0 : Int) = (0 : Int)))
 (some [(.bool (false))])
 (cond (decide ((0 : Int) ≤ IntKind.wrap .i64 (nI (List.length b) - (1 : Int))) && decide (IntKind.wrap .i64 (nI (List.length b) - (1 : Int)) < nI (List.length b)))
 (cond (!decide (List.getD b (Int.toNat (IntKind.wrap .i64 (nI (List.length b) - (1 : Int)))) (0 : Int) = a))
 (some [(.bool (false))])
 (lp k spec_CutsOk [] [] 4 k (qm0 ((1 : Int)) bz b)))
 (none)))
 (none)) := by kernel_rfl
theorem qiu (k n : Nat) (fu : List (Nat × Nat)) (x0 : Int) (z1 : Bool) (l2 : List Int) : lp k spec_CutsOk [] fu 4 (n + 1) (qm0 x0 z1 l2) =
 cond (decide (x0 < nI (List.length l2)))
 (cond (decide ((0 : Int) ≤ x0) && decide (x0 < nI (List.length l2)))
 (cond (decide ((0 : Int) ≤ IntKind.wrap .i64 (x0 - (1 : Int))) && decide (IntKind.wrap .i64 (x0 - (1 : Int)) < nI (List.length l2)))
 (cond (decide (List.getD l2 (Int.toNat x0) (0 : Int) < List.getD l2 (Int.toNat (IntKind.wrap .i64 (x0 - (1 : Int)))) (0 : Int)))
 (some [(.bool (false))])
 (lp k spec_CutsOk [] fu 4 n (qm0 (IntKind.wrap .i64 (x0 + (1 : Int))) z1 l2)))
 (none))
 (none))
 (some [(.bool (true))]) := by kernel_rfl
theorem qef (k : Nat) (a : Int) (bz : Bool) (b : List Int) : go (k + 1) impl_CutsOk [(.int .i64 (a)), (.arr false (bz) (.ints .i64 (b)))] =
 (go k impl_within [(.int .i64 (nI (List.length b))), (.int .i64 ((2 : Int))), (.int .i64 ((17 : Int)))]).bind fun r0 =>
 cond (bit (nth r0 0))
 (cond (decide ((0 : Int) ≤ (0 : Int)) && decide ((0 : Int) < nI (List.length b)))
 (cond (decide (List.getD b (Int.toNat (0 : Int)) (0 : Int) = (0 : Int)))
 (cond (decide ((0 : Int) ≤ IntKind.wrap .i64 (nI (List.length b) - (1 : Int))) && decide (IntKind.wrap .i64 (nI (List.length b) - (1 : Int)) < nI (List.length b)))
 (cond (decide (List.getD b (Int.toNat (IntKind.wrap .i64 (nI (List.length b) - (1 : Int)))) (0 : Int) = a))
 ((go k slices_IsSorted_int_int [(.arr false (bz) (.ints .i64 (b)))]).bind fun r1 =>
 some [(.bool (bit (nth r1 0)))])
 (some [(.bool (false))]))
 (none))
 (some [(.bool (false))]))
 (none))
 (some [(.bool (false))]) := by kernel_rfl
def qmx (x0 : Int) (z1 : Bool) (l2 : List Int) : St := ⟨fill 21 [(0, (.sl 0 none)), (3, (.int .i64 (x0)))], [], [(.arr false (z1) (.ints .i64 (l2)))]⟩
theorem qfp (k : Nat) (az : Bool) (a : List Int) : go (k + 1) slices_IsSorted_int_int [(.arr false (az) (.ints .i64 (a)))] =
 lp k slices_IsSorted_int_int [] [] 2 k (qmx (IntKind.wrap .i64 (nI (List.length a) - (1 : Int))) az a) := by kernel_rfl
theorem qir (k n : Nat) (fu : List (Nat × Nat)) (x0 : Int) (z1 : Bool) (l2 : List Int) : lp k slices_IsSorted_int_int [] fu 2 (n + 1) (qmx x0 z1 l2) =
 cond (decide ((0 : Int) < x0))
 (cond (decide ((0 : Int) ≤ x0) && decide (x0 < nI (List.length l2)))
 (cond (decide ((0 : Int) ≤ IntKind.wrap .i64 (x0 - (1 : Int))) && decide (IntKind.wrap .i64 (x0 - (1 : Int)) < nI (List.length l2)))
 ((go k cmp_Less_int [(.int .i64 (List.getD l2 (Int.toNat x0) (0 : Int))), (.int .i64 (List.getD l2 (Int.toNat (IntKind.wrap .i64 (x0 - (1 : Int)))) (0 : Int)))]).bind fun r0 =>
 cond (bit (nth r0 0))
 (some [(.bool (false))])
 (lp k slices_IsSorted_int_int [] fu 2 n (qmx (IntKind.wrap .i64 (x0 - (1 : Int))) z1 l2)))
 (none))
 (none))
 (some [(.bool (true))]) := by kernel_rfl
theorem qeg (k : Nat) (a0 : Int) (a1z : Bool) (a1 : List (Int × Int × Int)) (bz : Bool) (b : List Int) : go (k + 1) impl_Efficiency [(.agg [(.int .i64 (a0)), (.arr false (a1z) (.r3 (a1)))]), (.arr false (bz) (.ints .i64 (b)))] =
 (go k impl_WorkShare [(.agg [(.int .i64 (a0)), (.arr false (a1z) (.r3 (a1)))]), (.arr false (bz) (.ints .i64 (b)))]).bind fun r0 =>
 cond (D.nil (nth r0 0))
 (some [(.int .i64 ((-1 : Int)))])
 ((go k slices_Max_int_int [(.arr false (D.nil (nth r0 0)) (.ints .i64 (D.ints (nth r0 0))))]).bind fun r1 =>
 cond (decide (D.toInt (nth r1 0) = (0 : Int)))
 (some [(.int .i64 ((1000 : Int)))])
 ((go k impl_sum [(.arr false (D.nil (nth r0 0)) (.ints .i64 (D.ints (nth r0 0))))]).bind fun r2 =>
 cond (!decide (IntKind.wrap .i64 (nI (List.length (D.ints (nth r0 0))) * D.toInt (nth r1 0)) = (0 : Int)))
 (some [(.int .i64 (IntKind.wrap .i64 (Int.tdiv (IntKind.wrap .i64 ((1000 : Int) * D.toInt (nth r2 0))) (IntKind.wrap .i64 (nI (List.length (D.ints (nth r0 0))) * D.toInt (nth r1 0))))))])
 (none))) := by kernel_rfl
def qmy (x0 x1 : Int) (z2 : Bool) (l3 : List Int) : St := ⟨fill 25 [(0, (.sl 0 none)), (3, (.int .i64 (x0))), (4, (.int .i64 (x1)))], [], [(.arr false (z2) (.ints .i64 (l3)))]⟩
theorem qfq (k : Nat) (az : Bool) (a : List Int) : go (k + 1) slices_Max_int_int [(.arr false (az) (.ints .i64 (a)))] =
 cond (decide (nI (List.length a) < (1 : Int)))
 (none)
 (cond (decide ((0 : Int) ≤ (0 : Int)) && decide ((0 : Int) < nI (List.length a)))
 (lp k slices_Max_int_int [] [] 5 k (qmy (List.getD a (Int.toNat (0 : Int)) (0 : Int)) ((1 : Int)) az a))
 (none)) := by kernel_rfl
theorem qis (k n : Nat) (fu : List (Nat × Nat)) (x0 x1 : Int) (z2 : Bool) (l3 : List Int) : lp k slices_Max_int_int [] fu 5 (n + 1) (qmy x0 x1 z2 l3) =
 cond (decide (x1 < nI (List.length l3)))
 (cond (decide ((0 : Int) ≤ x1) && decide (x1 < nI (List.length l3)))
 (lp k slices_Max_int_int [] fu 5 n (qmy (if List.getD l3 (Int.toNat x1) (0 : Int) > x0 then List.getD l3 (Int.toNat x1) (0 : Int) else x0) (IntKind.wrap .i64 (x1 + (1 : Int))) z2 l3))
 (none))
 (some [(.int .i64 (x0))]) := by kernel_rfl
theorem qec (k : Nat) (a b : Int) : go (k + 1) cmp_Less_int [(.int .i64 (a)), (.int .i64 (b))] =
 (go k cmp_isNaN_int [(.int .i64 (a))]).bind fun r0 =>
 cond (bit (nth r0 0))
 ((go k cmp_isNaN_int [(.int .i64 (b))]).bind fun r1 =>
 cond (!bit (nth r1 0))
 (some [(.bool (true))])
 (some [(.bool (decide (a < b)))]))
 (some [(.bool (decide (a < b)))]) := by kernel_rfl
theorem qed (k : Nat) (a : Int) : go (k + 1) cmp_isNaN_int [(.int .i64 (a))] =
 some [(.bool (!decide (a = a)))] := by kernel_rfl

end Go.Proofs.YtoldpdhhfmlckaaGreat
end
section
namespace Go.Proofs.YtoldpdhhfmlckaaGreat
open Go.Ev
def srt (l : List Int) : Nat → Bool
  | 0 => true
  | n + 1 => !decide (l.getD (n + 1) 0 < l.getD n 0) && srt l n
theorem qn9 (l : List Int) (a : Nat) : ∀ b, srt l (a + b) = true → srt l a = true
  | 0, h => h
  | b + 1, h => by
    rw [show a + (b + 1) = (a + b) + 1 by omega, srt, Bool.and_eq_true] at h
    exact qn9 l a b h.2
theorem qn7 {l : List Int} : ∀ {n i : Nat}, srt l n = true → i < n → l.getD i 0 ≤ l.getD (i + 1) 0
  | 0, i, h, hi => by omega
  | n + 1, i, h, hi => by
    rw [srt, Bool.and_eq_true] at h
    by_cases e : i = n
    · subst e; have := h.1; simp only [Bool.not_eq_true', decide_eq_false_iff_not] at this; omega
    · exact qn7 h.2 (by omega)
theorem qn8 {l : List Int} {n : Nat} (h : srt l n = true) (i : Nat) : ∀ d, i + d ≤ n → l.getD i 0 ≤ l.getD (i + d) 0
  | 0, hd => by simp
  | d + 1, hd => by
    have h1 := qn8 h i d (by omega)
    have h2 := qn7 h (i := i + d) (by omega)
    have : i + (d + 1) = i + d + 1 := by omega
    rw [this]; omega
theorem qar (k : Nat) (hk : 2000000 ≤ k) (a : Int) (b : Int) : go (k + 2) cmp_Less_int [(.int .i64 (a)), (.int .i64 (b))] = some [.bool (decide (a < b))] := by
  rw [qec]
  have e := qed (k + 0) a
  simp (disch := omega) only [e, dTT, Bool.not_true, bit, qan, nth0, qor, qdt]
theorem qju (k : Nat) (hk : 2000000 ≤ k) (fu : List (Nat × Nat)) (z : Bool) (l : List Int) (hl : (l.length : Int) ≤ 1048576) : ∀ (n i : Nat), i < l.length → i < n →
    lp (k + 2) slices_IsSorted_int_int [] fu 2 (n) (qmx (i : Int) z l) = some [.bool (srt l i)]
  | 0, i, hi, hn => by omega
  | n + 1, 0, hi, hn => by
    rw [qir]
    rw [show ((0 : Nat) : Int) = 0 from rfl]
    simp (disch := omega) only [dF, dT, nI, Bool.and_true, qpd, bit, qdt, qdv, srt]
  | n + 1, i + 1, hi, hn => by
    rw [qir]
    have e := qju k hk fu z l hl n i (by omega) (by omega)
    have e1 : ((i + 1 : Nat) : Int) - 1 = (i : Int) := by omega
    simp (disch := omega) only [dT, nI, Bool.and_true, e1, qpd, Int.toNat_natCast, qar, bit, e, qan, nth0, qor, qdv, srt]
    cases decide (l.getD (i + 1) 0 < l.getD i 0) <;> rfl
def qd6 (n : Int) (l : List Int) : Bool := inR l.length 2 17 && (decide (l.getD 0 0 = 0) && (decide (l.getD (l.length - 1) 0 = n) && srt l (l.length - 1)))
theorem qau (k : Nat) (hk : 2000000 ≤ k) (a : Int) (bz : Bool) (b : List Int) (hl : (b.length : Int) ≤ 1048576) : go (k + 4) impl_CutsOk [(.int .i64 (a)), (.arr false (bz) (.ints .i64 (b)))] = some [.bool (qd6 a b)] := by
  rw [qef]
  unfold qd6
  simp (disch := omega) only [nI, qbu, bit, dT, Bool.true_and, qpd, Bool.and_true, qan, nth0, qor]
  cases g : inR (b.length : Int) 2 17
  · rfl
  rw [qhx] at g
  rw [qfp]
  have e := qju k hk [] bz b hl (k + 2) (b.length - 1) (by omega) (by omega)
  have e1 : (b.length : Int) - 1 = ((b.length - 1 : Nat) : Int) := by omega
  simp (disch := omega) only [dT, Int.toNat_zero, e1, Int.toNat_natCast, nI, qpd, e, qan, nth0, qor, qdx, qdv, Bool.true_and]
theorem qkb (k : Nat) (hk : 2000000 ≤ k) (fu : List (Nat × Nat)) (z : Bool) (l : List Int) (hl : (l.length : Int) ≤ 1048576) : ∀ (n i : Nat), 1 ≤ i → i ≤ l.length → l.length - i < n → srt l (i - 1) = true →
    lp (k + 1) spec_CutsOk [] fu 4 (n) (qm0 (i : Int) z l) = some [.bool (srt l (l.length - 1))]
  | 0, i, h1, hi, hn, hs => by omega
  | n + 1, i, h1, hi, hn, hs => by
    rw [qiu]
    by_cases h : i < l.length
    · have e1 : (i : Int) - 1 = ((i - 1 : Nat) : Int) := by omega
      have hi1 : i = (i - 1) + 1 := by omega
      by_cases g : l.getD i 0 < l.getD (i - 1) 0
      · have hf : srt l i = false := by rw [hi1, srt, ← hi1, dT g]; rfl
        have : srt l (l.length - 1) = false := by
          cases hh : srt l (l.length - 1)
          · rfl
          · rw [show l.length - 1 = i + (l.length - 1 - i) by omega] at hh
            rw [qn9 l i _ hh] at hf; cases hf
        simp (disch := omega) only [nI, dT, Bool.and_true, e1, qpd, Int.toNat_natCast, qdg, qdv, this]
      · have hf : srt l i = true := by rw [hi1, srt, ← hi1, dF g, hs]; rfl
        have e := qkb k hk fu z l hl n (i + 1) (by omega) (by omega) (by omega) (by simpa using hf)
        simp (disch := omega) only [nI, dT, Bool.and_true, e1, qpd, Int.toNat_natCast, dF, qdg, e, qdt, qdv]
    · simp (disch := omega) only [nI, dF, dT, Bool.and_false, qpd, Bool.and_true, Int.toNat_natCast, qdg, qdv, qdt]
      rw [show l.length - 1 = i - 1 by omega, hs]
theorem qb5 (k : Nat) (hk : 2000000 ≤ k) (a : Int) (bz : Bool) (b : List Int) (hl : (b.length : Int) ≤ 1048576) : go (k + 2) spec_CutsOk [(.int .i64 (a)), (.arr false (bz) (.ints .i64 (b)))] = some [.bool (qd6 a b)] := by
  rw [qfv]
  unfold qd6
  simp (disch := omega) only [nI, qco, bit, dT, Bool.true_and, qpd, Bool.and_true, qan, nth0, qor]
  cases g : inR (b.length : Int) 2 17
  · rfl
  rw [qhx] at g
  have e := qkb k hk [] bz b hl (k + 1) 1 (by omega) (by omega) (by omega) rfl
  have e1 : (b.length : Int) - 1 = ((b.length - 1 : Nat) : Int) := by omega
  rw [show ((1 : Nat) : Int) = 1 from rfl] at e
  simp (disch := omega) only [Bool.not_true, dT, Int.toNat_zero, e1, Int.toNat_natCast, e, qdw, qdv, qdt, Bool.true_and]
structure CutF (n : Nat) (l : List Int) : Prop where
  l2 : 2 ≤ l.length
  l17 : l.length ≤ 17
  rng : ∀ i, i < l.length → 0 ≤ l.getD i 0 ∧ l.getD i 0 ≤ n
  mono : ∀ i, i + 1 < l.length → l.getD i 0 ≤ l.getD (i + 1) 0
theorem cutF {n : Nat} {l : List Int} (h : qd6 (n : Int) l = true) : CutF n l := by
  simp only [qd6, Bool.and_eq_true, qhx, decide_eq_true_eq] at h
  obtain ⟨h1, h2, h3, h4⟩ := h
  refine ⟨by omega, by omega, fun i hi => ⟨?_, ?_⟩, fun i hi => qn7 h4 (by omega)⟩
  · have := qn8 h4 0 i (by omega); rw [h2] at this; simpa using this
  · have := qn8 h4 i (l.length - 1 - i) (by omega)
    rw [show i + (l.length - 1 - i) = l.length - 1 by omega, h3] at this; exact this
def qdy (l : List Cell) : Nat → Nat → Int
  | 0, _ => 0
  | n + 1, i => pow2 (qhf l i) + qdy l n (i + 1)
theorem qdz {l : List Cell} (h : qaa l) : ∀ n i, 0 ≤ qdy l n i ∧ qdy l n i ≤ 16 * n
  | 0, i => by simp [qdy]
  | n + 1, i => by
    have := qdz h n (i + 1)
    have := qlv (qhg h i)
    simp only [qdy]; omega
def qnq (l : List Cell) (c : List Int) (j : Nat) : Int := qdy l ((min (c.getD (j + 1) 0) ((l.length : Int) - 1)) - c.getD j 0).toNat (c.getD j 0).toNat
def qnv (l : List Cell) (c : List Int) : Nat → Nat → List Int
  | 0, _ => []
  | n + 1, j => qnq l c j :: qnv l c n (j + 1)
theorem qj1 (k : Nat) (hk : 2000000 ≤ k) (fu : List (Nat × Nat)) (z1 z2 : Bool) (c : List Int) (l : List Cell) (r : Int) (out : List Int) (hl : (l.length : Int) ≤ 128) (h1 : 1 ≤ l.length) (hv : qaa l) (C : CutF l.length c) (j : Nat) (hj : j + 1 < c.length) (ho : out.length ≤ 100) (L : Int) : ∀ (n i d : Nat) (s : Int), d < n → (d : Int) = (min (c.getD (j + 1) 0) ((l.length : Int) - 1) - (i : Int)).toNat → 0 ≤ s → s ≤ 100000 → s + 16 * d ≤ 100000 →
    lp (k + 6) impl_WorkShare [] fu 9 (n) (qmt (j : Int) s (i : Int) L (j : Int) z1 c z2 l r false out) = lp (k + 6) impl_WorkShare [] fu 5 (fuelOf fu 5) (qms L ((j + 1 : Nat) : Int) z1 c z2 l r false (out ++ [s + qdy l d i]))
  | 0, i, d, s, hn, hd, hs, hs', hb => by omega
  | n + 1, i, d, s, hn, hd, hs, hs', hb => by
    have hc := C.l17; have hr := C.rng (j + 1) hj
    rw [qin]
    cases d with
    | zero =>
      simp (disch := omega) only [qdg, qpd, dT, nI, Bool.and_true, Int.toNat_natCast, imin, dF, List.length_append, List.length_cons, List.length_nil, big0, Bool.and_false, qdv, qdt]
      simp only [qdy, Int.add_zero]
    | succ d =>
      have hi : i + 1 < l.length := by omega
      have p := pw (qhg hv i); have q := qlv (qhg hv i); have q2 := lev0 (qhg hv i)
      have e := qj1 k hk fu z1 z2 c l r out hl h1 hv C j hj ho L n (i + 1) d (s + pow2 (qhf l i)) (by omega) (by omega) (by omega) (by omega) (by omega)
      rw [Int.add_assoc] at e
      simp (disch := omega) only [qdg, qpd, dT, nI, Bool.and_true, Int.toNat_natCast, imin, qbg, qan, nth0, qos, p, qdv, big0, Bool.false_and]
      exact e
theorem qj0 (k : Nat) (hk : 2000000 ≤ k) (z1 z2 : Bool) (c : List Int) (l : List Cell) (r : Int) (hl : (l.length : Int) ≤ 128) (h1 : 1 ≤ l.length) (hv : qaa l) (C : CutF l.length c) : ∀ (n : Nat) (fu : List (Nat × Nat)) (j : Nat) (out : List Int), j + 1 ≤ c.length → c.length - j < n + 1 → out.length ≤ j → 0 < n →
    lp (k + 6) impl_WorkShare [] fu 5 (n) (qms ((c.length : Int) - 1) (j : Int) z1 c z2 l r false out) = some [.arr true false (.ints .i64 (out ++ qnv l c (c.length - 1 - j) j))]
  | 0, fu, j, out, hj, hn, ho, h0 => by omega
  | n + 1, fu, j, out, hj, hn, ho, h0 => by
    have hc := C.l17
    rw [qim]
    by_cases g : j + 1 < c.length
    · have hr := C.rng j (by omega); have hr2 := C.rng (j + 1) g
      obtain ⟨i, hi⟩ : ∃ i : Nat, c.getD j 0 = (i : Int) := ⟨(c.getD j 0).toNat, by omega⟩
      have e := qj1 k hk ((5, n) :: fu) z1 z2 c l r out hl h1 hv C j g (by omega) ((c.length : Int) - 1) (k + 6) i (min (c.getD (j + 1) 0) ((l.length : Int) - 1) - (i : Int)).toNat 0 (by omega) (by omega) (by omega) (by omega) (by omega)
      have e2 := qj0 k hk z1 z2 c l r hl h1 hv C n ((5, n) :: fu) (j + 1) (out ++ [qnq l c j]) (by omega) (by omega) (by simp; omega) (by omega)
      rw [show c.length - 1 - j = (c.length - 1 - (j + 1)) + 1 by omega, qnv]
      rw [qhk, Int.zero_add] at e
      rw [List.append_assoc] at e2
      simp (disch := omega) only [dT, nI, Bool.and_true, Int.toNat_natCast, hi, qdv]
      refine Eq.trans e ?_
      rw [show qdy l (min (c.getD (j + 1) 0) ((l.length : Int) - 1) - (i : Int)).toNat i = qnq l c j by unfold qnq; rw [hi, Int.toNat_natCast]]
      exact e2
    · simp (disch := omega) only [dF, dT, nI, Bool.and_true, Int.toNat_natCast, qdv, qdt]
      rw [show c.length - 1 - j = 0 by omega]; simp [qnv]
def qpa (r : Int) (l : List Cell) (c : List Int) : Option (List Int) := if qla r 0 l && qd6 l.length c then some (qnv l c (c.length - 1) 0) else none
theorem qa8 (k : Nat) (hk : 2000000 ≤ k) (a0 : Int) (a1z : Bool) (a1 : List (Int × Int × Int)) (bz : Bool) (b : List Int) (hl : (a1.length : Int) ≤ 1048576) (hb : (b.length : Int) ≤ 1048576) : go (k + 7) impl_WorkShare [(.agg [(.int .i64 (a0)), (.arr false (a1z) (.r3 (a1)))]), (.arr false (bz) (.ints .i64 (b)))] = some [.arr true (qpa a0 a1 b).isNone (.ints .i64 ((qpa a0 a1 b).getD []))] := by
  rw [qe9]
  simp (disch := omega) only [qay, bit, nI, qau, qpd, qan, nth0, qor]
  unfold qpa
  cases g1 : qla a0 0 a1
  · rfl
  cases g2 : qd6 a1.length b
  · rfl
  have hm := qlf g1
  have e := qj0 k hk bz a1z b a1 a0 (by omega) hm.1 (qlg _ _ _ g1) (cutF g2) (k + 6) [] 0 [] (by have := (cutF g2).l2; omega) (by have := (cutF g2).l17; omega) (by simp) (by omega)
  have := (cutF g2).l17
  simp (disch := omega) only [Bool.not_true, qdt, Bool.and_true]
  exact e
theorem qnx (l : List Cell) (c : List Int) : ∀ n j, (qnv l c n j).length = n
  | 0, j => rfl
  | n + 1, j => by simp [qnv, qnx l c n]
theorem qnw {l : List Cell} (h : qaa l) (hl : l.length ≤ 128) {c : List Int} (C : CutF l.length c) : ∀ n j, j + n < c.length → ∀ x ∈ qnv l c n j, 0 ≤ x ∧ x ≤ 2048
  | 0, j, hn, x, hx => by cases hx
  | n + 1, j, hn, x, hx => by
    simp only [qnv, List.mem_cons] at hx
    rcases hx with rfl | hx
    · have h1 := C.rng j (by omega); have h2 := C.rng (j + 1) (by omega)
      have := qdz h (min (c.getD (j + 1) 0) ((l.length : Int) - 1) - c.getD j 0).toNat (c.getD j 0).toNat
      unfold qnq
      omega
    · exact qnw h hl C n (j + 1) (by omega) x hx
theorem qpb {r : Int} {l : List Cell} {c s : List Int} (h : qpa r l c = some s) : 1 ≤ s.length ∧ s.length ≤ 16 ∧ ∀ x ∈ s, 0 ≤ x ∧ x ≤ 2048 := by
  unfold qpa at h
  split at h
  · rename_i g
    simp only [Bool.and_eq_true] at g
    have C := cutF g.2
    have L := qlf g.1
    have := C.l2; have := C.l17
    cases h
    rw [qnx]
    exact ⟨by omega, by omega, qnw (qlg _ _ _ g.1) L.2 C _ _ (by omega)⟩
  · cases h
def maxV (l : List Int) : Nat → Nat → Int → Int
  | 0, _, a => a
  | n + 1, i, a => maxV l n (i + 1) (max (l.getD i 0) a)
theorem qk5 {l : List Int} (h : ∀ x ∈ l, 0 ≤ x ∧ x ≤ 2048) : ∀ n i a, 0 ≤ a → a ≤ 2048 → 0 ≤ maxV l n i a ∧ maxV l n i a ≤ 2048
  | 0, i, a, h0, h1 => ⟨h0, h1⟩
  | n + 1, i, a, h0, h1 => by
    have : 0 ≤ l.getD i 0 ∧ l.getD i 0 ≤ 2048 := by
      by_cases g : i < l.length
      · exact h _ (qho g 0)
      · rw [qhn (by omega)]; omega
    exact qk5 h n (i + 1) _ (by omega) (by omega)
theorem qj8 (k : Nat) (hk : 2000000 ≤ k) (fu : List (Nat × Nat)) (z : Bool) (l : List Int) (hl : (l.length : Int) ≤ 1048576) : ∀ (n i : Nat) (a : Int), i ≤ l.length → l.length - i < n →
    lp k slices_Max_int_int [] fu 5 (n) (qmy a (i : Int) z l) = some [.int .i64 (maxV l (l.length - i) i a)]
  | 0, i, a, hi, hn => by omega
  | n + 1, i, a, hi, hn => by
    rw [qis]
    by_cases h : i < l.length
    · have e := qj8 k hk fu z l hl n (i + 1) (max (l.getD i 0) a) (by omega) (by omega)
      rw [show l.length - i = (l.length - (i + 1)) + 1 by omega, maxV]
      simp (disch := omega) only [nI, dT, Bool.and_true, Int.toNat_natCast, imax, qdg, qpd, e, qdv]
    · simp (disch := omega) only [nI, dF, dT, Bool.and_false, Int.toNat_natCast, imax, qdg, qpd, qdt]
      rw [show l.length - i = 0 by omega]; rfl
theorem qby (k : Nat) (hk : 2000000 ≤ k) (az : Bool) (a : List Int) (hl : (a.length : Int) ≤ 1048576) (h0 : 0 < a.length) : go (k + 1) slices_Max_int_int [(.arr false (az) (.ints .i64 (a)))] = some [.int .i64 (maxV a (a.length - 1) 1 (a.getD 0 0))] := by
  rw [qfq]
  have e := qj8 k hk [] az a hl (k + 0) 1 (a.getD 0 0) (by omega) (by omega)
  rw [show ((1 : Nat) : Int) = 1 from rfl] at e
  simp (disch := omega) only [nI, dF, dT, Bool.and_true, Int.toNat_zero, qdv, qdt]
  exact e
def qg8 (s : List Int) : Int := if maxV s (s.length - 1) 1 (s.getD 0 0) = 0 then 1000 else Int.tdiv (1000 * isum s) (s.length * maxV s (s.length - 1) 1 (s.getD 0 0))
theorem qg9 {s : List Int} (h1 : 1 ≤ s.length) (h2 : s.length ≤ 16) (h : ∀ x ∈ s, 0 ≤ x ∧ x ≤ 2048) (hm : maxV s (s.length - 1) 1 (s.getD 0 0) ≠ 0) :
    0 ≤ isum s ∧ isum s ≤ 32768 ∧ (s.length : Int) * maxV s (s.length - 1) 1 (s.getD 0 0) ≠ 0 ∧ 0 ≤ (s.length : Int) * maxV s (s.length - 1) 1 (s.getD 0 0) ∧ (s.length : Int) * maxV s (s.length - 1) 1 (s.getD 0 0) ≤ 32768 ∧
    0 ≤ Int.tdiv (1000 * isum s) (s.length * maxV s (s.length - 1) 1 (s.getD 0 0)) ∧ Int.tdiv (1000 * isum s) (s.length * maxV s (s.length - 1) 1 (s.getD 0 0)) ≤ 32768000 := by
  have hs := qh3 s h
  have h0 := h _ (qho (by omega : 0 < s.length) 0)
  have hM := qk5 h (s.length - 1) 1 (s.getD 0 0) (by omega) (by omega)
  generalize maxV s (s.length - 1) 1 (s.getD 0 0) = M at *
  have e1 : 0 ≤ (s.length : Int) * M := Int.mul_nonneg (by omega) (by omega)
  have e2 : (s.length : Int) * M ≤ 16 * 2048 := Int.mul_le_mul (by omega) (by omega) (by omega) (by omega)
  have e3 : (s.length : Int) * M ≠ 0 := Int.mul_ne_zero (by omega) hm
  have e4 : 2048 * (s.length : Int) ≤ 32768 := by omega
  have e5 : 0 ≤ Int.tdiv (1000 * isum s) (s.length * M) := Int.tdiv_nonneg (by omega) e1
  have e6 : Int.tdiv (1000 * isum s) (s.length * M) ≤ 1000 * isum s := by
    rw [Int.tdiv_eq_ediv_of_nonneg (by omega)]
    exact Int.ediv_le_self _ (by omega)
  refine ⟨hs.1, by omega, e3, e1, by omega, e5, by omega⟩
def qg7 (o : Option (List Int)) : Int := match o with | some s => qg8 s | none => -1
theorem qav (k : Nat) (hk : 2000000 ≤ k) (a0 : Int) (a1z : Bool) (a1 : List (Int × Int × Int)) (bz : Bool) (b : List Int) (hl : (a1.length : Int) ≤ 1048576) (hb : (b.length : Int) ≤ 1048576) : go (k + 8) impl_Efficiency [(.agg [(.int .i64 (a0)), (.arr false (a1z) (.r3 (a1)))]), (.arr false (bz) (.ints .i64 (b)))] = some [.int .i64 (qg7 (qpa a0 a1 b))] := by
  rw [qeg]
  simp (disch := omega) only [qa8, nI, qan, nth0, qln, qhy]
  cases g : qpa a0 a1 b with
  | none => rfl
  | some s =>
    have f := qpb g
    simp only [Option.isNone_some, qdt, Option.getD_some, qg7, qg8]
    rw [qby _ (by omega) _ _ (by omega) (by omega)]
    by_cases hm : maxV s (s.length - 1) 1 (s.getD 0 0) = 0
    · simp (disch := omega) only [qan, nth0, qos, dT, qdv, if_pos hm]
    · have d := qg9 f.1 f.2.1 f.2.2 hm
      rw [qbq _ (by omega) _ _ (by omega) (fun x hx => by have := f.2.2 x hx; omega)]
      rw [if_neg hm]
      simp (disch := omega) only [qan, nth0, qos, qpd, dF, Bool.not_false, qdv, qdt]
end Go.Proofs.YtoldpdhhfmlckaaGreat
end
section
namespace Go.Proofs.YtoldpdhhfmlckaaGreat
open Go.Ev
set_option maxRecDepth 20000
def hq : Nat → Int
  | 0 => 0
  | n + 1 => 2 ^ n
theorem qow {p : Nat} (h : p ≤ 30) : 1 ≤ (2 : Int) ^ p ∧ (2 : Int) ^ p ≤ 1073741824 := by
  have e : (2 : Int) ^ p = ((2 ^ p : Nat) : Int) := by rw [Int.natCast_pow]; rfl
  have h1 : 2 ^ p ≤ 2 ^ 30 := Nat.pow_le_pow_right (by omega) h
  have h2 : 0 < 2 ^ p := Nat.two_pow_pos p
  rw [e]
  omega
theorem qhr {q : Nat} (h : q ≤ 31) : 0 ≤ hq q ∧ hq q ≤ 1073741824 := by
  cases q with
  | zero => exact ⟨Int.le_refl _, by decide⟩
  | succ p => have := qow (p := p) (by omega); exact ⟨by show 0 ≤ (2 : Int) ^ p; omega, this.2⟩
theorem qhs {q : Nat} (h : q ≤ 31) : max (2 * hq q) 1 = hq (q + 1) := by
  cases q with
  | zero => rfl
  | succ p =>
    have := qow (p := p) (by omega)
    show max (2 * (2 : Int) ^ p) 1 = 2 ^ (p + 1)
    rw [Int.pow_succ]; omega
def qot (f : Nat → Nat) (most : Int) : Nat → Nat → Int
  | 0, q => -1
  | n + 1, q => if (f q : Int) ≤ most then hq q else qot f most n (q + 1)
def qaf (l : List Cell) (m t b : List Int) (lo : Int) (q : Nat) : Nat := (adS (tab l.length (wsh l m b (hq q) lo)) (l, m, t)).1.length
theorem qjy (k : Nat) (hk : 2000000 ≤ k) (fu : List (Nat × Nat)) (lo most r : Int) (l : List Cell) (m t b : List Int) (F : StF r l m t b) : ∀ (N n q : Nat), n + q = 32 → n < N →
    lp (k + 11) impl_TuneHigh [] fu 4 (N) (qmq lo most (hq q) false l false m false t false b r) = some [.int .i64 (qot (qaf l m t b lo) most n q)]
  | 0, n, q, hq0, hN => by omega
  | N + 1, 0, q, hq0, hN => by
    rw [qik]
    have : q = 32 := by omega
    subst this
    have h32 : hq 32 = 2147483648 := by decide
    rw [h32]
    simp (disch := omega) only [dF, nI, qpd, imax, qdt]; rfl
  | N + 1, n + 1, q, hq0, hN => by
    rw [qik]
    have IH := qjy k hk fu lo most r l m t b F N n (q + 1) (by omega) (by omega)
    have S := ad_U F (hq q) lo
    have SL := S.len; have sm := S.ml
    have eA := qat k (by omega) r l m t b F (hq q) lo
    have hb := qhr (q := q) (by omega)
    have hn := qhs (q := q) (by omega)
    unfold qot
    by_cases g : (qaf l m t b lo q : Int) ≤ most
    · rw [if_pos g]
      unfold qaf at g
      simp (disch := omega) only [dT, eA, nI, qpd, imax, qan, nth0, qdj, qlz, qdv]
    · rw [if_neg g]
      unfold qaf at g
      simp (disch := omega) only [dT, eA, nI, qpd, imax, hn, IH, qan, nth0, qdj, qlz, dF, qdt, qdv]
def tune (r : Int) (l : List Cell) (m t b : List Int) (lo most : Int) : Int := cond (stOk r l m t b) (qot (qaf l m t b lo) most 32 0) (-1)
theorem qa5 (k : Nat) (hk : 2000000 ≤ k) (a0 : Int) (a1 : List Cell) (a2 a3 a4 : List Int) (b c : Int) (h1 : (a1.length : Int) ≤ 1048576) (h4 : (a4.length : Int) ≤ 1048576) :
    go (k + 12) impl_TuneHigh [.agg [.int .i64 (a0), .arr false (false) (.r3 (a1)), .arr false (false) (.ints .i64 (a2)), .arr false (false) (.ints .i64 (a3)), .arr false (false) (.ints .i64 (a4))], .int .i64 b, .int .i64 c] = some [.int .i64 (tune a0 a1 a2 a3 a4 b c)] := by
  rw [qe6]
  unfold tune
  cases g : stOk a0 a1 a2 a3 a4
  · simp (disch := omega) only [qa4, g, bit, qan, nth0, qor, Bool.not_false, qdv, qdt]
  · simp (disch := omega) only [qa4, g, bit, qan, nth0, qor, Bool.not_true, qdt, qdv]
    exact qjy k hk [] b c a0 a1 a2 a3 a4 (stF.1 g) (k + 11) 32 0 rfl (by omega)
end Go.Proofs.YtoldpdhhfmlckaaGreat
end
section
namespace Go.Proofs.YtoldpdhhfmlckaaGreat
open Go.Ev
theorem qh4 : ∀ (d : List Int) (M : Int), (∀ q, q < d.length → d.getD q 0 ≤ M) → isum d ≤ M * d.length
  | [], M, h => by show (0 : Int) ≤ M * ((0 : Nat) : Int); omega
  | x :: d, M, h => by
    have a := qh4 d M (fun q hq => by have := h (q + 1) (by simpa using hq); simpa using this)
    have b := h 0 (by simp)
    have b' : x ≤ M := b
    have e : M * ((x :: d).length : Int) = M * d.length + M := by rw [List.length_cons, Int.natCast_add, Int.mul_add]; simp
    rw [e]
    simp only [isum]; omega
end Go.Proofs.YtoldpdhhfmlckaaGreat
end
section
namespace Go.Proofs.YtoldpdhhfmlckaaGreat
open Go.Ev
theorem qn2 (w : List Int) (h : ∀ j, w.getD j 0 ≠ 1) : ∀ (n : Nat) (s : S3), spS w n s = s
  | 0, s => rfl
  | n + 1, s => by unfold spS; rw [if_neg (h n)]; exact qn2 w h n s
theorem qjp : ∀ (n : Nat) (s : S3), unb s.1 < 0 → lvS n s = s
  | 0, s, h => rfl
  | n + 1, s, h => by unfold lvS; rw [if_pos h]
theorem qlj (P : Cell → Bool) : ∀ (n i : Nat) (s : S3), (mgS P n i s).1.length ≤ s.1.length
  | 0, i, s => Nat.le_refl _
  | n + 1, i, s => by
    unfold mgS
    by_cases g : i + 1 < s.1.length
    · rw [if_pos g]
      by_cases h : (P (s.1.getD i zz3) && (P (s.1.getD (i + 1) zz3) && mayC s.1 i)) = true
      · rw [if_pos h]
        have a := qlj P n (i + 1) (cmS s i)
        have b : (cmS s i).1.length + 1 = s.1.length := qk7 g
        omega
      · rw [if_neg h]; exact qlj P n (i + 1) s
    · rw [if_neg g]; exact Nat.le_refl _
theorem qag {r : Int} {l : List Cell} {m t b : List Int} (F : StF r l m t b) (lo : Int) : (adS (tab l.length (wsh l m b 1073741824 lo)) (l, m, t)).1.length ≤ l.length := by
  unfold adS
  rw [qn2, qjp _ _ F.bal]
  · exact qlj _ _ _ _
  · intro j
    by_cases hj : j < l.length
    · rw [qol hj]
      have := qh8 F j
      unfold wsh
      rw [if_neg (by omega)]
      split <;> omega
    · rw [qhn (by rw [qom]; omega)]; omega
theorem qou (f : Nat → Nat) (most : Int) : ∀ n q, (∃ p, q ≤ p ∧ p < q + n ∧ qot f most n q = hq p ∧ (f p : Int) ≤ most) ∨ (qot f most n q = -1 ∧ ∀ p, q ≤ p → p < q + n → ¬ (f p : Int) ≤ most)
  | 0, q => Or.inr ⟨rfl, fun p h1 h2 => by omega⟩
  | n + 1, q => by
    unfold qot
    by_cases g : (f q : Int) ≤ most
    · rw [if_pos g]; exact Or.inl ⟨q, Nat.le_refl _, by omega, rfl, g⟩
    · rw [if_neg g]
      rcases qou f most n (q + 1) with ⟨p, h1, h2, h3, h4⟩ | ⟨h1, h2⟩
      · exact Or.inl ⟨p, by omega, by omega, h3, h4⟩
      · refine Or.inr ⟨h1, fun p h3 h4 => ?_⟩
        by_cases e : p = q
        · rw [e]; exact g
        · exact h2 p (by omega) (by omega)
theorem qov {r : Int} {l : List Cell} {m t b : List Int} (F : StF r l m t b) (n : Int) : (∃ h, tune r l m t b 0 n = h ∧ 0 ≤ h ∧ h ≤ 1073741824 ∧ ((adS (tab l.length (wsh l m b h 0)) (l, m, t)).1.length : Int) ≤ n) ∨ (tune r l m t b 0 n = -1 ∧ n < (l.length : Int)) := by
  unfold tune
  rw [stF.2 F, qdv]
  rcases qou (qaf l m t b 0) n 32 0 with ⟨p, _, h2, h3, h4⟩ | ⟨h1, h2⟩
  · have := qhr (q := p) (by omega)
    exact Or.inl ⟨hq p, h3, this.1, this.2, h4⟩
  · refine Or.inr ⟨h1, ?_⟩
    have a := h2 31 (by omega) (by omega)
    have e : hq 31 = 1073741824 := by decide
    have c := qag F 0
    unfold qaf at a
    rw [e] at a
    omega
theorem qd0 (l : List Cell) : ∀ n i, qoh (qhh l) i + qdy l n i = qoh (qhh l) (i + n)
  | 0, i => by simp [qdy]
  | n + 1, i => by
    have := qd0 l n (i + 1)
    simp only [qdy]
    rw [show i + (n + 1) = i + 1 + n by omega, ← this]
    simp only [qoh, qhh]
    omega
theorem qny (l : List Cell) (c : List Int) (C : CutF l.length c) (hl : 1 ≤ l.length) : ∀ n j, j + n < c.length → isum (qnv l c n j) + qoh (qhh l) (min (c.getD j 0) ((l.length : Int) - 1)).toNat = qoh (qhh l) (min (c.getD (j + n) 0) ((l.length : Int) - 1)).toNat
  | 0, j, h => by simp [qnv, isum]
  | n + 1, j, h => by
    have IH := qny l c C hl n (j + 1) (by omega)
    have r0 := C.rng j (by omega); have r1 := C.rng (j + 1) (by omega); have mo := C.mono j (by omega)
    rw [show j + (n + 1) = j + 1 + n by omega, ← IH]
    simp only [qnv, isum, qnq]
    by_cases g : c.getD j 0 ≤ (l.length : Int) - 1
    · have e := qd0 l (min (c.getD (j + 1) 0) ((l.length : Int) - 1) - c.getD j 0).toNat (c.getD j 0).toNat
      rw [show (c.getD j 0).toNat + (min (c.getD (j + 1) 0) ((l.length : Int) - 1) - c.getD j 0).toNat = (min (c.getD (j + 1) 0) ((l.length : Int) - 1)).toNat by omega] at e
      rw [show (min (c.getD j 0) ((l.length : Int) - 1)).toNat = (c.getD j 0).toNat by omega]
      omega
    · rw [show (min (c.getD (j + 1) 0) ((l.length : Int) - 1) - c.getD j 0).toNat = 0 by omega, show min (c.getD j 0) ((l.length : Int) - 1) = min (c.getD (j + 1) 0) ((l.length : Int) - 1) by omega]
      simp only [qdy]; omega
theorem qk4 (l : List Int) : ∀ n i a, i + n = l.length → a ≤ maxV l n i a ∧ ∀ q, i ≤ q → q < l.length → l.getD q 0 ≤ maxV l n i a
  | 0, i, a, h => ⟨Int.le_refl _, fun q h1 h2 => by omega⟩
  | n + 1, i, a, h => by
    have IH := qk4 l n (i + 1) (max (l.getD i 0) a) (by omega)
    unfold maxV
    refine ⟨by omega, fun q h1 h2 => ?_⟩
    by_cases e : q = i
    · rw [e]; omega
    · exact IH.2 q (by omega) h2
theorem qha {s : List Int} (h1 : 1 ≤ s.length) (h : ∀ x ∈ s, 0 ≤ x ∧ x ≤ 2048) : 0 ≤ qg8 s ∧ qg8 s ≤ 1000 := by
  unfold qg8
  have g := qk4 s (s.length - 1) 1 (s.getD 0 0) (by omega)
  have h0 := h _ (qho (by omega : 0 < s.length) 0)
  have m := qh4 s (maxV s (s.length - 1) 1 (s.getD 0 0)) (fun q hq => by
    by_cases e : q = 0
    · rw [e]; exact g.1
    · exact g.2 q (by omega) hq)
  have nn := qh5 (fun x hx => (h x hx).1)
  generalize maxV s (s.length - 1) 1 (s.getD 0 0) = M at *
  by_cases z : M = 0
  · rw [if_pos z]; omega
  · rw [if_neg z]
    have e1 : 0 ≤ (s.length : Int) * M := Int.mul_nonneg (by omega) (by omega)
    have e2 : (s.length : Int) * M = M * s.length := Int.mul_comm _ _
    have e3 : (s.length : Int) * M ≠ 0 := Int.mul_ne_zero (by omega) z
    rw [Int.tdiv_eq_ediv_of_nonneg (by omega)]
    refine ⟨Int.ediv_nonneg (by omega) e1, Int.ediv_le_of_le_mul (by omega) ?_⟩
    omega
theorem qpc {r : Int} {l : List Cell} {c : List Int} (hm : qla r 0 l = true) (hc : qd6 l.length c = true) :
    ∃ s, qpa r l c = some s ∧ s.length = c.length - 1 ∧ (∀ x ∈ s, 0 ≤ x ∧ x ≤ 2048) ∧ isum s = cost l ∧ 2 ≤ c.length ∧ c.length ≤ 17 ∧ 0 ≤ qg8 s ∧ qg8 s ≤ 1000 := by
  have C := cutF hc
  have L := qlf hm
  have c2 := C.l2; have c17 := C.l17
  have e : qpa r l c = some (qnv l c (c.length - 1) 0) := by unfold qpa; rw [hm, hc]; rfl
  have f := qpb e
  have S := qny l c C L.1 (c.length - 1) 0 (by omega)
  simp only [qd6, Bool.and_eq_true, decide_eq_true_eq] at hc
  rw [Nat.zero_add, hc.2.2.1, hc.2.1] at S
  rw [show (min (0 : Int) ((l.length : Int) - 1)).toNat = 0 by omega, show (min (l.length : Int) ((l.length : Int) - 1)).toNat = l.length - 1 by omega] at S
  have ef := qha f.1 f.2.2
  refine ⟨_, e, qnx _ _ _ _, f.2.2, ?_, c2, c17, ef⟩
  unfold cost
  rw [← S]; simp [qoh]
theorem qhb : ∀ (m : List Int), (∀ x ∈ m, 0 ≤ x) → ∀ x ∈ m, x ≤ isum m
  | [], _, x, h => by cases h
  | y :: m, h, x, hx => by
    have nn := qh5 (m := m) fun z hz => h z (by simp [hz])
    have ny := h y (by simp)
    simp only [isum]
    rcases List.mem_cons.1 hx with rfl | hx
    · omega
    · have := qhb m (fun z hz => h z (by simp [hz])) x hx
      omega
def qd2 (most : Int) : List Int → Nat → Int → List Int
  | [], i, n => []
  | w :: ws, i, n => if most < n + w then (i : Int) :: qd2 most ws (i + 1) (0 + w) else qd2 most ws (i + 1) (n + w)
theorem qd3 (most : Int) : ∀ (ws : List Int) (i : Nat) (n : Int), (∀ x ∈ qd2 most ws i n, (i : Int) ≤ x ∧ x < i + ws.length) ∧ (qd2 most ws i n).Pairwise (· ≤ ·) ∧ (qd2 most ws i n).length ≤ ws.length
  | [], i, n => by simp [qd2]
  | w :: ws, i, n => by
    unfold qd2
    by_cases g : most < n + w
    · rw [if_pos g]
      have h := qd3 most ws (i + 1) (0 + w)
      refine ⟨fun x hx => ?_, ?_, by simp only [List.length_cons]; omega⟩
      · rcases List.mem_cons.1 hx with rfl | hx
        · simp only [List.length_cons]; omega
        · have := h.1 x hx; simp only [List.length_cons]; omega
      · rw [List.pairwise_cons]
        exact ⟨fun x hx => by have := h.1 x hx; omega, h.2.1⟩
    · rw [if_neg g]
      have h := qd3 most ws (i + 1) (n + w)
      refine ⟨fun x hx => ?_, h.2.1, by simp only [List.length_cons]; omega⟩
      have := h.1 x hx; simp only [List.length_cons]; omega
theorem qd4 (most : Int) : ∀ (ws : List Int) (i : Nat) (n : Int), (∀ x ∈ ws, 0 ≤ x) → n + isum ws ≤ most → qd2 most ws i n = []
  | [], i, n, h, hs => rfl
  | w :: ws, i, n, h, hs => by
    simp only [isum] at hs
    have nn := qh5 (m := ws) fun x hx => h x (by simp [hx])
    unfold qd2
    rw [if_neg (by omega)]
    exact qd4 most ws (i + 1) (n + w) (fun x hx => h x (by simp [hx])) (by omega)
theorem qoa : ∀ (n : Nat) (l : List Int), l.Pairwise (· ≤ ·) → n < l.length → srt l n = true
  | 0, l, h, hn => rfl
  | n + 1, l, h, hn => by
    unfold srt
    rw [qoa n l h (by omega), Bool.and_true]
    have := List.pairwise_iff_getElem.1 h n (n + 1) (by omega) hn (by omega)
    simp only [List.getD_eq_getElem?_getD, List.getElem?_eq_getElem hn, List.getElem?_eq_getElem (show n < l.length by omega), Option.getD_some, Bool.not_eq_true', decide_eq_false_iff_not]
    omega
def qd7 (w : List Int) (most : Int) (p : Nat) : List Int := 0 :: (qd2 most w 0 0 ++ List.replicate (p + 1) (w.length : Int))
theorem qea (w : List Int) (most : Int) (p : Nat) (h : (qd7 w most p).length ≤ 17) : qd6 w.length (qd7 w most p) = true := by
  have f := qd3 most w 0 0
  have hl : (qd7 w most p).length = (qd2 most w 0 0).length + (p + 1) + 1 := by simp [qd7]
  simp only [qd6, Bool.and_eq_true, decide_eq_true_eq, qhx]
  refine ⟨by omega, rfl, ?_, ?_⟩
  · have hl' : (qd7 w most p).length - 1 = (0 :: (qd2 most w 0 0 ++ List.replicate p (w.length : Int))).length := by
      rw [hl, List.length_cons, List.length_append, List.length_replicate]; omega
    rw [hl']
    unfold qd7
    rw [List.replicate_succ', ← List.append_assoc, ← List.cons_append, List.getD_eq_getElem?_getD, List.getElem?_concat_length]
    rfl
  · refine qoa _ _ ?_ (by omega)
    unfold qd7
    rw [List.pairwise_cons, List.pairwise_append]
    refine ⟨fun x hx => ?_, f.2.1, List.pairwise_replicate.2 (Or.inr (Int.le_refl _)), fun x hx y hy => ?_⟩
    · rcases List.mem_append.1 hx with hx | hx
      · have := f.1 x hx; omega
      · have := List.eq_of_mem_replicate hx; omega
    · have a := f.1 x hx
      have b := List.eq_of_mem_replicate hy
      omega
end Go.Proofs.YtoldpdhhfmlckaaGreat
end
section
namespace Go.Proofs.YtoldpdhhfmlckaaGreat
open Go.Ev
theorem qfk (k : Nat) (az : Bool) (a : List Int) : go (k + 1) laws_big [(.arr false (az) (.ints IntKind.u8 (a)))] =
 some [(.bool (decide ((1048576 : Int) < nI (List.length a))))] := by kernel_rfl
def qnb (x0 : Int) (z1 : Bool) (l2 : List (Int × Int × Int)) (x3 : Int) (z4 : Bool) (l5 : List Int) : St := ⟨fill 29 [(1, (.ptr 1 (0) (0))), (3, (.sl 2 none)), (4, (.int .i64 (x0)))], [], [(.arr false (z1) (.r3 (l2))), (.box true [(.int .i64 (x3)), (.sl 0 none)]), (.arr true (z4) (.ints .i64 (l5)))]⟩
theorem qgb (k : Nat) (a0 : Int) (a1z : Bool) (a1 : List (Int × Int × Int)) : go (k + 1) spec_WeightsOf [(.agg [(.int .i64 (a0)), (.arr false (a1z) (.r3 (a1)))])] =
 lp k spec_WeightsOf [] [] 3 k (qnb (0 : Int) a1z a1 a0 false ([])) := by kernel_rfl
theorem qi5 (k n : Nat) (fu : List (Nat × Nat)) (x0 : Int) (z1 : Bool) (l2 : List (Int × Int × Int)) (x3 : Int) (z4 : Bool) (l5 : List Int) : lp k spec_WeightsOf [] fu 3 (n + 1) (qnb x0 z1 l2 x3 z4 l5) =
 cond (decide (x0 < nI (List.length l2)))
 ((go k spec_MeshOk [(.agg [(.int .i64 (x3)), (.arr false (z1) (.r3 (l2)))])]).bind fun r0 =>
 cond (bit (nth r0 0))
 (cond (decide ((0 : Int) ≤ x0) && decide (x0 < nI (List.length l2)))
 (cond (decide ((0 : Int) ≤ IntKind.wrap IntKind.u64 (Prod.fst (Prod.snd (List.getD l2 (Int.toNat x0) zz3)))))
 (cond (decide (List.length (l5 ++ [IntKind.wrap .i64 ((1 : Int) * (2 : Int) ^ shiftN .i64 (IntKind.wrap IntKind.u64 (Prod.fst (Prod.snd (List.getD l2 (Int.toNat x0) zz3)))))]) ≤ bigLen))
 (lp k spec_WeightsOf [] fu 3 n (qnb (IntKind.wrap .i64 (x0 + (1 : Int))) z1 l2 x3 (z4 && decide (List.length (l5 ++ [IntKind.wrap .i64 ((1 : Int) * (2 : Int) ^ shiftN .i64 (IntKind.wrap IntKind.u64 (Prod.fst (Prod.snd (List.getD l2 (Int.toNat x0) zz3)))))]) = 0)) (l5 ++ [IntKind.wrap .i64 ((1 : Int) * (2 : Int) ^ shiftN .i64 (IntKind.wrap IntKind.u64 (Prod.fst (Prod.snd (List.getD l2 (Int.toNat x0) zz3)))))])))
 (none))
 (none))
 (none))
 (some [(.arr true (z4) (.ints .i64 (l5)))]))
 (some [(.arr true (z4) (.ints .i64 (l5)))]) := by kernel_rfl
def qm7 (x0 : Int) (z1 : Bool) (l2 : List Int) (z3 : Bool) (l4 : List Int) : St := ⟨fill 60 [(0, (.sl 0 none)), (1, (.int .i64 (x0))), (9, (.sl 1 none))], [], [(.arr false (z1) (.ints .i64 (l2))), (.arr true (z3) (.ints .i64 (l4)))]⟩
def qm8 (x0 x1 x2 : Int) (z3 : Bool) (l4 : List Int) : St := ⟨fill 60 [(0, (.sl 0 none)), (1, (.int .i64 (x0))), (6, (.int .i64 (x1))), (7, (.int .i64 (x2)))], [], [(.arr false (z3) (.ints .i64 (l4)))]⟩
theorem qf6 (k : Nat) (az : Bool) (a : List Int) (b : Int) : go (k + 1) spec_PartitionOf [(.arr false (az) (.ints .i64 (a))), (.int .i64 (b))] =
 (go k spec_l01In [(.int .i64 (b)), (.int .i64 ((1 : Int))), (.int .i64 ((16 : Int)))]).bind fun r0 =>
 cond (!bit (nth r0 0))
 (some [(.arr true (false) (.ints .i64 ([]))), (.int .i64 ((-1 : Int)))])
 (cond (decide (nI (List.length a) = (0 : Int)))
 (some [(.arr true (false) (.ints .i64 ([]))), (.int .i64 ((-1 : Int)))])
 ((go k spec_l22Weights [(.arr false (az) (.ints .i64 (a)))]).bind fun r1 =>
 cond (!bit (nth r1 0))
 (some [(.arr true (false) (.ints .i64 ([]))), (.int .i64 ((-1 : Int)))])
 ((go k spec_l22Top [(.arr false (az) (.ints .i64 (a)))]).bind fun r2 =>
 (go k spec_l07Sum [(.arr false (az) (.ints .i64 (a)))]).bind fun r3 =>
 lp k spec_PartitionOf [] [] 5 k (qm8 b (D.toInt (nth r2 0)) (D.toInt (nth r3 0)) az a)))) := by kernel_rfl
theorem qi1 (k n : Nat) (fu : List (Nat × Nat)) (x0 : Int) (z1 : Bool) (l2 : List Int) (z3 : Bool) (l4 : List Int) : lp k spec_PartitionOf [] fu 11 (n + 1) (qm7 x0 z1 l2 z3 l4) =
 cond (decide (nI (List.length l4) < IntKind.wrap .i64 (x0 + (1 : Int))))
 (cond (decide (List.length (l4 ++ [nI (List.length l2)]) ≤ bigLen))
 (lp k spec_PartitionOf [] fu 11 n (qm7 x0 z1 l2 (z3 && decide (List.length (l4 ++ [nI (List.length l2)]) = 0)) (l4 ++ [nI (List.length l2)])))
 (none))
 ((go k spec_MaxPart [(.arr false (z1) (.ints .i64 (l2))), (.arr false (z3) (.ints .i64 (l4)))]).bind fun r0 =>
 some [(.arr true (z3) (.ints .i64 (l4))), (.int .i64 (D.toInt (nth r0 0)))]) := by kernel_rfl
theorem qi2 (k n : Nat) (fu : List (Nat × Nat)) (x0 x1 x2 : Int) (z3 : Bool) (l4 : List Int) : lp k spec_PartitionOf [] fu 5 (n + 1) (qm8 x0 x1 x2 z3 l4) =
 cond (decide (x1 < x2))
 ((go k spec_FewestParts [(.arr false (z3) (.ints .i64 (l4))), (.int .i64 (IntKind.wrap .i64 (Int.tdiv (IntKind.wrap .i64 (x1 + x2)) (2 : Int))))]).bind fun r0 =>
 cond (decide (D.toInt (nth r0 0) ≤ x0))
 (lp k spec_PartitionOf [] fu 5 n (qm8 x0 x1 (IntKind.wrap .i64 (Int.tdiv (IntKind.wrap .i64 (x1 + x2)) (2 : Int))) z3 l4))
 (lp k spec_PartitionOf [] fu 5 n (qm8 x0 (IntKind.wrap .i64 (IntKind.wrap .i64 (Int.tdiv (IntKind.wrap .i64 (x1 + x2)) (2 : Int)) + (1 : Int))) x2 z3 l4)))
 ((go k spec_l22Cut [(.arr false (z3) (.ints .i64 (l4))), (.int .i64 (x1))]).bind fun r1 =>
 lp k spec_PartitionOf [] fu 11 k (qm7 x0 z3 l4 (D.nil (nth r1 0)) (D.ints (nth r1 0)))) := by kernel_rfl
def qm5 (x0 x1 : Int) (z2 : Bool) (l3 : List Int) (z4 : Bool) (l5 : List Int) : St := ⟨fill 39 [(0, (.sl 0 none)), (1, (.sl 1 none)), (5, (.int .i64 (x0))), (6, (.int .i64 (x1)))], [], [(.arr false (z2) (.ints .i64 (l3))), (.arr false (z4) (.ints .i64 (l5)))]⟩
theorem qf3 (k : Nat) (az : Bool) (a : List Int) (bz : Bool) (b : List Int) : go (k + 1) spec_MaxPart [(.arr false (az) (.ints .i64 (a))), (.arr false (bz) (.ints .i64 (b)))] =
 (go k spec_CutsOk [(.int .i64 (nI (List.length a))), (.arr false (bz) (.ints .i64 (b)))]).bind fun r0 =>
 cond (!bit (nth r0 0))
 (some [(.int .i64 ((-1 : Int)))])
 ((go k spec_l22Weights [(.arr false (az) (.ints .i64 (a)))]).bind fun r1 =>
 cond (!bit (nth r1 0))
 (some [(.int .i64 ((-1 : Int)))])
 (lp k spec_MaxPart [] [] 5 k (qm5 (0 : Int) (0 : Int) az a bz b))) := by kernel_rfl
theorem qiz (k n : Nat) (fu : List (Nat × Nat)) (x0 x1 : Int) (z2 : Bool) (l3 : List Int) (z4 : Bool) (l5 : List Int) : lp k spec_MaxPart [] fu 5 (n + 1) (qm5 x0 x1 z2 l3 z4 l5) =
 cond (decide (IntKind.wrap .i64 (x1 + (1 : Int)) < nI (List.length l5)))
 (cond (decide ((0 : Int) ≤ x1) && decide (x1 < nI (List.length l5)))
 (cond (decide ((0 : Int) ≤ IntKind.wrap .i64 (x1 + (1 : Int))) && decide (IntKind.wrap .i64 (x1 + (1 : Int)) < nI (List.length l5)))
 (cond (decide ((0 : Int) ≤ List.getD l5 (Int.toNat x1) (0 : Int)) && decide (List.getD l5 (Int.toNat x1) (0 : Int) ≤ List.getD l5 (Int.toNat (IntKind.wrap .i64 (x1 + (1 : Int)))) (0 : Int)) && decide (List.getD l5 (Int.toNat (IntKind.wrap .i64 (x1 + (1 : Int)))) (0 : Int) ≤ nI (List.length l3)))
 ((go k spec_l07Sum [(.arr false (z2) (.ints .i64 (List.take (Int.toNat (List.getD l5 (Int.toNat (IntKind.wrap .i64 (x1 + (1 : Int)))) (0 : Int)) - Int.toNat (List.getD l5 (Int.toNat x1) (0 : Int))) (List.drop (0 + Int.toNat (List.getD l5 (Int.toNat x1) (0 : Int))) l3))))]).bind fun r0 =>
 lp k spec_MaxPart [] fu 5 n (qm5 (if D.toInt (nth r0 0) > x0 then D.toInt (nth r0 0) else x0) (IntKind.wrap .i64 (x1 + (1 : Int))) z2 l3 z4 l5))
 (none))
 (none))
 (none))
 (some [(.int .i64 (x0))]) := by kernel_rfl
def qnp (x0 : Int) (z1 : Bool) (l2 : List Int) : St := ⟨fill 19 [(0, (.sl 0 none)), (3, (.int .i64 (x0)))], [], [(.arr false (z1) (.ints .i64 (l2)))]⟩
theorem qg6 (k : Nat) (az : Bool) (a : List Int) : go (k + 1) spec_l22Weights [(.arr false (az) (.ints .i64 (a)))] =
 lp k spec_l22Weights [] [] 2 k (qnp (0 : Int) az a) := by kernel_rfl
theorem qjj (k n : Nat) (fu : List (Nat × Nat)) (x0 : Int) (z1 : Bool) (l2 : List Int) : lp k spec_l22Weights [] fu 2 (n + 1) (qnp x0 z1 l2) =
 cond (decide (x0 < nI (List.length l2)))
 (cond (decide ((0 : Int) ≤ x0) && decide (x0 < nI (List.length l2)))
 ((go k spec_l01In [(.int .i64 (List.getD l2 (Int.toNat x0) (0 : Int))), (.int .i64 (0 : Int)), (.int .i64 ((1000000 : Int)))]).bind fun r0 =>
 cond (!bit (nth r0 0))
 (some [(.bool (false))])
 (lp k spec_l22Weights [] fu 2 n (qnp (IntKind.wrap .i64 (x0 + (1 : Int))) z1 l2)))
 (none))
 (some [(.bool (decide (nI (List.length l2) ≤ (1000 : Int))))]) := by kernel_rfl
def qno (x0 x1 : Int) (z2 : Bool) (l3 : List Int) : St := ⟨fill 18 [(0, (.sl 0 none)), (3, (.int .i64 (x0))), (4, (.int .i64 (x1)))], [], [(.arr false (z2) (.ints .i64 (l3)))]⟩
theorem qg5 (k : Nat) (az : Bool) (a : List Int) : go (k + 1) spec_l22Top [(.arr false (az) (.ints .i64 (a)))] =
 lp k spec_l22Top [] [] 3 k (qno (0 : Int) (0 : Int) az a) := by kernel_rfl
theorem qji (k n : Nat) (fu : List (Nat × Nat)) (x0 x1 : Int) (z2 : Bool) (l3 : List Int) : lp k spec_l22Top [] fu 3 (n + 1) (qno x0 x1 z2 l3) =
 cond (decide (x1 < nI (List.length l3)))
 (cond (decide ((0 : Int) ≤ x1) && decide (x1 < nI (List.length l3)))
 (lp k spec_l22Top [] fu 3 n (qno (if List.getD l3 (Int.toNat x1) (0 : Int) > x0 then List.getD l3 (Int.toNat x1) (0 : Int) else x0) (IntKind.wrap .i64 (x1 + (1 : Int))) z2 l3))
 (none))
 (some [(.int .i64 (x0))]) := by kernel_rfl
def qnn (x0 x1 x2 : Int) (z3 : Bool) (l4 : List Int) (z5 : Bool) (l6 : List Int) : St := ⟨fill 38 [(0, (.sl 0 none)), (1, (.int .i64 (x0))), (5, (.sl 1 none)), (6, (.int .i64 (x1))), (7, (.int .i64 (x2)))], [], [(.arr false (z3) (.ints .i64 (l4))), (.arr true (z5) (.ints .i64 (l6)))]⟩
theorem qg4 (k : Nat) (az : Bool) (a : List Int) (b : Int) : go (k + 1) spec_l22Cut [(.arr false (az) (.ints .i64 (a))), (.int .i64 (b))] =
 lp k spec_l22Cut [] [] 4 k (qnn b (0 : Int) (0 : Int) az a false ([(0 : Int)])) := by kernel_rfl
theorem qjh (k n : Nat) (fu : List (Nat × Nat)) (x0 x1 x2 : Int) (z3 : Bool) (l4 : List Int) (z5 : Bool) (l6 : List Int) : lp k spec_l22Cut [] fu 4 (n + 1) (qnn x0 x1 x2 z3 l4 z5 l6) =
 cond (decide (x2 < nI (List.length l4)))
 (cond (decide ((0 : Int) ≤ x2) && decide (x2 < nI (List.length l4)))
 (cond (decide (x0 < IntKind.wrap .i64 (x1 + List.getD l4 (Int.toNat x2) (0 : Int))))
 (cond (decide (List.length (l6 ++ [x2]) ≤ bigLen))
 (cond (decide ((0 : Int) ≤ x2) && decide (x2 < nI (List.length l4)))
 (lp k spec_l22Cut [] fu 4 n (qnn x0 (IntKind.wrap .i64 ((0 : Int) + List.getD l4 (Int.toNat x2) (0 : Int))) (IntKind.wrap .i64 (x2 + (1 : Int))) z3 l4 (z5 && decide (List.length (l6 ++ [x2]) = 0)) (l6 ++ [x2])))
 (none))
 (none))
 (cond (decide ((0 : Int) ≤ x2) && decide (x2 < nI (List.length l4)))
 (lp k spec_l22Cut [] fu 4 n (qnn x0 (IntKind.wrap .i64 (x1 + List.getD l4 (Int.toNat x2) (0 : Int))) (IntKind.wrap .i64 (x2 + (1 : Int))) z3 l4 z5 l6))
 (none)))
 (none))
 (cond (decide (List.length (l6 ++ [nI (List.length l4)]) ≤ bigLen))
 (some [(.arr true (z5 && decide (List.length (l6 ++ [nI (List.length l4)]) = 0)) (.ints .i64 (l6 ++ [nI (List.length l4)])))])
 (none)) := by kernel_rfl
theorem qfy (k : Nat) (az : Bool) (a : List Int) (b : Int) : go (k + 1) spec_FewestParts [(.arr false (az) (.ints .i64 (a))), (.int .i64 (b))] =
 (go k spec_l22Weights [(.arr false (az) (.ints .i64 (a)))]).bind fun r0 =>
 cond (!bit (nth r0 0))
 (some [(.int .i64 ((-1 : Int)))])
 (cond (decide (nI (List.length a) = (0 : Int)))
 (some [(.int .i64 (0 : Int))])
 ((go k spec_l22Top [(.arr false (az) (.ints .i64 (a)))]).bind fun r1 =>
 cond (decide (b < D.toInt (nth r1 0)))
 (some [(.int .i64 ((-1 : Int)))])
 ((go k spec_l22Cut [(.arr false (az) (.ints .i64 (a))), (.int .i64 (b))]).bind fun r2 =>
 some [(.int .i64 (IntKind.wrap .i64 (nI (List.length (D.ints (nth r2 0))) - (1 : Int))))]))) := by kernel_rfl
theorem qfr (k : Nat) (a0 : Int) (a1z : Bool) (a1 : List (Int × Int × Int)) (a2z : Bool) (a2 : List Int) (a3z : Bool) (a3 : List Int) (a4z : Bool) (a4 : List Int) (b c : Int) : go (k + 1) spec_AdaptState [(.agg [(.int .i64 (a0)), (.arr false (a1z) (.r3 (a1))), (.arr false (a2z) (.ints .i64 (a2))), (.arr false (a3z) (.ints .i64 (a3))), (.arr false (a4z) (.ints .i64 (a4)))]), (.int .i64 (b)), (.int .i64 (c))] =
 (go k spec_StateOk [(.agg [(.int .i64 (a0)), (.arr false (a1z) (.r3 (a1))), (.arr false (a2z) (.ints .i64 (a2))), (.arr false (a3z) (.ints .i64 (a3))), (.arr false (a4z) (.ints .i64 (a4)))])]).bind fun r0 =>
 cond (!bit (nth r0 0))
 ((go k spec_l07Copy [(.agg [(.int .i64 (a0)), (.arr false (a1z) (.r3 (a1))), (.arr false (a2z) (.ints .i64 (a2))), (.arr false (a3z) (.ints .i64 (a3))), (.arr false (a4z) (.ints .i64 (a4)))])]).bind fun r1 =>
 some [(.agg [(.int .i64 (D.toInt (D.cell 0 (nth r1 0)))), (.arr true (D.nil (D.cell 1 (nth r1 0))) (.r3 (D.r3 (D.cell 1 (nth r1 0))))), (.arr true (D.nil (D.cell 2 (nth r1 0))) (.ints .i64 (D.ints (D.cell 2 (nth r1 0))))), (.arr true (D.nil (D.cell 3 (nth r1 0))) (.ints .i64 (D.ints (D.cell 3 (nth r1 0))))), (.arr true (D.nil (D.cell 4 (nth r1 0))) (.ints .i64 (D.ints (D.cell 4 (nth r1 0)))))])])
 ((go k spec_l17Adapt [(.agg [(.int .i64 (a0)), (.arr false (a1z) (.r3 (a1))), (.arr false (a2z) (.ints .i64 (a2))), (.arr false (a3z) (.ints .i64 (a3))), (.arr false (a4z) (.ints .i64 (a4)))]), (.int .i64 (b)), (.int .i64 (c))]).bind fun r2 =>
 some [(.agg [(.int .i64 (D.toInt (D.cell 0 (nth r2 0)))), (.arr true (D.nil (D.cell 1 (nth r2 0))) (.r3 (D.r3 (D.cell 1 (nth r2 0))))), (.arr true (D.nil (D.cell 2 (nth r2 0))) (.ints .i64 (D.ints (D.cell 2 (nth r2 0))))), (.arr true (D.nil (D.cell 3 (nth r2 0))) (.ints .i64 (D.ints (D.cell 3 (nth r2 0))))), (.arr true (D.nil (D.cell 4 (nth r2 0))) (.ints .i64 (D.ints (D.cell 4 (nth r2 0)))))])]) := by kernel_rfl
theorem qfu (k : Nat) (a0 : Int) (a1z : Bool) (a1 : List (Int × Int × Int)) : go (k + 1) spec_CostOf [(.agg [(.int .i64 (a0)), (.arr false (a1z) (.r3 (a1)))])] =
 (go k spec_MeshOk [(.agg [(.int .i64 (a0)), (.arr false (a1z) (.r3 (a1)))])]).bind fun r0 =>
 cond (!bit (nth r0 0))
 (some [(.int .i64 (0 : Int))])
 ((go k spec_l16Cost [(.agg [(.int .i64 (a0)), (.arr false (a1z) (.r3 (a1)))])]).bind fun r1 =>
 some [(.int .i64 (D.toInt (nth r1 0)))]) := by kernel_rfl
def qmv (x0 x1 x2 x3 : Int) (z4 : Bool) (l5 : List (Int × Int × Int)) (z6 : Bool) (l7 : List Int) (z8 : Bool) (l9 : List Int) (z10 : Bool) (l11 : List Int) (x12 : Int) (z13 : Bool) (l14 : List Int) (z15 : Bool) (l16 : List Int) : St := ⟨fill 102 [(3, (.ptr 4 (0) (0))), (5, (.int .i64 (x0))), (6, (.int .i64 (x1))), (7, (.sl 5 none)), (9, (.sl 6 none)), (10, (.int .i64 (x2))), (11, (.int .i64 (x3)))], [], [(.arr true (z4) (.r3 (l5))), (.arr true (z6) (.ints .i64 (l7))), (.arr true (z8) (.ints .i64 (l9))), (.arr true (z10) (.ints .i64 (l11))), (.box true [(.int .i64 (x12)), (.sl 0 none), (.sl 1 none), (.sl 2 none), (.sl 3 none)]), (.arr true (z13) (.ints .i64 (l14))), (.arr true (z15) (.ints .i64 (l16)))]⟩
theorem qfj (k : Nat) (az : Bool) (a : List Int) : go (k + 1) laws_FnBudgets [(.arr false (az) (.ints IntKind.u8 (a)))] =
 (go k laws_big [(.arr false (az) (.ints IntKind.u8 (a)))]).bind fun r0 =>
 cond (bit (nth r0 0))
 (some [(.bool (true))])
 ((go k spec_DrawState [(.arr false (az) (.ints IntKind.u8 (a)))]).bind fun r1 =>
 (go k spec_DrawPlaces [(.arr false (az) (.ints IntKind.u8 (a)))]).bind fun r2 =>
 cond (decide ((0 : Int) ≤ (0 : Int)) && decide ((0 : Int) < nI (List.length (D.ints (nth r2 0)))))
 ((go k impl_TuneHigh [(.agg [(.int .i64 (D.toInt (D.cell 0 (nth r1 0)))), (.arr false (D.nil (D.cell 1 (nth r1 0))) (.r3 (D.r3 (D.cell 1 (nth r1 0))))), (.arr false (D.nil (D.cell 2 (nth r1 0))) (.ints .i64 (D.ints (D.cell 2 (nth r1 0))))), (.arr false (D.nil (D.cell 3 (nth r1 0))) (.ints .i64 (D.ints (D.cell 3 (nth r1 0))))), (.arr false (D.nil (D.cell 4 (nth r1 0))) (.ints .i64 (D.ints (D.cell 4 (nth r1 0)))))]), (.int .i64 (0 : Int)), (.int .i64 (IntKind.wrap .i64 ((1 : Int) + Int.tmod (List.getD (D.ints (nth r2 0)) (Int.toNat (0 : Int)) (0 : Int)) (60 : Int))))]).bind fun r3 =>
 (go k spec_WeightsOf [(.agg [(.int .i64 (D.toInt (D.cell 0 (nth r1 0)))), (.arr false (D.nil (D.cell 1 (nth r1 0))) (.r3 (D.r3 (D.cell 1 (nth r1 0)))))])]).bind fun r4 =>
 cond (decide ((0 : Int) ≤ (1 : Int)) && decide ((1 : Int) < nI (List.length (D.ints (nth r2 0)))))
 ((go k spec_PartitionOf [(.arr false (D.nil (nth r4 0)) (.ints .i64 (D.ints (nth r4 0)))), (.int .i64 (IntKind.wrap .i64 ((1 : Int) + Int.tmod (List.getD (D.ints (nth r2 0)) (Int.toNat (1 : Int)) (0 : Int)) (5 : Int))))]).bind fun r5 =>
 (go k impl_WorkShare [(.agg [(.int .i64 (D.toInt (D.cell 0 (nth r1 0)))), (.arr false (D.nil (D.cell 1 (nth r1 0))) (.r3 (D.r3 (D.cell 1 (nth r1 0)))))]), (.arr false (D.nil (nth r5 0)) (.ints .i64 (D.ints (nth r5 0))))]).bind fun r6 =>
 lp k laws_FnBudgets [] [] 11 k (qmv (IntKind.wrap .i64 ((1 : Int) + Int.tmod (List.getD (D.ints (nth r2 0)) (Int.toNat (0 : Int)) (0 : Int)) (60 : Int))) (D.toInt (nth r3 0)) (0 : Int) (0 : Int) (D.nil (D.cell 1 (nth r1 0))) (D.r3 (D.cell 1 (nth r1 0))) (D.nil (D.cell 2 (nth r1 0))) (D.ints (D.cell 2 (nth r1 0))) (D.nil (D.cell 3 (nth r1 0))) (D.ints (D.cell 3 (nth r1 0))) (D.nil (D.cell 4 (nth r1 0))) (D.ints (D.cell 4 (nth r1 0))) (D.toInt (D.cell 0 (nth r1 0))) (D.nil (nth r5 0)) (D.ints (nth r5 0)) (D.nil (nth r6 0)) (D.ints (nth r6 0))))
 (none))
 (none)) := by kernel_rfl
theorem qip (k n : Nat) (fu : List (Nat × Nat)) (x0 x1 x2 x3 : Int) (z4 : Bool) (l5 : List (Int × Int × Int)) (z6 : Bool) (l7 : List Int) (z8 : Bool) (l9 : List Int) (z10 : Bool) (l11 : List Int) (x12 : Int) (z13 : Bool) (l14 : List Int) (z15 : Bool) (l16 : List Int) : lp k laws_FnBudgets [] fu 11 (n + 1) (qmv x0 x1 x2 x3 z4 l5 z6 l7 z8 l9 z10 l11 x12 z13 l14 z15 l16) =
 cond (decide (x3 < nI (List.length l16)))
 (cond (decide ((0 : Int) ≤ x3) && decide (x3 < nI (List.length l16)))
 (lp k laws_FnBudgets [] fu 11 n (qmv x0 x1 (IntKind.wrap .i64 (x2 + List.getD l16 (Int.toNat x3) (0 : Int))) (IntKind.wrap .i64 (x3 + (1 : Int))) z4 l5 z6 l7 z8 l9 z10 l11 x12 z13 l14 z15 l16))
 (none))
 ((go k impl_Efficiency [(.agg [(.int .i64 (x12)), (.arr false (z4) (.r3 (l5)))]), (.arr false (z13) (.ints .i64 (l14)))]).bind fun r0 =>
 cond (decide ((0 : Int) ≤ x1))
 ((go k spec_AdaptState [(.agg [(.int .i64 (x12)), (.arr false (z4) (.r3 (l5))), (.arr false (z6) (.ints .i64 (l7))), (.arr false (z8) (.ints .i64 (l9))), (.arr false (z10) (.ints .i64 (l11)))]), (.int .i64 (x1)), (.int .i64 (0 : Int))]).bind fun r1 =>
 cond (decide (x0 < nI (List.length (D.ints (D.cell 2 (nth r1 0))))))
 (some [(.bool (false))])
 (cond (decide (x1 < (0 : Int)))
 (cond (decide (nI (List.length l7) ≤ x0))
 (some [(.bool (false))])
 (cond (decide (nI (List.length l16) = IntKind.wrap .i64 (nI (List.length l14) - (1 : Int))))
 ((go k spec_CostOf [(.agg [(.int .i64 (x12)), (.arr false (z4) (.r3 (l5)))])]).bind fun r2 =>
 cond (decide (x2 = D.toInt (nth r2 0)))
 (cond (decide ((0 : Int) ≤ D.toInt (nth r0 0)))
 (some [(.bool (decide (D.toInt (nth r0 0) ≤ (1000 : Int))))])
 (some [(.bool (false))]))
 (some [(.bool (false))]))
 (some [(.bool (false))])))
 (cond (decide (nI (List.length l16) = IntKind.wrap .i64 (nI (List.length l14) - (1 : Int))))
 ((go k spec_CostOf [(.agg [(.int .i64 (x12)), (.arr false (z4) (.r3 (l5)))])]).bind fun r3 =>
 cond (decide (x2 = D.toInt (nth r3 0)))
 (cond (decide ((0 : Int) ≤ D.toInt (nth r0 0)))
 (some [(.bool (decide (D.toInt (nth r0 0) ≤ (1000 : Int))))])
 (some [(.bool (false))]))
 (some [(.bool (false))]))
 (some [(.bool (false))]))))
 (cond (decide (x1 < (0 : Int)))
 (cond (decide (nI (List.length l7) ≤ x0))
 (some [(.bool (false))])
 (cond (decide (nI (List.length l16) = IntKind.wrap .i64 (nI (List.length l14) - (1 : Int))))
 ((go k spec_CostOf [(.agg [(.int .i64 (x12)), (.arr false (z4) (.r3 (l5)))])]).bind fun r4 =>
 cond (decide (x2 = D.toInt (nth r4 0)))
 (cond (decide ((0 : Int) ≤ D.toInt (nth r0 0)))
 (some [(.bool (decide (D.toInt (nth r0 0) ≤ (1000 : Int))))])
 (some [(.bool (false))]))
 (some [(.bool (false))]))
 (some [(.bool (false))])))
 (cond (decide (nI (List.length l16) = IntKind.wrap .i64 (nI (List.length l14) - (1 : Int))))
 ((go k spec_CostOf [(.agg [(.int .i64 (x12)), (.arr false (z4) (.r3 (l5)))])]).bind fun r5 =>
 cond (decide (x2 = D.toInt (nth r5 0)))
 (cond (decide ((0 : Int) ≤ D.toInt (nth r0 0)))
 (some [(.bool (decide (D.toInt (nth r0 0) ≤ (1000 : Int))))])
 (some [(.bool (false))]))
 (some [(.bool (false))]))
 (some [(.bool (false))])))) := by kernel_rfl

end Go.Proofs.YtoldpdhhfmlckaaGreat
end
