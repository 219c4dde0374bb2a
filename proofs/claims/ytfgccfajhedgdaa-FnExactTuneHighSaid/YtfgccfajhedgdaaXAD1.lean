/- Leaves split and merged, one step each. -/
import Derived.Test.YtfgccfajhedgdaaXA
namespace Go.Proofs.Ytfgccfajhedgdaa
open Go.Ev
set_option linter.unusedVariables false
theorem e_spec_SplitEven (k : Nat) (a : Int) : go (k + 1) spec_SplitEven [(.int .i64 (a))] =
    cond (decide (a < (0 : Int)))
  (some [(.int .i64 ((0 : Int))), (.int .i64 ((0 : Int)))])
  (some [(.int .i64 (IntKind.wrap .i64 (a - IntKind.wrap .i64 (Int.tdiv a (2 : Int))))), (.int .i64 (IntKind.wrap .i64 (Int.tdiv a (2 : Int))))]) := by kernel_rfl
theorem e_impl_SplitEven (k : Nat) (a : Int) : go (k + 1) impl_SplitEven [(.int .i64 (a))] =
    cond (decide (a < (0 : Int)))
  (some [(.int .i64 ((0 : Int))), (.int .i64 ((0 : Int)))])
  (some [(.int .i64 (IntKind.wrap .i64 (a - IntKind.wrap .i64 (Int.tdiv a (2 : Int))))), (.int .i64 (IntKind.wrap .i64 (Int.tdiv a (2 : Int))))]) := by kernel_rfl
theorem e_impl_child (k : Nat) (a0 : Int) (a1 : Int) (a2 : Int) (b : Int) : go (k + 1) impl_child [(.agg [(.int .i64 (a0)), (.int .i64 (a1)), (.int .i64 (a2))]), (.int .i64 (b))] =
    some [(.agg [(.int .i64 (a0)), (.int .i64 (IntKind.wrap .i64 (a1 + (1 : Int)))), (.int .i64 (IntKind.wrap .i64 (IntKind.wrap .i64 ((2 : Int) * a2) + b)))])] := by kernel_rfl
theorem e_impl_Mesh_refine (k : Nat) (a0 : Int) (a1z : Bool) (a1 : List (Int × Int × Int)) (b : Int) : go (k + 1) impl_Mesh_refine [(.ptr true [(.int .i64 (a0)), (.arr true (a1z) (.r3 (a1)))]), (.int .i64 (b))] =
    cond (decide ((0 : Int) ≤ b) && decide (b < nI (List.length a1)))
  ((go k impl_child [(.agg [(.int .i64 (Prod.fst (List.getD a1 (Int.toNat b) zz3))), (.int .i64 (Prod.fst (Prod.snd (List.getD a1 (Int.toNat b) zz3)))), (.int .i64 (Prod.snd (Prod.snd (List.getD a1 (Int.toNat b) zz3))))]), (.int .i64 ((0 : Int)))]).bind fun r0 =>
    (go k impl_child [(.agg [(.int .i64 (Prod.fst (List.getD a1 (Int.toNat b) zz3))), (.int .i64 (Prod.fst (Prod.snd (List.getD a1 (Int.toNat b) zz3)))), (.int .i64 (Prod.snd (Prod.snd (List.getD a1 (Int.toNat b) zz3))))]), (.int .i64 ((1 : Int)))]).bind fun r1 =>
    (go k slices_Replace_impl_Id_impl_Id [(.arr true (a1z) (.r3 (a1))), (.int .i64 (b)), (.int .i64 (IntKind.wrap .i64 (b + (1 : Int)))), (.arr false (false) (.r3 ([(D.toInt (D.cell 0 (nth r0 0)), D.toInt (D.cell 1 (nth r0 0)), D.toInt (D.cell 2 (nth r0 0))), (D.toInt (D.cell 0 (nth r1 0)), D.toInt (D.cell 1 (nth r1 0)), D.toInt (D.cell 2 (nth r1 0)))])))]).bind fun r2 =>
    some [(.ptr true [(.int .i64 (a0)), (.arr true (D.nil (nth r2 0)) (.r3 (D.r3 (nth r2 0))))])])
  (none) := by kernel_rfl
theorem e_impl_Mesh_coarsen (k : Nat) (a0 : Int) (a1z : Bool) (a1 : List (Int × Int × Int)) (b : Int) : go (k + 1) impl_Mesh_coarsen [(.ptr true [(.int .i64 (a0)), (.arr true (a1z) (.r3 (a1)))]), (.int .i64 (b))] =
    cond (decide ((0 : Int) ≤ b) && decide (b < nI (List.length a1)))
  ((go k impl_ParentOf [(.agg [(.int .i64 (Prod.fst (List.getD a1 (Int.toNat b) zz3))), (.int .i64 (Prod.fst (Prod.snd (List.getD a1 (Int.toNat b) zz3)))), (.int .i64 (Prod.snd (Prod.snd (List.getD a1 (Int.toNat b) zz3))))])]).bind fun r0 =>
    (go k slices_Replace_impl_Id_impl_Id [(.arr true (a1z) (.r3 (a1))), (.int .i64 (b)), (.int .i64 (IntKind.wrap .i64 (b + (2 : Int)))), (.arr false (false) (.r3 ([(D.toInt (D.cell 0 (nth r0 0)), D.toInt (D.cell 1 (nth r0 0)), D.toInt (D.cell 2 (nth r0 0)))])))]).bind fun r1 =>
    some [(.ptr true [(.int .i64 (a0)), (.arr true (D.nil (nth r1 0)) (.r3 (D.r3 (nth r1 0))))])])
  (none) := by kernel_rfl
theorem e_impl_State_refine (k : Nat) (a0 : Int) (a1z : Bool) (a1 : List (Int × Int × Int)) (a2z : Bool) (a2 : List Int) (a3z : Bool) (a3 : List Int) (a4z : Bool) (a4 : List Int) (b : Int) : go (k + 1) impl_State_refine [(.ptr true [(.int .i64 (a0)), (.arr true (a1z) (.r3 (a1))), (.arr true (a2z) (.ints .i64 (a2))), (.arr true (a3z) (.ints .i64 (a3))), (.arr true (a4z) (.ints .i64 (a4)))]), (.int .i64 (b))] =
    cond (decide ((0 : Int) ≤ b) && decide (b < nI (List.length a2)))
  ((go k impl_SplitEven [(.int .i64 (List.getD a2 (Int.toNat b) (0 : Int)))]).bind fun r0 =>
    cond (decide ((0 : Int) ≤ b) && decide (b < nI (List.length a3)))
    (cond (decide ((0 : Int) ≤ b) && decide (b < nI (List.length a2)))
      ((go k impl_ShareOut [(.int .i64 (List.getD a3 (Int.toNat b) (0 : Int))), (.int .i64 (D.toInt (nth r0 0))), (.int .i64 (List.getD a2 (Int.toNat b) (0 : Int)))]).bind fun r1 =>
        (go k impl_Mesh_refine [(.ptr true [(.int .i64 (a0)), (.arr true (a1z) (.r3 (a1)))]), (.int .i64 (b))]).bind fun r2 =>
        (go k slices_Replace_int_int [(.arr true (a2z) (.ints .i64 (a2))), (.int .i64 (b)), (.int .i64 (IntKind.wrap .i64 (b + (1 : Int)))), (.arr false (false) (.ints .i64 ([D.toInt (nth r0 0), D.toInt (nth r0 1)])))]).bind fun r3 =>
        cond (decide ((0 : Int) ≤ b) && decide (b < nI (List.length a3)))
        ((go k slices_Replace_int_int [(.arr true (a3z) (.ints .i64 (a3))), (.int .i64 (b)), (.int .i64 (IntKind.wrap .i64 (b + (1 : Int)))), (.arr false (false) (.ints .i64 ([D.toInt (nth r1 0), IntKind.wrap .i64 (List.getD a3 (Int.toNat b) (0 : Int) - D.toInt (nth r1 0))])))]).bind fun r4 =>
          some [(.ptr true [(.int .i64 (D.toInt (D.cell 0 (nth r2 0)))), (.arr true (D.nil (D.cell 1 (nth r2 0))) (.r3 (D.r3 (D.cell 1 (nth r2 0))))), (.arr true (D.nil (nth r3 0)) (.ints .i64 (D.ints (nth r3 0)))), (.arr true (D.nil (nth r4 0)) (.ints .i64 (D.ints (nth r4 0)))), (.arr true (a4z) (.ints .i64 (a4)))])])
        (none))
      (none))
    (none))
  (none) := by kernel_rfl
theorem e_impl_State_coarsen (k : Nat) (a0 : Int) (a1z : Bool) (a1 : List (Int × Int × Int)) (a2z : Bool) (a2 : List Int) (a3z : Bool) (a3 : List Int) (a4z : Bool) (a4 : List Int) (b : Int) : go (k + 1) impl_State_coarsen [(.ptr true [(.int .i64 (a0)), (.arr true (a1z) (.r3 (a1))), (.arr true (a2z) (.ints .i64 (a2))), (.arr true (a3z) (.ints .i64 (a3))), (.arr true (a4z) (.ints .i64 (a4)))]), (.int .i64 (b))] =
    (go k impl_Mesh_coarsen [(.ptr true [(.int .i64 (a0)), (.arr true (a1z) (.r3 (a1)))]), (.int .i64 (b))]).bind fun r0 =>
  cond (decide ((0 : Int) ≤ b) && decide (b < nI (List.length a2)))
  (cond (decide ((0 : Int) ≤ IntKind.wrap .i64 (b + (1 : Int))) && decide (IntKind.wrap .i64 (b + (1 : Int)) < nI (List.length a2)))
    ((go k slices_Replace_int_int [(.arr true (a2z) (.ints .i64 (a2))), (.int .i64 (b)), (.int .i64 (IntKind.wrap .i64 (b + (2 : Int)))), (.arr false (false) (.ints .i64 ([IntKind.wrap .i64 (List.getD a2 (Int.toNat b) (0 : Int) + List.getD a2 (Int.toNat (IntKind.wrap .i64 (b + (1 : Int)))) (0 : Int))])))]).bind fun r1 =>
      cond (decide ((0 : Int) ≤ b) && decide (b < nI (List.length a3)))
      (cond (decide ((0 : Int) ≤ IntKind.wrap .i64 (b + (1 : Int))) && decide (IntKind.wrap .i64 (b + (1 : Int)) < nI (List.length a3)))
        ((go k slices_Replace_int_int [(.arr true (a3z) (.ints .i64 (a3))), (.int .i64 (b)), (.int .i64 (IntKind.wrap .i64 (b + (2 : Int)))), (.arr false (false) (.ints .i64 ([IntKind.wrap .i64 (List.getD a3 (Int.toNat b) (0 : Int) + List.getD a3 (Int.toNat (IntKind.wrap .i64 (b + (1 : Int)))) (0 : Int))])))]).bind fun r2 =>
          some [(.ptr true [(.int .i64 (D.toInt (D.cell 0 (nth r0 0)))), (.arr true (D.nil (D.cell 1 (nth r0 0))) (.r3 (D.r3 (D.cell 1 (nth r0 0))))), (.arr true (D.nil (nth r1 0)) (.ints .i64 (D.ints (nth r1 0)))), (.arr true (D.nil (nth r2 0)) (.ints .i64 (D.ints (nth r2 0)))), (.arr true (a4z) (.ints .i64 (a4)))])])
        (none))
      (none))
    (none))
  (none) := by kernel_rfl
theorem e_spec_l08Split (k : Nat) (a0 : Int) (a1z : Bool) (a1 : List (Int × Int × Int)) (a2z : Bool) (a2 : List Int) (a3z : Bool) (a3 : List Int) (a4z : Bool) (a4 : List Int) (b : Int) : go (k + 1) spec_l08Split [(.agg [(.int .i64 (a0)), (.arr false (a1z) (.r3 (a1))), (.arr false (a2z) (.ints .i64 (a2))), (.arr false (a3z) (.ints .i64 (a3))), (.arr false (a4z) (.ints .i64 (a4)))]), (.int .i64 (b))] =
    cond (decide ((0 : Int) ≤ b) && decide (b < nI (List.length a2)))
  ((go k spec_SplitEven [(.int .i64 (List.getD a2 (Int.toNat b) (0 : Int)))]).bind fun r0 =>
    cond (decide ((0 : Int) ≤ b) && decide (b < nI (List.length a3)))
    (cond (decide ((0 : Int) ≤ b) && decide (b < nI (List.length a2)))
      ((go k spec_ShareOut [(.int .i64 (List.getD a3 (Int.toNat b) (0 : Int))), (.int .i64 (D.toInt (nth r0 0))), (.int .i64 (List.getD a2 (Int.toNat b) (0 : Int)))]).bind fun r1 =>
        cond (decide ((0 : Int) ≤ (0 : Int)) && decide ((0 : Int) ≤ b) && decide (b ≤ nI (List.length a2)))
        (cond (decide (List.length ([] ++ List.take (Int.toNat b - Int.toNat (0 : Int)) (List.drop (0 + Int.toNat (0 : Int)) a2)) ≤ bigLen))
          (cond (decide (List.length ([] ++ List.take (Int.toNat b - Int.toNat (0 : Int)) (List.drop (0 + Int.toNat (0 : Int)) a2) ++ [D.toInt (nth r0 0), D.toInt (nth r0 1)]) ≤ bigLen))
            (cond (decide ((0 : Int) ≤ (0 : Int)) && decide ((0 : Int) ≤ b) && decide (b ≤ nI (List.length a3)))
              (cond (decide (List.length ([] ++ List.take (Int.toNat b - Int.toNat (0 : Int)) (List.drop (0 + Int.toNat (0 : Int)) a3)) ≤ bigLen))
                (cond (decide ((0 : Int) ≤ b) && decide (b < nI (List.length a3)))
                  (cond (decide (List.length ([] ++ List.take (Int.toNat b - Int.toNat (0 : Int)) (List.drop (0 + Int.toNat (0 : Int)) a3) ++ [D.toInt (nth r1 0), IntKind.wrap .i64 (List.getD a3 (Int.toNat b) (0 : Int) - D.toInt (nth r1 0))]) ≤ bigLen))
                    ((go k spec_l05Split [(.agg [(.int .i64 (a0)), (.arr false (a1z) (.r3 (a1)))]), (.int .i64 (b))]).bind fun r2 =>
                      cond (decide ((0 : Int) ≤ IntKind.wrap .i64 (b + (1 : Int))) && decide (IntKind.wrap .i64 (b + (1 : Int)) ≤ nI (List.length a2)) && decide (nI (List.length a2) ≤ nI (List.length a2)))
                      (cond (decide (List.length ([] ++ List.take (Int.toNat b - Int.toNat (0 : Int)) (List.drop (0 + Int.toNat (0 : Int)) a2) ++ [D.toInt (nth r0 0), D.toInt (nth r0 1)] ++ List.take (Int.toNat (nI (List.length a2)) - Int.toNat (IntKind.wrap .i64 (b + (1 : Int)))) (List.drop (0 + Int.toNat (IntKind.wrap .i64 (b + (1 : Int)))) a2)) ≤ bigLen))
                        (cond (decide ((0 : Int) ≤ IntKind.wrap .i64 (b + (1 : Int))) && decide (IntKind.wrap .i64 (b + (1 : Int)) ≤ nI (List.length a3)) && decide (nI (List.length a3) ≤ nI (List.length a3)))
                          (cond (decide (List.length ([] ++ List.take (Int.toNat b - Int.toNat (0 : Int)) (List.drop (0 + Int.toNat (0 : Int)) a3) ++ [D.toInt (nth r1 0), IntKind.wrap .i64 (List.getD a3 (Int.toNat b) (0 : Int) - D.toInt (nth r1 0))] ++ List.take (Int.toNat (nI (List.length a3)) - Int.toNat (IntKind.wrap .i64 (b + (1 : Int)))) (List.drop (0 + Int.toNat (IntKind.wrap .i64 (b + (1 : Int)))) a3)) ≤ bigLen))
                            (cond (decide (List.length ([] ++ a4) ≤ bigLen))
                              (some [(.agg [(.int .i64 (D.toInt (D.cell 0 (nth r2 0)))), (.arr true (D.nil (D.cell 1 (nth r2 0))) (.r3 (D.r3 (D.cell 1 (nth r2 0))))), (.arr true (false && decide (List.length ([] ++ List.take (Int.toNat b - Int.toNat (0 : Int)) (List.drop (0 + Int.toNat (0 : Int)) a2)) = 0) && decide (List.length ([] ++ List.take (Int.toNat b - Int.toNat (0 : Int)) (List.drop (0 + Int.toNat (0 : Int)) a2) ++ [D.toInt (nth r0 0), D.toInt (nth r0 1)]) = 0) && decide (List.length ([] ++ List.take (Int.toNat b - Int.toNat (0 : Int)) (List.drop (0 + Int.toNat (0 : Int)) a2) ++ [D.toInt (nth r0 0), D.toInt (nth r0 1)] ++ List.take (Int.toNat (nI (List.length a2)) - Int.toNat (IntKind.wrap .i64 (b + (1 : Int)))) (List.drop (0 + Int.toNat (IntKind.wrap .i64 (b + (1 : Int)))) a2)) = 0)) (.ints .i64 ([] ++ List.take (Int.toNat b - Int.toNat (0 : Int)) (List.drop (0 + Int.toNat (0 : Int)) a2) ++ [D.toInt (nth r0 0), D.toInt (nth r0 1)] ++ List.take (Int.toNat (nI (List.length a2)) - Int.toNat (IntKind.wrap .i64 (b + (1 : Int)))) (List.drop (0 + Int.toNat (IntKind.wrap .i64 (b + (1 : Int)))) a2)))), (.arr true (false && decide (List.length ([] ++ List.take (Int.toNat b - Int.toNat (0 : Int)) (List.drop (0 + Int.toNat (0 : Int)) a3)) = 0) && decide (List.length ([] ++ List.take (Int.toNat b - Int.toNat (0 : Int)) (List.drop (0 + Int.toNat (0 : Int)) a3) ++ [D.toInt (nth r1 0), IntKind.wrap .i64 (List.getD a3 (Int.toNat b) (0 : Int) - D.toInt (nth r1 0))]) = 0) && decide (List.length ([] ++ List.take (Int.toNat b - Int.toNat (0 : Int)) (List.drop (0 + Int.toNat (0 : Int)) a3) ++ [D.toInt (nth r1 0), IntKind.wrap .i64 (List.getD a3 (Int.toNat b) (0 : Int) - D.toInt (nth r1 0))] ++ List.take (Int.toNat (nI (List.length a3)) - Int.toNat (IntKind.wrap .i64 (b + (1 : Int)))) (List.drop (0 + Int.toNat (IntKind.wrap .i64 (b + (1 : Int)))) a3)) = 0)) (.ints .i64 ([] ++ List.take (Int.toNat b - Int.toNat (0 : Int)) (List.drop (0 + Int.toNat (0 : Int)) a3) ++ [D.toInt (nth r1 0), IntKind.wrap .i64 (List.getD a3 (Int.toNat b) (0 : Int) - D.toInt (nth r1 0))] ++ List.take (Int.toNat (nI (List.length a3)) - Int.toNat (IntKind.wrap .i64 (b + (1 : Int)))) (List.drop (0 + Int.toNat (IntKind.wrap .i64 (b + (1 : Int)))) a3)))), (.arr true (false && decide (List.length ([] ++ a4) = 0)) (.ints .i64 ([] ++ a4)))])])
                              (none))
                            (none))
                          (none))
                        (none))
                      (none))
                    (none))
                  (none))
                (none))
              (none))
            (none))
          (none))
        (none))
      (none))
    (none))
  (none) := by kernel_rfl
theorem e_spec_l08Merge (k : Nat) (a0 : Int) (a1z : Bool) (a1 : List (Int × Int × Int)) (a2z : Bool) (a2 : List Int) (a3z : Bool) (a3 : List Int) (a4z : Bool) (a4 : List Int) (b : Int) : go (k + 1) spec_l08Merge [(.agg [(.int .i64 (a0)), (.arr false (a1z) (.r3 (a1))), (.arr false (a2z) (.ints .i64 (a2))), (.arr false (a3z) (.ints .i64 (a3))), (.arr false (a4z) (.ints .i64 (a4)))]), (.int .i64 (b))] =
    cond (decide ((0 : Int) ≤ (0 : Int)) && decide ((0 : Int) ≤ b) && decide (b ≤ nI (List.length a2)))
  (cond (decide (List.length ([] ++ List.take (Int.toNat b - Int.toNat (0 : Int)) (List.drop (0 + Int.toNat (0 : Int)) a2)) ≤ bigLen))
    (cond (decide ((0 : Int) ≤ b) && decide (b < nI (List.length a2)))
      (cond (decide ((0 : Int) ≤ IntKind.wrap .i64 (b + (1 : Int))) && decide (IntKind.wrap .i64 (b + (1 : Int)) < nI (List.length a2)))
        (cond (decide (List.length ([] ++ List.take (Int.toNat b - Int.toNat (0 : Int)) (List.drop (0 + Int.toNat (0 : Int)) a2) ++ [IntKind.wrap .i64 (List.getD a2 (Int.toNat b) (0 : Int) + List.getD a2 (Int.toNat (IntKind.wrap .i64 (b + (1 : Int)))) (0 : Int))]) ≤ bigLen))
          (cond (decide ((0 : Int) ≤ (0 : Int)) && decide ((0 : Int) ≤ b) && decide (b ≤ nI (List.length a3)))
            (cond (decide (List.length ([] ++ List.take (Int.toNat b - Int.toNat (0 : Int)) (List.drop (0 + Int.toNat (0 : Int)) a3)) ≤ bigLen))
              (cond (decide ((0 : Int) ≤ b) && decide (b < nI (List.length a3)))
                (cond (decide ((0 : Int) ≤ IntKind.wrap .i64 (b + (1 : Int))) && decide (IntKind.wrap .i64 (b + (1 : Int)) < nI (List.length a3)))
                  (cond (decide (List.length ([] ++ List.take (Int.toNat b - Int.toNat (0 : Int)) (List.drop (0 + Int.toNat (0 : Int)) a3) ++ [IntKind.wrap .i64 (List.getD a3 (Int.toNat b) (0 : Int) + List.getD a3 (Int.toNat (IntKind.wrap .i64 (b + (1 : Int)))) (0 : Int))]) ≤ bigLen))
                    ((go k spec_l06Merge [(.agg [(.int .i64 (a0)), (.arr false (a1z) (.r3 (a1)))]), (.int .i64 (b))]).bind fun r0 =>
                      cond (decide ((0 : Int) ≤ IntKind.wrap .i64 (b + (2 : Int))) && decide (IntKind.wrap .i64 (b + (2 : Int)) ≤ nI (List.length a2)) && decide (nI (List.length a2) ≤ nI (List.length a2)))
                      (cond (decide (List.length ([] ++ List.take (Int.toNat b - Int.toNat (0 : Int)) (List.drop (0 + Int.toNat (0 : Int)) a2) ++ [IntKind.wrap .i64 (List.getD a2 (Int.toNat b) (0 : Int) + List.getD a2 (Int.toNat (IntKind.wrap .i64 (b + (1 : Int)))) (0 : Int))] ++ List.take (Int.toNat (nI (List.length a2)) - Int.toNat (IntKind.wrap .i64 (b + (2 : Int)))) (List.drop (0 + Int.toNat (IntKind.wrap .i64 (b + (2 : Int)))) a2)) ≤ bigLen))
                        (cond (decide ((0 : Int) ≤ IntKind.wrap .i64 (b + (2 : Int))) && decide (IntKind.wrap .i64 (b + (2 : Int)) ≤ nI (List.length a3)) && decide (nI (List.length a3) ≤ nI (List.length a3)))
                          (cond (decide (List.length ([] ++ List.take (Int.toNat b - Int.toNat (0 : Int)) (List.drop (0 + Int.toNat (0 : Int)) a3) ++ [IntKind.wrap .i64 (List.getD a3 (Int.toNat b) (0 : Int) + List.getD a3 (Int.toNat (IntKind.wrap .i64 (b + (1 : Int)))) (0 : Int))] ++ List.take (Int.toNat (nI (List.length a3)) - Int.toNat (IntKind.wrap .i64 (b + (2 : Int)))) (List.drop (0 + Int.toNat (IntKind.wrap .i64 (b + (2 : Int)))) a3)) ≤ bigLen))
                            (cond (decide (List.length ([] ++ a4) ≤ bigLen))
                              (some [(.agg [(.int .i64 (D.toInt (D.cell 0 (nth r0 0)))), (.arr true (D.nil (D.cell 1 (nth r0 0))) (.r3 (D.r3 (D.cell 1 (nth r0 0))))), (.arr true (false && decide (List.length ([] ++ List.take (Int.toNat b - Int.toNat (0 : Int)) (List.drop (0 + Int.toNat (0 : Int)) a2)) = 0) && decide (List.length ([] ++ List.take (Int.toNat b - Int.toNat (0 : Int)) (List.drop (0 + Int.toNat (0 : Int)) a2) ++ [IntKind.wrap .i64 (List.getD a2 (Int.toNat b) (0 : Int) + List.getD a2 (Int.toNat (IntKind.wrap .i64 (b + (1 : Int)))) (0 : Int))]) = 0) && decide (List.length ([] ++ List.take (Int.toNat b - Int.toNat (0 : Int)) (List.drop (0 + Int.toNat (0 : Int)) a2) ++ [IntKind.wrap .i64 (List.getD a2 (Int.toNat b) (0 : Int) + List.getD a2 (Int.toNat (IntKind.wrap .i64 (b + (1 : Int)))) (0 : Int))] ++ List.take (Int.toNat (nI (List.length a2)) - Int.toNat (IntKind.wrap .i64 (b + (2 : Int)))) (List.drop (0 + Int.toNat (IntKind.wrap .i64 (b + (2 : Int)))) a2)) = 0)) (.ints .i64 ([] ++ List.take (Int.toNat b - Int.toNat (0 : Int)) (List.drop (0 + Int.toNat (0 : Int)) a2) ++ [IntKind.wrap .i64 (List.getD a2 (Int.toNat b) (0 : Int) + List.getD a2 (Int.toNat (IntKind.wrap .i64 (b + (1 : Int)))) (0 : Int))] ++ List.take (Int.toNat (nI (List.length a2)) - Int.toNat (IntKind.wrap .i64 (b + (2 : Int)))) (List.drop (0 + Int.toNat (IntKind.wrap .i64 (b + (2 : Int)))) a2)))), (.arr true (false && decide (List.length ([] ++ List.take (Int.toNat b - Int.toNat (0 : Int)) (List.drop (0 + Int.toNat (0 : Int)) a3)) = 0) && decide (List.length ([] ++ List.take (Int.toNat b - Int.toNat (0 : Int)) (List.drop (0 + Int.toNat (0 : Int)) a3) ++ [IntKind.wrap .i64 (List.getD a3 (Int.toNat b) (0 : Int) + List.getD a3 (Int.toNat (IntKind.wrap .i64 (b + (1 : Int)))) (0 : Int))]) = 0) && decide (List.length ([] ++ List.take (Int.toNat b - Int.toNat (0 : Int)) (List.drop (0 + Int.toNat (0 : Int)) a3) ++ [IntKind.wrap .i64 (List.getD a3 (Int.toNat b) (0 : Int) + List.getD a3 (Int.toNat (IntKind.wrap .i64 (b + (1 : Int)))) (0 : Int))] ++ List.take (Int.toNat (nI (List.length a3)) - Int.toNat (IntKind.wrap .i64 (b + (2 : Int)))) (List.drop (0 + Int.toNat (IntKind.wrap .i64 (b + (2 : Int)))) a3)) = 0)) (.ints .i64 ([] ++ List.take (Int.toNat b - Int.toNat (0 : Int)) (List.drop (0 + Int.toNat (0 : Int)) a3) ++ [IntKind.wrap .i64 (List.getD a3 (Int.toNat b) (0 : Int) + List.getD a3 (Int.toNat (IntKind.wrap .i64 (b + (1 : Int)))) (0 : Int))] ++ List.take (Int.toNat (nI (List.length a3)) - Int.toNat (IntKind.wrap .i64 (b + (2 : Int)))) (List.drop (0 + Int.toNat (IntKind.wrap .i64 (b + (2 : Int)))) a3)))), (.arr true (false && decide (List.length ([] ++ a4) = 0)) (.ints .i64 ([] ++ a4)))])])
                              (none))
                            (none))
                          (none))
                        (none))
                      (none))
                    (none))
                  (none))
                (none))
              (none))
            (none))
          (none))
        (none))
      (none))
    (none))
  (none) := by kernel_rfl
theorem e_spec_l06Merge (k : Nat) (a0 : Int) (a1z : Bool) (a1 : List (Int × Int × Int)) (b : Int) : go (k + 1) spec_l06Merge [(.agg [(.int .i64 (a0)), (.arr false (a1z) (.r3 (a1)))]), (.int .i64 (b))] =
    cond (decide ((0 : Int) ≤ b) && decide (b < nI (List.length a1)))
  ((go k spec_ParentOf [(.agg [(.int .i64 (Prod.fst (List.getD a1 (Int.toNat b) zz3))), (.int .i64 (Prod.fst (Prod.snd (List.getD a1 (Int.toNat b) zz3)))), (.int .i64 (Prod.snd (Prod.snd (List.getD a1 (Int.toNat b) zz3))))])]).bind fun r0 =>
    cond (decide ((0 : Int) ≤ (0 : Int)) && decide ((0 : Int) ≤ b) && decide (b ≤ nI (List.length a1)))
    (cond (decide (List.length ([] ++ List.take (Int.toNat b - Int.toNat (0 : Int)) (List.drop (0 + Int.toNat (0 : Int)) a1)) ≤ bigLen))
      (cond (decide (List.length ([] ++ List.take (Int.toNat b - Int.toNat (0 : Int)) (List.drop (0 + Int.toNat (0 : Int)) a1) ++ [(D.toInt (D.cell 0 (nth r0 0)), D.toInt (D.cell 1 (nth r0 0)), D.toInt (D.cell 2 (nth r0 0)))]) ≤ bigLen))
        (cond (decide ((0 : Int) ≤ IntKind.wrap .i64 (b + (2 : Int))) && decide (IntKind.wrap .i64 (b + (2 : Int)) ≤ nI (List.length a1)) && decide (nI (List.length a1) ≤ nI (List.length a1)))
          (cond (decide (List.length ([] ++ List.take (Int.toNat b - Int.toNat (0 : Int)) (List.drop (0 + Int.toNat (0 : Int)) a1) ++ [(D.toInt (D.cell 0 (nth r0 0)), D.toInt (D.cell 1 (nth r0 0)), D.toInt (D.cell 2 (nth r0 0)))] ++ List.take (Int.toNat (nI (List.length a1)) - Int.toNat (IntKind.wrap .i64 (b + (2 : Int)))) (List.drop (0 + Int.toNat (IntKind.wrap .i64 (b + (2 : Int)))) a1)) ≤ bigLen))
            (some [(.agg [(.int .i64 (a0)), (.arr true (false && decide (List.length ([] ++ List.take (Int.toNat b - Int.toNat (0 : Int)) (List.drop (0 + Int.toNat (0 : Int)) a1)) = 0) && decide (List.length ([] ++ List.take (Int.toNat b - Int.toNat (0 : Int)) (List.drop (0 + Int.toNat (0 : Int)) a1) ++ [(D.toInt (D.cell 0 (nth r0 0)), D.toInt (D.cell 1 (nth r0 0)), D.toInt (D.cell 2 (nth r0 0)))]) = 0) && decide (List.length ([] ++ List.take (Int.toNat b - Int.toNat (0 : Int)) (List.drop (0 + Int.toNat (0 : Int)) a1) ++ [(D.toInt (D.cell 0 (nth r0 0)), D.toInt (D.cell 1 (nth r0 0)), D.toInt (D.cell 2 (nth r0 0)))] ++ List.take (Int.toNat (nI (List.length a1)) - Int.toNat (IntKind.wrap .i64 (b + (2 : Int)))) (List.drop (0 + Int.toNat (IntKind.wrap .i64 (b + (2 : Int)))) a1)) = 0)) (.r3 ([] ++ List.take (Int.toNat b - Int.toNat (0 : Int)) (List.drop (0 + Int.toNat (0 : Int)) a1) ++ [(D.toInt (D.cell 0 (nth r0 0)), D.toInt (D.cell 1 (nth r0 0)), D.toInt (D.cell 2 (nth r0 0)))] ++ List.take (Int.toNat (nI (List.length a1)) - Int.toNat (IntKind.wrap .i64 (b + (2 : Int)))) (List.drop (0 + Int.toNat (IntKind.wrap .i64 (b + (2 : Int)))) a1))))])])
            (none))
          (none))
        (none))
      (none))
    (none))
  (none) := by kernel_rfl
theorem e_spec_ParentOf (k : Nat) (a0 : Int) (a1 : Int) (a2 : Int) : go (k + 1) spec_ParentOf [(.agg [(.int .i64 (a0)), (.int .i64 (a1)), (.int .i64 (a2))])] =
    (go k spec_IdOk [(.agg [(.int .i64 (a0)), (.int .i64 (a1)), (.int .i64 (a2))])]).bind fun r0 =>
  cond (!bit (nth r0 0))
  (some [(.agg [(.int .i64 ((0 : Int))), (.int .i64 ((0 : Int))), (.int .i64 ((0 : Int)))]), (.bool (false))])
  (cond (decide (a1 = (0 : Int)))
    (some [(.agg [(.int .i64 ((0 : Int))), (.int .i64 ((0 : Int))), (.int .i64 ((0 : Int)))]), (.bool (false))])
    (some [(.agg [(.int .i64 (a0)), (.int .i64 (IntKind.wrap .i64 (a1 - (1 : Int)))), (.int .i64 (IntKind.wrap .i64 (Int.tdiv a2 (2 : Int))))]), (.bool (true))])) := by kernel_rfl
theorem e_impl_ParentOf (k : Nat) (a0 : Int) (a1 : Int) (a2 : Int) : go (k + 1) impl_ParentOf [(.agg [(.int .i64 (a0)), (.int .i64 (a1)), (.int .i64 (a2))])] =
    (go k impl_IdOk [(.agg [(.int .i64 (a0)), (.int .i64 (a1)), (.int .i64 (a2))])]).bind fun r0 =>
  cond (!bit (nth r0 0))
  (some [(.agg [(.int .i64 ((0 : Int))), (.int .i64 ((0 : Int))), (.int .i64 ((0 : Int)))]), (.bool (false))])
  (cond (decide (a1 = (0 : Int)))
    (some [(.agg [(.int .i64 ((0 : Int))), (.int .i64 ((0 : Int))), (.int .i64 ((0 : Int)))]), (.bool (false))])
    (some [(.agg [(.int .i64 (a0)), (.int .i64 (IntKind.wrap .i64 (a1 - (1 : Int)))), (.int .i64 (IntKind.wrap .i64 (Int.tdiv a2 (2 : Int))))]), (.bool (true))])) := by kernel_rfl
theorem e_spec_IsSibling (k : Nat) (a0 : Int) (a1 : Int) (a2 : Int) (b0 : Int) (b1 : Int) (b2 : Int) : go (k + 1) spec_IsSibling [(.agg [(.int .i64 (a0)), (.int .i64 (a1)), (.int .i64 (a2))]), (.agg [(.int .i64 (b0)), (.int .i64 (b1)), (.int .i64 (b2))])] =
    (go k spec_IdOk [(.agg [(.int .i64 (a0)), (.int .i64 (a1)), (.int .i64 (a2))])]).bind fun r0 =>
  cond (bit (nth r0 0))
  ((go k spec_IdOk [(.agg [(.int .i64 (b0)), (.int .i64 (b1)), (.int .i64 (b2))])]).bind fun r1 =>
    cond (bit (nth r1 0))
    (cond (decide (a0 = b0))
      (cond (decide (a1 = b1))
        (cond (decide (Int.tmod a2 (2 : Int) = (0 : Int)))
          (some [(.bool (decide (b2 = IntKind.wrap .i64 (a2 + (1 : Int)))))])
          (some [(.bool (false))]))
        (some [(.bool (false))]))
      (some [(.bool (false))]))
    (some [(.bool (false))]))
  (some [(.bool (false))]) := by kernel_rfl
theorem e_impl_IsSibling (k : Nat) (a0 : Int) (a1 : Int) (a2 : Int) (b0 : Int) (b1 : Int) (b2 : Int) : go (k + 1) impl_IsSibling [(.agg [(.int .i64 (a0)), (.int .i64 (a1)), (.int .i64 (a2))]), (.agg [(.int .i64 (b0)), (.int .i64 (b1)), (.int .i64 (b2))])] =
    (go k impl_ParentOf [(.agg [(.int .i64 (a0)), (.int .i64 (a1)), (.int .i64 (a2))])]).bind fun r0 =>
  (go k impl_ParentOf [(.agg [(.int .i64 (b0)), (.int .i64 (b1)), (.int .i64 (b2))])]).bind fun r1 =>
  cond (bit (nth r0 1))
  (cond (bit (nth r1 1))
    (cond (decide (D.toInt (D.cell 0 (nth r0 0)) = D.toInt (D.cell 0 (nth r1 0))) && (decide (D.toInt (D.cell 1 (nth r0 0)) = D.toInt (D.cell 1 (nth r1 0))) && (decide (D.toInt (D.cell 2 (nth r0 0)) = D.toInt (D.cell 2 (nth r1 0))) && true)))
      (cond (decide (Int.tmod a2 (2 : Int) = (0 : Int)))
        (some [(.bool (decide (b2 = IntKind.wrap .i64 (a2 + (1 : Int)))))])
        (some [(.bool (false))]))
      (some [(.bool (false))]))
    (some [(.bool (false))]))
  (some [(.bool (false))]) := by kernel_rfl
theorem e_spec_l06May (k : Nat) (a0 : Int) (a1z : Bool) (a1 : List (Int × Int × Int)) (b : Int) : go (k + 1) spec_l06May [(.agg [(.int .i64 (a0)), (.arr false (a1z) (.r3 (a1)))]), (.int .i64 (b))] =
    cond (decide ((0 : Int) ≤ b) && decide (b < nI (List.length a1)))
  (cond (decide ((0 : Int) ≤ b) && decide (b < nI (List.length a1)))
    (cond (decide ((0 : Int) ≤ IntKind.wrap .i64 (b + (1 : Int))) && decide (IntKind.wrap .i64 (b + (1 : Int)) < nI (List.length a1)))
      ((go k spec_IsSibling [(.agg [(.int .i64 (Prod.fst (List.getD a1 (Int.toNat b) zz3))), (.int .i64 (Prod.fst (Prod.snd (List.getD a1 (Int.toNat b) zz3)))), (.int .i64 (Prod.snd (Prod.snd (List.getD a1 (Int.toNat b) zz3))))]), (.agg [(.int .i64 (Prod.fst (List.getD a1 (Int.toNat (IntKind.wrap .i64 (b + (1 : Int)))) zz3))), (.int .i64 (Prod.fst (Prod.snd (List.getD a1 (Int.toNat (IntKind.wrap .i64 (b + (1 : Int)))) zz3)))), (.int .i64 (Prod.snd (Prod.snd (List.getD a1 (Int.toNat (IntKind.wrap .i64 (b + (1 : Int)))) zz3))))])]).bind fun r0 =>
        cond (!bit (nth r0 0))
        (some [(.bool (false))])
        (cond (decide (b = (0 : Int)))
          (cond (decide (nI (List.length a1) ≤ IntKind.wrap .i64 (b + (2 : Int))))
            (some [(.bool (true))])
            (cond (decide ((0 : Int) ≤ IntKind.wrap .i64 (b + (2 : Int))) && decide (IntKind.wrap .i64 (b + (2 : Int)) < nI (List.length a1)))
              (some [(.bool (decide (Prod.fst (Prod.snd (List.getD a1 (Int.toNat (IntKind.wrap .i64 (b + (2 : Int)))) zz3)) ≤ Prod.fst (Prod.snd (List.getD a1 (Int.toNat b) zz3)))))])
              (none)))
          (cond (decide ((0 : Int) ≤ IntKind.wrap .i64 (b - (1 : Int))) && decide (IntKind.wrap .i64 (b - (1 : Int)) < nI (List.length a1)))
            (cond (decide (Prod.fst (Prod.snd (List.getD a1 (Int.toNat (IntKind.wrap .i64 (b - (1 : Int)))) zz3)) ≤ Prod.fst (Prod.snd (List.getD a1 (Int.toNat b) zz3))))
              (cond (decide (nI (List.length a1) ≤ IntKind.wrap .i64 (b + (2 : Int))))
                (some [(.bool (true))])
                (cond (decide ((0 : Int) ≤ IntKind.wrap .i64 (b + (2 : Int))) && decide (IntKind.wrap .i64 (b + (2 : Int)) < nI (List.length a1)))
                  (some [(.bool (decide (Prod.fst (Prod.snd (List.getD a1 (Int.toNat (IntKind.wrap .i64 (b + (2 : Int)))) zz3)) ≤ Prod.fst (Prod.snd (List.getD a1 (Int.toNat b) zz3)))))])
                  (none)))
              (some [(.bool (false))]))
            (none))))
      (none))
    (none))
  (none) := by kernel_rfl
theorem e_impl_Mesh_mayCoarsen (k : Nat) (a0 : Int) (a1z : Bool) (a1 : List (Int × Int × Int)) (b : Int) : go (k + 1) impl_Mesh_mayCoarsen [(.agg [(.int .i64 (a0)), (.arr false (a1z) (.r3 (a1)))]), (.int .i64 (b))] =
    (go k impl_Mesh_has [(.agg [(.int .i64 (a0)), (.arr false (a1z) (.r3 (a1)))]), (.int .i64 (b))]).bind fun r0 =>
  cond (!bit (nth r0 0))
  (some [(.bool (false))])
  ((go k impl_Mesh_has [(.agg [(.int .i64 (a0)), (.arr false (a1z) (.r3 (a1)))]), (.int .i64 (IntKind.wrap .i64 (b + (1 : Int))))]).bind fun r1 =>
    cond (!bit (nth r1 0))
    (some [(.bool (false))])
    (cond (decide ((0 : Int) ≤ b) && decide (b < nI (List.length a1)))
      (cond (decide ((0 : Int) ≤ IntKind.wrap .i64 (b + (1 : Int))) && decide (IntKind.wrap .i64 (b + (1 : Int)) < nI (List.length a1)))
        ((go k impl_IsSibling [(.agg [(.int .i64 (Prod.fst (List.getD a1 (Int.toNat b) zz3))), (.int .i64 (Prod.fst (Prod.snd (List.getD a1 (Int.toNat b) zz3)))), (.int .i64 (Prod.snd (Prod.snd (List.getD a1 (Int.toNat b) zz3))))]), (.agg [(.int .i64 (Prod.fst (List.getD a1 (Int.toNat (IntKind.wrap .i64 (b + (1 : Int)))) zz3))), (.int .i64 (Prod.fst (Prod.snd (List.getD a1 (Int.toNat (IntKind.wrap .i64 (b + (1 : Int)))) zz3)))), (.int .i64 (Prod.snd (Prod.snd (List.getD a1 (Int.toNat (IntKind.wrap .i64 (b + (1 : Int)))) zz3))))])]).bind fun r2 =>
          cond (!bit (nth r2 0))
          (some [(.bool (false))])
          (cond (decide ((0 : Int) ≤ b) && decide (b < nI (List.length a1)))
            ((go k impl_Mesh_has [(.agg [(.int .i64 (a0)), (.arr false (a1z) (.r3 (a1)))]), (.int .i64 (IntKind.wrap .i64 (b - (1 : Int))))]).bind fun r3 =>
              cond (bit (nth r3 0))
              (cond (decide ((0 : Int) ≤ IntKind.wrap .i64 (b - (1 : Int))) && decide (IntKind.wrap .i64 (b - (1 : Int)) < nI (List.length a1)))
                (cond (!decide (Prod.fst (Prod.snd (List.getD a1 (Int.toNat b) zz3)) < Prod.fst (Prod.snd (List.getD a1 (Int.toNat (IntKind.wrap .i64 (b - (1 : Int)))) zz3))))
                  ((go k impl_Mesh_has [(.agg [(.int .i64 (a0)), (.arr false (a1z) (.r3 (a1)))]), (.int .i64 (IntKind.wrap .i64 (b + (2 : Int))))]).bind fun r4 =>
                    cond (bit (nth r4 0))
                    (cond (decide ((0 : Int) ≤ IntKind.wrap .i64 (b + (2 : Int))) && decide (IntKind.wrap .i64 (b + (2 : Int)) < nI (List.length a1)))
                      (some [(.bool (!decide (Prod.fst (Prod.snd (List.getD a1 (Int.toNat b) zz3)) < Prod.fst (Prod.snd (List.getD a1 (Int.toNat (IntKind.wrap .i64 (b + (2 : Int)))) zz3)))))])
                      (none))
                    (some [(.bool (!false))]))
                  (some [(.bool (false))]))
                (none))
              ((go k impl_Mesh_has [(.agg [(.int .i64 (a0)), (.arr false (a1z) (.r3 (a1)))]), (.int .i64 (IntKind.wrap .i64 (b + (2 : Int))))]).bind fun r5 =>
                cond (bit (nth r5 0))
                (cond (decide ((0 : Int) ≤ IntKind.wrap .i64 (b + (2 : Int))) && decide (IntKind.wrap .i64 (b + (2 : Int)) < nI (List.length a1)))
                  (some [(.bool (!decide (Prod.fst (Prod.snd (List.getD a1 (Int.toNat b) zz3)) < Prod.fst (Prod.snd (List.getD a1 (Int.toNat (IntKind.wrap .i64 (b + (2 : Int)))) zz3)))))])
                  (none))
                (some [(.bool (!false))])))
            (none)))
        (none))
      (none))) := by kernel_rfl
theorem e_impl_Mesh_toRefine (k : Nat) (a0 : Int) (a1z : Bool) (a1 : List (Int × Int × Int)) : go (k + 1) impl_Mesh_toRefine [(.agg [(.int .i64 (a0)), (.arr false (a1z) (.r3 (a1)))])] =
    (go k impl_Mesh_unbalanced [(.agg [(.int .i64 (a0)), (.arr false (a1z) (.r3 (a1)))])]).bind fun r0 =>
  cond (decide ((0 : Int) ≤ D.toInt (nth r0 0)))
  (cond (decide ((0 : Int) ≤ D.toInt (nth r0 0)) && decide (D.toInt (nth r0 0) < nI (List.length a1)))
    (cond (decide ((0 : Int) ≤ IntKind.wrap .i64 (D.toInt (nth r0 0) + (1 : Int))) && decide (IntKind.wrap .i64 (D.toInt (nth r0 0) + (1 : Int)) < nI (List.length a1)))
      (cond (decide (Prod.fst (Prod.snd (List.getD a1 (Int.toNat (IntKind.wrap .i64 (D.toInt (nth r0 0) + (1 : Int)))) zz3)) < Prod.fst (Prod.snd (List.getD a1 (Int.toNat (D.toInt (nth r0 0))) zz3))))
        (some [(.int .i64 (IntKind.wrap .i64 (D.toInt (nth r0 0) + (1 : Int))))])
        (some [(.int .i64 (D.toInt (nth r0 0)))]))
      (none))
    (none))
  (some [(.int .i64 (D.toInt (nth r0 0)))]) := by kernel_rfl

end Go.Proofs.Ytfgccfajhedgdaa
