/- What the functions of states compute, one step each. -/
import Derived.Test.YtfgccfajhedgdaaXA
namespace Go.Proofs.Ytfgccfajhedgdaa
open Go.Ev
set_option linter.unusedVariables false
def s_spec_StateOk_4 (x0 : Int) (z1 : Bool) (l2 : List (Int × Int × Int)) (z3 : Bool) (l4 : List Int) (z5 : Bool) (l6 : List Int) (z7 : Bool) (l8 : List Int) (x9 : Int) : St := ⟨fill 84 [(1, (.ptr 4 (0) (0))), (3, (.int .i64 (x0)))], [], [(.arr false (z1) (.r3 (l2))), (.arr false (z3) (.ints .i64 (l4))), (.arr false (z5) (.ints .i64 (l6))), (.arr false (z7) (.ints .i64 (l8))), (.box true [(.int .i64 (x9)), (.sl 0 none), (.sl 1 none), (.sl 2 none), (.sl 3 none)])]⟩
def s_spec_StateOk_9 (x0 : Int) (z1 : Bool) (l2 : List (Int × Int × Int)) (z3 : Bool) (l4 : List Int) (z5 : Bool) (l6 : List Int) (z7 : Bool) (l8 : List Int) (x9 : Int) : St := ⟨fill 84 [(1, (.ptr 4 (0) (0))), (4, (.int .i64 (x0)))], [], [(.arr false (z1) (.r3 (l2))), (.arr false (z3) (.ints .i64 (l4))), (.arr false (z5) (.ints .i64 (l6))), (.arr false (z7) (.ints .i64 (l8))), (.box true [(.int .i64 (x9)), (.sl 0 none), (.sl 1 none), (.sl 2 none), (.sl 3 none)])]⟩
theorem e_spec_StateOk (k : Nat) (a0 : Int) (a1z : Bool) (a1 : List (Int × Int × Int)) (a2z : Bool) (a2 : List Int) (a3z : Bool) (a3 : List Int) (a4z : Bool) (a4 : List Int) : go (k + 1) spec_StateOk [(.agg [(.int .i64 (a0)), (.arr false (a1z) (.r3 (a1))), (.arr false (a2z) (.ints .i64 (a2))), (.arr false (a3z) (.ints .i64 (a3))), (.arr false (a4z) (.ints .i64 (a4)))])] =
    (go k spec_IsBalanced [(.agg [(.int .i64 (a0)), (.arr false (a1z) (.r3 (a1)))])]).bind fun r0 =>
  cond (!bit (nth r0 0))
  (some [(.bool (false))])
  (cond (!decide (nI (List.length a2) = nI (List.length a1)))
    (some [(.bool (false))])
    (cond (!decide (nI (List.length a3) = nI (List.length a2)))
      (some [(.bool (false))])
      (cond (!decide (nI (List.length a4) = a0))
        (some [(.bool (false))])
        (lp k spec_StateOk [] [] 4 k (s_spec_StateOk_4 ((0 : Int)) a1z a1 a2z a2 a3z a3 a4z a4 a0))))) := by kernel_rfl
theorem l_spec_StateOk_4 (k n : Nat) (fu : List (Nat × Nat)) (x0 : Int) (z1 : Bool) (l2 : List (Int × Int × Int)) (z3 : Bool) (l4 : List Int) (z5 : Bool) (l6 : List Int) (z7 : Bool) (l8 : List Int) (x9 : Int) : lp k spec_StateOk [] fu 4 (n + 1) (s_spec_StateOk_4 x0 z1 l2 z3 l4 z5 l6 z7 l8 x9) =
    cond (decide (x0 < nI (List.length l4)))
  (cond (decide ((0 : Int) ≤ x0) && decide (x0 < nI (List.length l4)))
    ((go k spec_l01In [(.int .i64 (List.getD l4 (Int.toNat x0) (0 : Int))), (.int .i64 ((0 : Int))), (.int .i64 ((10000000 : Int)))]).bind fun r0 =>
      cond (!bit (nth r0 0))
      (some [(.bool (false))])
      (cond (decide ((0 : Int) ≤ x0) && decide (x0 < nI (List.length l6)))
        (cond (decide ((0 : Int) ≤ x0) && decide (x0 < nI (List.length l4)))
          ((go k spec_l01In [(.int .i64 (List.getD l6 (Int.toNat x0) (0 : Int))), (.int .i64 ((0 : Int))), (.int .i64 (IntKind.wrap .i64 ((1000 : Int) * List.getD l4 (Int.toNat x0) (0 : Int))))]).bind fun r1 =>
            cond (!bit (nth r1 0))
            (some [(.bool (false))])
            (lp k spec_StateOk [] fu 4 n (s_spec_StateOk_4 (IntKind.wrap .i64 (x0 + (1 : Int))) z1 l2 z3 l4 z5 l6 z7 l8 x9)))
          (none))
        (none)))
    (none))
  (lp k spec_StateOk [] fu 9 k (s_spec_StateOk_9 ((0 : Int)) z1 l2 z3 l4 z5 l6 z7 l8 x9)) := by kernel_rfl
theorem l_spec_StateOk_9 (k n : Nat) (fu : List (Nat × Nat)) (x0 : Int) (z1 : Bool) (l2 : List (Int × Int × Int)) (z3 : Bool) (l4 : List Int) (z5 : Bool) (l6 : List Int) (z7 : Bool) (l8 : List Int) (x9 : Int) : lp k spec_StateOk [] fu 9 (n + 1) (s_spec_StateOk_9 x0 z1 l2 z3 l4 z5 l6 z7 l8 x9) =
    cond (decide (x0 < nI (List.length l8)))
  (cond (decide ((0 : Int) ≤ x0) && decide (x0 < nI (List.length l8)))
    ((go k spec_l01In [(.int .i64 (List.getD l8 (Int.toNat x0) (0 : Int))), (.int .i64 ((0 : Int))), (.int .i64 ((1000000 : Int)))]).bind fun r0 =>
      cond (!bit (nth r0 0))
      (some [(.bool (false))])
      (lp k spec_StateOk [] fu 9 n (s_spec_StateOk_9 (IntKind.wrap .i64 (x0 + (1 : Int))) z1 l2 z3 l4 z5 l6 z7 l8 x9)))
    (none))
  ((go k spec_l07Sum [(.arr false (z3) (.ints .i64 (l4)))]).bind fun r1 =>
    some [(.bool (decide (D.toInt (nth r1 0) ≤ (10000000 : Int))))]) := by kernel_rfl
theorem e_impl_StateOk (k : Nat) (a0 : Int) (a1z : Bool) (a1 : List (Int × Int × Int)) (a2z : Bool) (a2 : List Int) (a3z : Bool) (a3 : List Int) (a4z : Bool) (a4 : List Int) : go (k + 1) impl_StateOk [(.agg [(.int .i64 (a0)), (.arr false (a1z) (.r3 (a1))), (.arr false (a2z) (.ints .i64 (a2))), (.arr false (a3z) (.ints .i64 (a3))), (.arr false (a4z) (.ints .i64 (a4)))])] =
    (go k impl_IsBalanced [(.agg [(.int .i64 (a0)), (.arr false (a1z) (.r3 (a1)))])]).bind fun r0 =>
  cond (bit (nth r0 0))
  ((go k impl_State_hasCells [(.agg [(.int .i64 (a0)), (.arr false (a1z) (.r3 (a1))), (.arr false (a2z) (.ints .i64 (a2))), (.arr false (a3z) (.ints .i64 (a3))), (.arr false (a4z) (.ints .i64 (a4)))])]).bind fun r1 =>
    some [(.bool (bit (nth r1 0)))])
  (some [(.bool (false))]) := by kernel_rfl
def s_impl_State_hasCells_5 (x0 : Int) (x1 : Int) (z2 : Bool) (l3 : List (Int × Int × Int)) (z4 : Bool) (l5 : List Int) (z6 : Bool) (l7 : List Int) (z8 : Bool) (l9 : List Int) (x10 : Int) : St := ⟨fill 63 [(1, (.ptr 4 (0) (0))), (37, (.sl 1 none)), (38, (.int .i64 (x0))), (39, (.int .i64 (x1)))], [], [(.arr false (z2) (.r3 (l3))), (.arr false (z4) (.ints .i64 (l5))), (.arr false (z6) (.ints .i64 (l7))), (.arr false (z8) (.ints .i64 (l9))), (.box true [(.int .i64 (x10)), (.sl 0 none), (.sl 1 none), (.sl 2 none), (.sl 3 none)])]⟩
theorem e_impl_State_hasCells (k : Nat) (a0 : Int) (a1z : Bool) (a1 : List (Int × Int × Int)) (a2z : Bool) (a2 : List Int) (a3z : Bool) (a3 : List Int) (a4z : Bool) (a4 : List Int) : go (k + 1) impl_State_hasCells [(.agg [(.int .i64 (a0)), (.arr false (a1z) (.r3 (a1))), (.arr false (a2z) (.ints .i64 (a2))), (.arr false (a3z) (.ints .i64 (a3))), (.arr false (a4z) (.ints .i64 (a4)))])] =
    cond (!decide (nI (List.length a2) = nI (List.length a1)))
  (some [(.bool (false))])
  (cond (!decide (nI (List.length a3) = nI (List.length a1)))
    (some [(.bool (false))])
    (cond (!decide (nI (List.length a4) = a0))
      (some [(.bool (false))])
      ((go k slices_ContainsFunc_int_int [(.arr false (a4z) (.ints .i64 (a4))), (.fn impl_State_hasCells_1 [])]).bind fun r0 =>
        cond (bit (nth r0 0))
        (some [(.bool (false))])
        (lp k impl_State_hasCells [] [] 5 k (s_impl_State_hasCells_5 (nI (List.length a2)) ((0 : Int)) a1z a1 a2z a2 a3z a3 a4z a4 a0))))) := by kernel_rfl
theorem l_impl_State_hasCells_5 (k n : Nat) (fu : List (Nat × Nat)) (x0 : Int) (x1 : Int) (z2 : Bool) (l3 : List (Int × Int × Int)) (z4 : Bool) (l5 : List Int) (z6 : Bool) (l7 : List Int) (z8 : Bool) (l9 : List Int) (x10 : Int) : lp k impl_State_hasCells [] fu 5 (n + 1) (s_impl_State_hasCells_5 x0 x1 z2 l3 z4 l5 z6 l7 z8 l9 x10) =
    cond (decide (x1 < x0))
  (cond (decide ((0 : Int) ≤ x1) && decide (x1 < nI (List.length l5)))
    ((go k impl_within [(.int .i64 (List.getD l5 (Int.toNat x1) (0 : Int))), (.int .i64 ((0 : Int))), (.int .i64 ((10000000 : Int)))]).bind fun r0 =>
      cond (!bit (nth r0 0))
      (some [(.bool (false))])
      (cond (decide ((0 : Int) ≤ x1) && decide (x1 < nI (List.length l7)))
        ((go k impl_within [(.int .i64 (List.getD l7 (Int.toNat x1) (0 : Int))), (.int .i64 ((0 : Int))), (.int .i64 (IntKind.wrap .i64 ((1000 : Int) * List.getD l5 (Int.toNat x1) (0 : Int))))]).bind fun r1 =>
          cond (!bit (nth r1 0))
          (some [(.bool (false))])
          (lp k impl_State_hasCells [] fu 5 n (s_impl_State_hasCells_5 x0 (IntKind.wrap .i64 (x1 + (1 : Int))) z2 l3 z4 l5 z6 l7 z8 l9 x10)))
        (none)))
    (none))
  ((go k impl_sum [(.arr false (z4) (.ints .i64 (l5)))]).bind fun r2 =>
    some [(.bool (decide (D.toInt (nth r2 0) ≤ (10000000 : Int))))]) := by kernel_rfl
theorem e_impl_State_hasCells_1 (k : Nat) (a : Int) : go (k + 1) impl_State_hasCells_1 [(.int .i64 (a))] =
    (go k impl_isBed [(.int .i64 (a))]).bind fun r0 =>
  some [(.bool (!bit (nth r0 0)))] := by kernel_rfl
theorem e_impl_isBed (k : Nat) (a : Int) : go (k + 1) impl_isBed [(.int .i64 (a))] =
    (go k impl_within [(.int .i64 (a)), (.int .i64 ((0 : Int))), (.int .i64 ((1000000 : Int)))]).bind fun r0 =>
  some [(.bool (bit (nth r0 0)))] := by kernel_rfl
def s_spec_l07Sum_3 (x0 : Int) (x1 : Int) (z2 : Bool) (l3 : List Int) : St := ⟨fill 18 [(0, (.sl 0 none)), (3, (.int .i64 (x0))), (4, (.int .i64 (x1)))], [], [(.arr false (z2) (.ints .i64 (l3)))]⟩
theorem e_spec_l07Sum (k : Nat) (az : Bool) (a : List Int) : go (k + 1) spec_l07Sum [(.arr false (az) (.ints .i64 (a)))] =
    lp k spec_l07Sum [] [] 3 k (s_spec_l07Sum_3 ((0 : Int)) ((0 : Int)) az a) := by kernel_rfl
theorem l_spec_l07Sum_3 (k n : Nat) (fu : List (Nat × Nat)) (x0 : Int) (x1 : Int) (z2 : Bool) (l3 : List Int) : lp k spec_l07Sum [] fu 3 (n + 1) (s_spec_l07Sum_3 x0 x1 z2 l3) =
    cond (decide (x1 < nI (List.length l3)))
  (cond (decide ((0 : Int) ≤ x1) && decide (x1 < nI (List.length l3)))
    (lp k spec_l07Sum [] fu 3 n (s_spec_l07Sum_3 (IntKind.wrap .i64 (x0 + List.getD l3 (Int.toNat x1) (0 : Int))) (IntKind.wrap .i64 (x1 + (1 : Int))) z2 l3))
    (none))
  (some [(.int .i64 (x0))]) := by kernel_rfl
def s_impl_sum_3 (x0 : Int) (x1 : Int) (x2 : Int) (z3 : Bool) (l4 : List Int) : St := ⟨fill 17 [(3, (.int .i64 (x0))), (6, (.sl 0 none)), (7, (.int .i64 (x1))), (8, (.int .i64 (x2)))], [], [(.arr false (z3) (.ints .i64 (l4)))]⟩
theorem e_impl_sum (k : Nat) (az : Bool) (a : List Int) : go (k + 1) impl_sum [(.arr false (az) (.ints .i64 (a)))] =
    lp k impl_sum [] [] 3 k (s_impl_sum_3 ((0 : Int)) (nI (List.length a)) ((0 : Int)) az a) := by kernel_rfl
theorem l_impl_sum_3 (k n : Nat) (fu : List (Nat × Nat)) (x0 : Int) (x1 : Int) (x2 : Int) (z3 : Bool) (l4 : List Int) : lp k impl_sum [] fu 3 (n + 1) (s_impl_sum_3 x0 x1 x2 z3 l4) =
    cond (decide (x2 < x1))
  (cond (decide ((0 : Int) ≤ x2) && decide (x2 < nI (List.length l4)))
    (lp k impl_sum [] fu 3 n (s_impl_sum_3 (IntKind.wrap .i64 (x0 + List.getD l4 (Int.toNat x2) (0 : Int))) x1 (IntKind.wrap .i64 (x2 + (1 : Int))) z3 l4))
    (none))
  (some [(.int .i64 (x0))]) := by kernel_rfl
def s_slices_IndexFunc_int_int_at_impl_State_hasCells_1_2 (x0 : Int) (x1 : Int) (z2 : Bool) (l3 : List Int) : St := ⟨fill 19 [(0, (.sl 0 none)), (1, (.fn impl_State_hasCells_1 [])), (7, (.int .i64 (x0))), (8, (.int .i64 (x1)))], [], [(.arr false (z2) (.ints .i64 (l3)))]⟩
theorem e_slices_IndexFunc_int_int_at_impl_State_hasCells_1 (k : Nat) (v0 : Bool) (v1 : List Int) : go (k + 1) slices_IndexFunc_int_int [(.arr false (v0) (.ints .i64 (v1))), (.fn impl_State_hasCells_1 [])] =
    lp k slices_IndexFunc_int_int [] [] 2 k (s_slices_IndexFunc_int_int_at_impl_State_hasCells_1_2 (nI (List.length v1)) ((0 : Int)) v0 v1) := by kernel_rfl
theorem l_slices_IndexFunc_int_int_at_impl_State_hasCells_1_2 (k n : Nat) (fu : List (Nat × Nat)) (x0 : Int) (x1 : Int) (z2 : Bool) (l3 : List Int) : lp k slices_IndexFunc_int_int [] fu 2 (n + 1) (s_slices_IndexFunc_int_int_at_impl_State_hasCells_1_2 x0 x1 z2 l3) =
    cond (decide (x1 < x0))
  (cond (decide ((0 : Int) ≤ x1) && decide (x1 < nI (List.length l3)))
    ((go k impl_State_hasCells_1 [(.int .i64 (List.getD l3 (Int.toNat x1) (0 : Int)))]).bind fun r0 =>
      cond (bit (nth r0 0))
      (some [(.int .i64 (x1))])
      (lp k slices_IndexFunc_int_int [] fu 2 n (s_slices_IndexFunc_int_int_at_impl_State_hasCells_1_2 x0 (IntKind.wrap .i64 (x1 + (1 : Int))) z2 l3)))
    (none))
  (some [(.int .i64 ((-1 : Int)))]) := by kernel_rfl
theorem e_slices_ContainsFunc_int_int_at_impl_State_hasCells_1 (k : Nat) (v0 : Bool) (v1 : List Int) : go (k + 1) slices_ContainsFunc_int_int [(.arr false (v0) (.ints .i64 (v1))), (.fn impl_State_hasCells_1 [])] =
    (go k slices_IndexFunc_int_int [(.arr false (v0) (.ints .i64 (v1))), (.fn impl_State_hasCells_1 [])]).bind fun r0 =>
  some [(.bool (decide ((0 : Int) ≤ D.toInt (nth r0 0))))] := by kernel_rfl
theorem e_spec_l04Copy (k : Nat) (a0 : Int) (a1z : Bool) (a1 : List (Int × Int × Int)) : go (k + 1) spec_l04Copy [(.agg [(.int .i64 (a0)), (.arr false (a1z) (.r3 (a1)))])] =
    cond (decide (List.length ([] ++ a1) ≤ bigLen))
  (some [(.agg [(.int .i64 (a0)), (.arr true (false && decide (List.length ([] ++ a1) = 0)) (.r3 ([] ++ a1)))])])
  (none) := by kernel_rfl
theorem e_spec_l07Copy (k : Nat) (a0 : Int) (a1z : Bool) (a1 : List (Int × Int × Int)) (a2z : Bool) (a2 : List Int) (a3z : Bool) (a3 : List Int) (a4z : Bool) (a4 : List Int) : go (k + 1) spec_l07Copy [(.agg [(.int .i64 (a0)), (.arr false (a1z) (.r3 (a1))), (.arr false (a2z) (.ints .i64 (a2))), (.arr false (a3z) (.ints .i64 (a3))), (.arr false (a4z) (.ints .i64 (a4)))])] =
    (go k spec_l04Copy [(.agg [(.int .i64 (a0)), (.arr false (a1z) (.r3 (a1)))])]).bind fun r0 =>
  cond (decide (List.length ([] ++ a2) ≤ bigLen))
  (cond (decide (List.length ([] ++ a3) ≤ bigLen))
    (cond (decide (List.length ([] ++ a4) ≤ bigLen))
      (some [(.agg [(.int .i64 (D.toInt (D.cell 0 (nth r0 0)))), (.arr true (D.nil (D.cell 1 (nth r0 0))) (.r3 (D.r3 (D.cell 1 (nth r0 0))))), (.arr true (false && decide (List.length ([] ++ a2) = 0)) (.ints .i64 ([] ++ a2))), (.arr true (false && decide (List.length ([] ++ a3) = 0)) (.ints .i64 ([] ++ a3))), (.arr true (false && decide (List.length ([] ++ a4) = 0)) (.ints .i64 ([] ++ a4)))])])
      (none))
    (none))
  (none) := by kernel_rfl
theorem e_impl_copyMesh (k : Nat) (a0 : Int) (a1z : Bool) (a1 : List (Int × Int × Int)) : go (k + 1) impl_copyMesh [(.agg [(.int .i64 (a0)), (.arr false (a1z) (.r3 (a1)))])] =
    (go k slices_Clone_impl_Id_impl_Id [(.arr false (a1z) (.r3 (a1)))]).bind fun r0 =>
  some [(.agg [(.int .i64 (a0)), (.arr true (D.nil (nth r0 0)) (.r3 (D.r3 (nth r0 0))))])] := by kernel_rfl
theorem e_impl_copyState (k : Nat) (a0 : Int) (a1z : Bool) (a1 : List (Int × Int × Int)) (a2z : Bool) (a2 : List Int) (a3z : Bool) (a3 : List Int) (a4z : Bool) (a4 : List Int) : go (k + 1) impl_copyState [(.agg [(.int .i64 (a0)), (.arr false (a1z) (.r3 (a1))), (.arr false (a2z) (.ints .i64 (a2))), (.arr false (a3z) (.ints .i64 (a3))), (.arr false (a4z) (.ints .i64 (a4)))])] =
    (go k impl_copyMesh [(.agg [(.int .i64 (a0)), (.arr false (a1z) (.r3 (a1)))])]).bind fun r0 =>
  (go k slices_Clone_int_int [(.arr false (a2z) (.ints .i64 (a2)))]).bind fun r1 =>
  (go k slices_Clone_int_int [(.arr false (a3z) (.ints .i64 (a3)))]).bind fun r2 =>
  (go k slices_Clone_int_int [(.arr false (a4z) (.ints .i64 (a4)))]).bind fun r3 =>
  some [(.agg [(.int .i64 (D.toInt (D.cell 0 (nth r0 0)))), (.arr true (D.nil (D.cell 1 (nth r0 0))) (.r3 (D.r3 (D.cell 1 (nth r0 0))))), (.arr true (D.nil (nth r1 0)) (.ints .i64 (D.ints (nth r1 0)))), (.arr true (D.nil (nth r2 0)) (.ints .i64 (D.ints (nth r2 0)))), (.arr true (D.nil (nth r3 0)) (.ints .i64 (D.ints (nth r3 0))))])] := by kernel_rfl
theorem e_slices_Clone_int_int (k : Nat) (az : Bool) (a : List Int) : go (k + 1) slices_Clone_int_int [(.arr false (az) (.ints .i64 (a)))] =
    cond (az)
  (some [(.arr true (true) (.ints .i64 ([])))])
  (cond (decide (List.length ([] ++ a) ≤ bigLen))
    (some [(.arr true (false && decide (List.length ([] ++ a) = 0)) (.ints .i64 ([] ++ a)))])
    (none)) := by kernel_rfl
theorem e_slices_Clone_impl_Id_impl_Id (k : Nat) (az : Bool) (a : List (Int × Int × Int)) : go (k + 1) slices_Clone_impl_Id_impl_Id [(.arr false (az) (.r3 (a)))] =
    cond (az)
  (some [(.arr true (true) (.r3 ([])))])
  (cond (decide (List.length ([] ++ a) ≤ bigLen))
    (some [(.arr true (false && decide (List.length ([] ++ a) = 0)) (.r3 ([] ++ a)))])
    (none)) := by kernel_rfl
theorem e_spec_TotalMass (k : Nat) (a0 : Int) (a1z : Bool) (a1 : List (Int × Int × Int)) (a2z : Bool) (a2 : List Int) (a3z : Bool) (a3 : List Int) (a4z : Bool) (a4 : List Int) : go (k + 1) spec_TotalMass [(.agg [(.int .i64 (a0)), (.arr false (a1z) (.r3 (a1))), (.arr false (a2z) (.ints .i64 (a2))), (.arr false (a3z) (.ints .i64 (a3))), (.arr false (a4z) (.ints .i64 (a4)))])] =
    (go k spec_StateOk [(.agg [(.int .i64 (a0)), (.arr false (a1z) (.r3 (a1))), (.arr false (a2z) (.ints .i64 (a2))), (.arr false (a3z) (.ints .i64 (a3))), (.arr false (a4z) (.ints .i64 (a4)))])]).bind fun r0 =>
  cond (!bit (nth r0 0))
  (some [(.int .i64 ((0 : Int)))])
  ((go k spec_l07Sum [(.arr false (a2z) (.ints .i64 (a2)))]).bind fun r1 =>
    some [(.int .i64 (D.toInt (nth r1 0)))]) := by kernel_rfl
theorem e_spec_TotalTracer (k : Nat) (a0 : Int) (a1z : Bool) (a1 : List (Int × Int × Int)) (a2z : Bool) (a2 : List Int) (a3z : Bool) (a3 : List Int) (a4z : Bool) (a4 : List Int) : go (k + 1) spec_TotalTracer [(.agg [(.int .i64 (a0)), (.arr false (a1z) (.r3 (a1))), (.arr false (a2z) (.ints .i64 (a2))), (.arr false (a3z) (.ints .i64 (a3))), (.arr false (a4z) (.ints .i64 (a4)))])] =
    (go k spec_StateOk [(.agg [(.int .i64 (a0)), (.arr false (a1z) (.r3 (a1))), (.arr false (a2z) (.ints .i64 (a2))), (.arr false (a3z) (.ints .i64 (a3))), (.arr false (a4z) (.ints .i64 (a4)))])]).bind fun r0 =>
  cond (!bit (nth r0 0))
  (some [(.int .i64 ((0 : Int)))])
  ((go k spec_l07Sum [(.arr false (a3z) (.ints .i64 (a3)))]).bind fun r1 =>
    some [(.int .i64 (D.toInt (nth r1 0)))]) := by kernel_rfl
def s_spec_l24Same_4 (x0 : Int) (z1 : Bool) (l2 : List Int) (z3 : Bool) (l4 : List Int) : St := ⟨fill 26 [(0, (.sl 0 none)), (1, (.sl 1 none)), (5, (.int .i64 (x0)))], [], [(.arr false (z1) (.ints .i64 (l2))), (.arr false (z3) (.ints .i64 (l4)))]⟩
theorem e_spec_l24Same (k : Nat) (az : Bool) (a : List Int) (bz : Bool) (b : List Int) : go (k + 1) spec_l24Same [(.arr false (az) (.ints .i64 (a))), (.arr false (bz) (.ints .i64 (b)))] =
    cond (!decide (nI (List.length a) = nI (List.length b)))
  (some [(.bool (false))])
  (lp k spec_l24Same [] [] 4 k (s_spec_l24Same_4 ((0 : Int)) az a bz b)) := by kernel_rfl
theorem l_spec_l24Same_4 (k n : Nat) (fu : List (Nat × Nat)) (x0 : Int) (z1 : Bool) (l2 : List Int) (z3 : Bool) (l4 : List Int) : lp k spec_l24Same [] fu 4 (n + 1) (s_spec_l24Same_4 x0 z1 l2 z3 l4) =
    cond (decide (x0 < nI (List.length l2)))
  (cond (decide ((0 : Int) ≤ x0) && decide (x0 < nI (List.length l2)))
    (cond (decide ((0 : Int) ≤ x0) && decide (x0 < nI (List.length l4)))
      (cond (!decide (List.getD l2 (Int.toNat x0) (0 : Int) = List.getD l4 (Int.toNat x0) (0 : Int)))
        (some [(.bool (false))])
        (lp k spec_l24Same [] fu 4 n (s_spec_l24Same_4 (IntKind.wrap .i64 (x0 + (1 : Int))) z1 l2 z3 l4)))
      (none))
    (none))
  (some [(.bool (true))]) := by kernel_rfl

end Go.Proofs.Ytfgccfajhedgdaa
