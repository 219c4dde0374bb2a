/- Work of parts, one step each. -/
import Derived.Test.YtljphlfgkdmahaaXA
namespace Go.Proofs.Ytljphlfgkdmahaa
open Go.Ev
set_option linter.unusedVariables false
def s_impl_WorkShare_5 (x0 : Int) (x1 : Int) (z2 : Bool) (l3 : List Int) (z4 : Bool) (l5 : List (Int × Int × Int)) (x6 : Int) (z7 : Bool) (l8 : List Int) : St := ⟨fill 57 [(1, (.sl 0 none)), (2, (.ptr 2 (0) (0))), (5, (.sl 3 none)), (23, (.int .i64 (x0))), (24, (.int .i64 (x1)))], [], [(.arr false (z2) (.ints .i64 (l3))), (.arr false (z4) (.r3 (l5))), (.box true [(.int .i64 (x6)), (.sl 1 none)]), (.arr true (z7) (.ints .i64 (l8)))]⟩
def s_impl_WorkShare_9 (x0 : Int) (x1 : Int) (x2 : Int) (x3 : Int) (x4 : Int) (z5 : Bool) (l6 : List Int) (z7 : Bool) (l8 : List (Int × Int × Int)) (x9 : Int) (z10 : Bool) (l11 : List Int) : St := ⟨fill 57 [(1, (.sl 0 none)), (2, (.ptr 2 (0) (0))), (5, (.sl 3 none)), (6, (.int .i64 (x0))), (7, (.int .i64 (x1))), (8, (.int .i64 (x2))), (23, (.int .i64 (x3))), (24, (.int .i64 (x4)))], [], [(.arr false (z5) (.ints .i64 (l6))), (.arr false (z7) (.r3 (l8))), (.box true [(.int .i64 (x9)), (.sl 1 none)]), (.arr true (z10) (.ints .i64 (l11)))]⟩
theorem e_impl_WorkShare (k : Nat) (a0 : Int) (a1z : Bool) (a1 : List (Int × Int × Int)) (bz : Bool) (b : List Int) : go (k + 1) impl_WorkShare [(.agg [(.int .i64 (a0)), (.arr false (a1z) (.r3 (a1)))]), (.arr false (bz) (.ints .i64 (b)))] =
    (go k impl_MeshOk [(.agg [(.int .i64 (a0)), (.arr false (a1z) (.r3 (a1)))])]).bind fun r0 =>
  cond (!bit (nth r0 0))
  (some [(.arr true (true) (.ints .i64 ([])))])
  ((go k impl_CutsOk [(.int .i64 (nI (List.length a1))), (.arr false (bz) (.ints .i64 (b)))]).bind fun r1 =>
    cond (!bit (nth r1 0))
    (some [(.arr true (true) (.ints .i64 ([])))])
    (lp k impl_WorkShare [] [] 5 k (s_impl_WorkShare_5 (IntKind.wrap .i64 (nI (List.length b) - (1 : Int))) ((0 : Int)) bz b a1z a1 a0 false ([])))) := by kernel_rfl
theorem l_impl_WorkShare_5 (k n : Nat) (fu : List (Nat × Nat)) (x0 : Int) (x1 : Int) (z2 : Bool) (l3 : List Int) (z4 : Bool) (l5 : List (Int × Int × Int)) (x6 : Int) (z7 : Bool) (l8 : List Int) : lp k impl_WorkShare [] fu 5 (n + 1) (s_impl_WorkShare_5 x0 x1 z2 l3 z4 l5 x6 z7 l8) =
    cond (decide (x1 < x0))
  (cond (decide ((0 : Int) ≤ x1) && decide (x1 < nI (List.length l3)))
    (lp k impl_WorkShare [] ((5, n) :: fu) 9 k (s_impl_WorkShare_9 x1 ((0 : Int)) (List.getD l3 (Int.toNat x1) (0 : Int)) x0 x1 z2 l3 z4 l5 x6 z7 l8))
    (none))
  (some [(.arr true (z7) (.ints .i64 (l8)))]) := by kernel_rfl
theorem l_impl_WorkShare_9 (k n : Nat) (fu : List (Nat × Nat)) (x0 : Int) (x1 : Int) (x2 : Int) (x3 : Int) (x4 : Int) (z5 : Bool) (l6 : List Int) (z7 : Bool) (l8 : List (Int × Int × Int)) (x9 : Int) (z10 : Bool) (l11 : List Int) : lp k impl_WorkShare [] fu 9 (n + 1) (s_impl_WorkShare_9 x0 x1 x2 x3 x4 z5 l6 z7 l8 x9 z10 l11) =
    cond (decide ((0 : Int) ≤ IntKind.wrap .i64 (x0 + (1 : Int))) && decide (IntKind.wrap .i64 (x0 + (1 : Int)) < nI (List.length l6)))
  (cond (decide (x2 < if IntKind.wrap .i64 (nI (List.length l8) - (1 : Int)) < List.getD l6 (Int.toNat (IntKind.wrap .i64 (x0 + (1 : Int)))) (0 : Int) then IntKind.wrap .i64 (nI (List.length l8) - (1 : Int)) else List.getD l6 (Int.toNat (IntKind.wrap .i64 (x0 + (1 : Int)))) (0 : Int)))
    ((go k impl_Mesh_faceLevel [(.agg [(.int .i64 (x9)), (.arr false (z7) (.r3 (l8)))]), (.int .i64 (x2))]).bind fun r0 =>
      cond (decide ((0 : Int) ≤ D.toInt (nth r0 0)))
      (lp k impl_WorkShare [] fu 9 n (s_impl_WorkShare_9 x0 (IntKind.wrap .i64 (x1 + IntKind.wrap .i64 ((1 : Int) * (2 : Int) ^ shiftN .i64 (D.toInt (nth r0 0))))) (IntKind.wrap .i64 (x2 + (1 : Int))) x3 x4 z5 l6 z7 l8 x9 z10 l11))
      (none))
    (cond (decide (List.length (l11 ++ [x1]) ≤ bigLen))
      (lp k impl_WorkShare [] fu 5 (fuelOf fu 5) (s_impl_WorkShare_5 x3 (IntKind.wrap .i64 (x4 + (1 : Int))) z5 l6 z7 l8 x9 (z10 && decide (List.length (l11 ++ [x1]) = 0)) (l11 ++ [x1])))
      (none)))
  (none) := by kernel_rfl
def s_spec_WorkShare_5 (x0 : Int) (z1 : Bool) (l2 : List Int) (z3 : Bool) (l4 : List (Int × Int × Int)) (x5 : Int) (z6 : Bool) (l7 : List Int) : St := ⟨fill 62 [(1, (.sl 0 none)), (2, (.ptr 2 (0) (0))), (5, (.sl 3 none)), (6, (.int .i64 (x0)))], [], [(.arr false (z1) (.ints .i64 (l2))), (.arr false (z3) (.r3 (l4))), (.box true [(.int .i64 (x5)), (.sl 1 none)]), (.arr true (z6) (.ints .i64 (l7)))]⟩
def s_spec_WorkShare_9 (x0 : Int) (x1 : Int) (x2 : Int) (z3 : Bool) (l4 : List Int) (z5 : Bool) (l6 : List (Int × Int × Int)) (x7 : Int) (z8 : Bool) (l9 : List Int) : St := ⟨fill 62 [(1, (.sl 0 none)), (2, (.ptr 2 (0) (0))), (5, (.sl 3 none)), (6, (.int .i64 (x0))), (7, (.int .i64 (x1))), (8, (.int .i64 (x2)))], [], [(.arr false (z3) (.ints .i64 (l4))), (.arr false (z5) (.r3 (l6))), (.box true [(.int .i64 (x7)), (.sl 1 none)]), (.arr true (z8) (.ints .i64 (l9)))]⟩
theorem e_spec_WorkShare (k : Nat) (a0 : Int) (a1z : Bool) (a1 : List (Int × Int × Int)) (bz : Bool) (b : List Int) : go (k + 1) spec_WorkShare [(.agg [(.int .i64 (a0)), (.arr false (a1z) (.r3 (a1)))]), (.arr false (bz) (.ints .i64 (b)))] =
    (go k spec_MeshOk [(.agg [(.int .i64 (a0)), (.arr false (a1z) (.r3 (a1)))])]).bind fun r0 =>
  cond (!bit (nth r0 0))
  (some [(.arr true (false) (.ints .i64 ([])))])
  ((go k spec_CutsOk [(.int .i64 (nI (List.length a1))), (.arr false (bz) (.ints .i64 (b)))]).bind fun r1 =>
    cond (!bit (nth r1 0))
    (some [(.arr true (false) (.ints .i64 ([])))])
    (lp k spec_WorkShare [] [] 5 k (s_spec_WorkShare_5 ((0 : Int)) bz b a1z a1 a0 false ([])))) := by kernel_rfl
theorem l_spec_WorkShare_5 (k n : Nat) (fu : List (Nat × Nat)) (x0 : Int) (z1 : Bool) (l2 : List Int) (z3 : Bool) (l4 : List (Int × Int × Int)) (x5 : Int) (z6 : Bool) (l7 : List Int) : lp k spec_WorkShare [] fu 5 (n + 1) (s_spec_WorkShare_5 x0 z1 l2 z3 l4 x5 z6 l7) =
    cond (decide (IntKind.wrap .i64 (x0 + (1 : Int)) < nI (List.length l2)))
  (cond (decide ((0 : Int) ≤ x0) && decide (x0 < nI (List.length l2)))
    (lp k spec_WorkShare [] ((5, n) :: fu) 9 k (s_spec_WorkShare_9 x0 ((0 : Int)) (List.getD l2 (Int.toNat x0) (0 : Int)) z1 l2 z3 l4 x5 z6 l7))
    (none))
  (some [(.arr true (z6) (.ints .i64 (l7)))]) := by kernel_rfl
theorem l_spec_WorkShare_9 (k n : Nat) (fu : List (Nat × Nat)) (x0 : Int) (x1 : Int) (x2 : Int) (z3 : Bool) (l4 : List Int) (z5 : Bool) (l6 : List (Int × Int × Int)) (x7 : Int) (z8 : Bool) (l9 : List Int) : lp k spec_WorkShare [] fu 9 (n + 1) (s_spec_WorkShare_9 x0 x1 x2 z3 l4 z5 l6 x7 z8 l9) =
    cond (decide ((0 : Int) ≤ IntKind.wrap .i64 (x0 + (1 : Int))) && decide (IntKind.wrap .i64 (x0 + (1 : Int)) < nI (List.length l4)))
  (cond (decide (x2 < List.getD l4 (Int.toNat (IntKind.wrap .i64 (x0 + (1 : Int)))) (0 : Int)))
    (cond (decide (IntKind.wrap .i64 (x2 + (1 : Int)) < nI (List.length l6)))
      ((go k spec_l05Face [(.agg [(.int .i64 (x7)), (.arr false (z5) (.r3 (l6)))]), (.int .i64 (x2))]).bind fun r0 =>
        cond (decide ((0 : Int) ≤ IntKind.wrap IntKind.u64 (D.toInt (nth r0 0))))
        (lp k spec_WorkShare [] fu 9 n (s_spec_WorkShare_9 x0 (IntKind.wrap .i64 (x1 + IntKind.wrap .i64 ((1 : Int) * (2 : Int) ^ shiftN .i64 (IntKind.wrap IntKind.u64 (D.toInt (nth r0 0)))))) (IntKind.wrap .i64 (x2 + (1 : Int))) z3 l4 z5 l6 x7 z8 l9))
        (none))
      (cond (decide (List.length (l9 ++ [x1]) ≤ bigLen))
        (lp k spec_WorkShare [] fu 5 (fuelOf fu 5) (s_spec_WorkShare_5 (IntKind.wrap .i64 (x0 + (1 : Int))) z3 l4 z5 l6 x7 (z8 && decide (List.length (l9 ++ [x1]) = 0)) (l9 ++ [x1])))
        (none)))
    (cond (decide (List.length (l9 ++ [x1]) ≤ bigLen))
      (lp k spec_WorkShare [] fu 5 (fuelOf fu 5) (s_spec_WorkShare_5 (IntKind.wrap .i64 (x0 + (1 : Int))) z3 l4 z5 l6 x7 (z8 && decide (List.length (l9 ++ [x1]) = 0)) (l9 ++ [x1])))
      (none)))
  (none) := by kernel_rfl
def s_spec_CutsOk_4 (x0 : Int) (z1 : Bool) (l2 : List Int) : St := ⟨fill 42 [(1, (.sl 0 none)), (5, (.int .i64 (x0)))], [], [(.arr false (z1) (.ints .i64 (l2)))]⟩
theorem e_spec_CutsOk (k : Nat) (a : Int) (bz : Bool) (b : List Int) : go (k + 1) spec_CutsOk [(.int .i64 (a)), (.arr false (bz) (.ints .i64 (b)))] =
    (go k spec_l01In [(.int .i64 (nI (List.length b))), (.int .i64 ((2 : Int))), (.int .i64 ((17 : Int)))]).bind fun r0 =>
  cond (!bit (nth r0 0))
  (some [(.bool (false))])
  (cond (decide ((0 : Int) ≤ (0 : Int)) && decide ((0 : Int) < nI (List.length b)))
    (cond (!decide (List.getD b (Int.toNat (0 : Int)) (0 : Int) = (0 : Int)))
      (some [(.bool (false))])
      (cond (decide ((0 : Int) ≤ IntKind.wrap .i64 (nI (List.length b) - (1 : Int))) && decide (IntKind.wrap .i64 (nI (List.length b) - (1 : Int)) < nI (List.length b)))
        (cond (!decide (List.getD b (Int.toNat (IntKind.wrap .i64 (nI (List.length b) - (1 : Int)))) (0 : Int) = a))
          (some [(.bool (false))])
          (lp k spec_CutsOk [] [] 4 k (s_spec_CutsOk_4 ((1 : Int)) bz b)))
        (none)))
    (none)) := by kernel_rfl
theorem l_spec_CutsOk_4 (k n : Nat) (fu : List (Nat × Nat)) (x0 : Int) (z1 : Bool) (l2 : List Int) : lp k spec_CutsOk [] fu 4 (n + 1) (s_spec_CutsOk_4 x0 z1 l2) =
    cond (decide (x0 < nI (List.length l2)))
  (cond (decide ((0 : Int) ≤ x0) && decide (x0 < nI (List.length l2)))
    (cond (decide ((0 : Int) ≤ IntKind.wrap .i64 (x0 - (1 : Int))) && decide (IntKind.wrap .i64 (x0 - (1 : Int)) < nI (List.length l2)))
      (cond (decide (List.getD l2 (Int.toNat x0) (0 : Int) < List.getD l2 (Int.toNat (IntKind.wrap .i64 (x0 - (1 : Int)))) (0 : Int)))
        (some [(.bool (false))])
        (lp k spec_CutsOk [] fu 4 n (s_spec_CutsOk_4 (IntKind.wrap .i64 (x0 + (1 : Int))) z1 l2)))
      (none))
    (none))
  (some [(.bool (true))]) := by kernel_rfl
theorem e_impl_CutsOk (k : Nat) (a : Int) (bz : Bool) (b : List Int) : go (k + 1) impl_CutsOk [(.int .i64 (a)), (.arr false (bz) (.ints .i64 (b)))] =
    (go k impl_within [(.int .i64 (nI (List.length b))), (.int .i64 ((2 : Int))), (.int .i64 ((17 : Int)))]).bind fun r0 =>
  cond (bit (nth r0 0))
  (cond (decide ((0 : Int) ≤ (0 : Int)) && decide ((0 : Int) < nI (List.length b)))
    (cond (decide (List.getD b (Int.toNat (0 : Int)) (0 : Int) = (0 : Int)))
      (cond (decide ((0 : Int) ≤ IntKind.wrap .i64 (nI (List.length b) - (1 : Int))) && decide (IntKind.wrap .i64 (nI (List.length b) - (1 : Int)) < nI (List.length b)))
        (cond (decide (List.getD b (Int.toNat (IntKind.wrap .i64 (nI (List.length b) - (1 : Int)))) (0 : Int) = a))
          ((go k slices_IsSorted_int_int [(.arr false (bz) (.ints .i64 (b)))]).bind fun r1 =>
            some [(.bool (bit (nth r1 0)))])
          (some [(.bool (false))]))
        (none))
      (some [(.bool (false))]))
    (none))
  (some [(.bool (false))]) := by kernel_rfl
def s_slices_IsSorted_int_int_2 (x0 : Int) (z1 : Bool) (l2 : List Int) : St := ⟨fill 21 [(0, (.sl 0 none)), (3, (.int .i64 (x0)))], [], [(.arr false (z1) (.ints .i64 (l2)))]⟩
theorem e_slices_IsSorted_int_int (k : Nat) (az : Bool) (a : List Int) : go (k + 1) slices_IsSorted_int_int [(.arr false (az) (.ints .i64 (a)))] =
    lp k slices_IsSorted_int_int [] [] 2 k (s_slices_IsSorted_int_int_2 (IntKind.wrap .i64 (nI (List.length a) - (1 : Int))) az a) := by kernel_rfl
theorem l_slices_IsSorted_int_int_2 (k n : Nat) (fu : List (Nat × Nat)) (x0 : Int) (z1 : Bool) (l2 : List Int) : lp k slices_IsSorted_int_int [] fu 2 (n + 1) (s_slices_IsSorted_int_int_2 x0 z1 l2) =
    cond (decide ((0 : Int) < x0))
  (cond (decide ((0 : Int) ≤ x0) && decide (x0 < nI (List.length l2)))
    (cond (decide ((0 : Int) ≤ IntKind.wrap .i64 (x0 - (1 : Int))) && decide (IntKind.wrap .i64 (x0 - (1 : Int)) < nI (List.length l2)))
      ((go k cmp_Less_int [(.int .i64 (List.getD l2 (Int.toNat x0) (0 : Int))), (.int .i64 (List.getD l2 (Int.toNat (IntKind.wrap .i64 (x0 - (1 : Int)))) (0 : Int)))]).bind fun r0 =>
        cond (bit (nth r0 0))
        (some [(.bool (false))])
        (lp k slices_IsSorted_int_int [] fu 2 n (s_slices_IsSorted_int_int_2 (IntKind.wrap .i64 (x0 - (1 : Int))) z1 l2)))
      (none))
    (none))
  (some [(.bool (true))]) := by kernel_rfl
theorem e_spec_Efficiency (k : Nat) (a0 : Int) (a1z : Bool) (a1 : List (Int × Int × Int)) (bz : Bool) (b : List Int) : go (k + 1) spec_Efficiency [(.agg [(.int .i64 (a0)), (.arr false (a1z) (.r3 (a1)))]), (.arr false (bz) (.ints .i64 (b)))] =
    (go k spec_WorkShare [(.agg [(.int .i64 (a0)), (.arr false (a1z) (.r3 (a1)))]), (.arr false (bz) (.ints .i64 (b)))]).bind fun r0 =>
  cond (decide (nI (List.length (D.ints (nth r0 0))) = (0 : Int)))
  (some [(.int .i64 ((-1 : Int)))])
  ((go k spec_PeakOf [(.arr false (D.nil (nth r0 0)) (.ints .i64 (D.ints (nth r0 0))))]).bind fun r1 =>
    cond (decide (D.toInt (nth r1 0) = (0 : Int)))
    (some [(.int .i64 ((1000 : Int)))])
    ((go k spec_l07Sum [(.arr false (D.nil (nth r0 0)) (.ints .i64 (D.ints (nth r0 0))))]).bind fun r2 =>
      cond (!decide (IntKind.wrap .i64 (nI (List.length (D.ints (nth r0 0))) * D.toInt (nth r1 0)) = (0 : Int)))
      (some [(.int .i64 (IntKind.wrap .i64 (Int.tdiv (IntKind.wrap .i64 ((1000 : Int) * D.toInt (nth r2 0))) (IntKind.wrap .i64 (nI (List.length (D.ints (nth r0 0))) * D.toInt (nth r1 0))))))])
      (none))) := by kernel_rfl
theorem e_impl_Efficiency (k : Nat) (a0 : Int) (a1z : Bool) (a1 : List (Int × Int × Int)) (bz : Bool) (b : List Int) : go (k + 1) impl_Efficiency [(.agg [(.int .i64 (a0)), (.arr false (a1z) (.r3 (a1)))]), (.arr false (bz) (.ints .i64 (b)))] =
    (go k impl_WorkShare [(.agg [(.int .i64 (a0)), (.arr false (a1z) (.r3 (a1)))]), (.arr false (bz) (.ints .i64 (b)))]).bind fun r0 =>
  cond (D.nil (nth r0 0))
  (some [(.int .i64 ((-1 : Int)))])
  ((go k slices_Max_int_int [(.arr false (D.nil (nth r0 0)) (.ints .i64 (D.ints (nth r0 0))))]).bind fun r1 =>
    cond (decide (D.toInt (nth r1 0) = (0 : Int)))
    (some [(.int .i64 ((1000 : Int)))])
    ((go k impl_sum [(.arr false (D.nil (nth r0 0)) (.ints .i64 (D.ints (nth r0 0))))]).bind fun r2 =>
      cond (!decide (IntKind.wrap .i64 (nI (List.length (D.ints (nth r0 0))) * D.toInt (nth r1 0)) = (0 : Int)))
      (some [(.int .i64 (IntKind.wrap .i64 (Int.tdiv (IntKind.wrap .i64 ((1000 : Int) * D.toInt (nth r2 0))) (IntKind.wrap .i64 (nI (List.length (D.ints (nth r0 0))) * D.toInt (nth r1 0))))))])
      (none))) := by kernel_rfl
def s_slices_Max_int_int_5 (x0 : Int) (x1 : Int) (z2 : Bool) (l3 : List Int) : St := ⟨fill 25 [(0, (.sl 0 none)), (3, (.int .i64 (x0))), (4, (.int .i64 (x1)))], [], [(.arr false (z2) (.ints .i64 (l3)))]⟩
theorem e_slices_Max_int_int (k : Nat) (az : Bool) (a : List Int) : go (k + 1) slices_Max_int_int [(.arr false (az) (.ints .i64 (a)))] =
    cond (decide (nI (List.length a) < (1 : Int)))
  (none)
  (cond (decide ((0 : Int) ≤ (0 : Int)) && decide ((0 : Int) < nI (List.length a)))
    (lp k slices_Max_int_int [] [] 5 k (s_slices_Max_int_int_5 (List.getD a (Int.toNat (0 : Int)) (0 : Int)) ((1 : Int)) az a))
    (none)) := by kernel_rfl
theorem l_slices_Max_int_int_5 (k n : Nat) (fu : List (Nat × Nat)) (x0 : Int) (x1 : Int) (z2 : Bool) (l3 : List Int) : lp k slices_Max_int_int [] fu 5 (n + 1) (s_slices_Max_int_int_5 x0 x1 z2 l3) =
    cond (decide (x1 < nI (List.length l3)))
  (cond (decide ((0 : Int) ≤ x1) && decide (x1 < nI (List.length l3)))
    (lp k slices_Max_int_int [] fu 5 n (s_slices_Max_int_int_5 (if List.getD l3 (Int.toNat x1) (0 : Int) > x0 then List.getD l3 (Int.toNat x1) (0 : Int) else x0) (IntKind.wrap .i64 (x1 + (1 : Int))) z2 l3))
    (none))
  (some [(.int .i64 (x0))]) := by kernel_rfl
def s_spec_PeakOf_3 (x0 : Int) (x1 : Int) (z2 : Bool) (l3 : List Int) : St := ⟨fill 33 [(0, (.sl 0 none)), (4, (.int .i64 (x0))), (5, (.int .i64 (x1)))], [], [(.arr false (z2) (.ints .i64 (l3)))]⟩
theorem e_spec_PeakOf (k : Nat) (az : Bool) (a : List Int) : go (k + 1) spec_PeakOf [(.arr false (az) (.ints .i64 (a)))] =
    lp k spec_PeakOf [] [] 3 k (s_spec_PeakOf_3 ((-1 : Int)) ((0 : Int)) az a) := by kernel_rfl
theorem l_spec_PeakOf_3 (k n : Nat) (fu : List (Nat × Nat)) (x0 : Int) (x1 : Int) (z2 : Bool) (l3 : List Int) : lp k spec_PeakOf [] fu 3 (n + 1) (s_spec_PeakOf_3 x0 x1 z2 l3) =
    cond (decide (x1 < nI (List.length l3)))
  (cond (decide (x0 < (0 : Int)))
    (lp k spec_PeakOf [] fu 3 n (s_spec_PeakOf_3 x1 (IntKind.wrap .i64 (x1 + (1 : Int))) z2 l3))
    (cond (decide ((0 : Int) ≤ x1) && decide (x1 < nI (List.length l3)))
      (cond (decide ((0 : Int) ≤ x0) && decide (x0 < nI (List.length l3)))
        (cond (decide (List.getD l3 (Int.toNat x0) (0 : Int) < List.getD l3 (Int.toNat x1) (0 : Int)))
          (lp k spec_PeakOf [] fu 3 n (s_spec_PeakOf_3 x1 (IntKind.wrap .i64 (x1 + (1 : Int))) z2 l3))
          (lp k spec_PeakOf [] fu 3 n (s_spec_PeakOf_3 x0 (IntKind.wrap .i64 (x1 + (1 : Int))) z2 l3)))
        (none))
      (none)))
  (cond (decide (x0 < (0 : Int)))
    (some [(.int .i64 ((0 : Int))), (.int .i64 ((-1 : Int)))])
    (cond (decide ((0 : Int) ≤ x0) && decide (x0 < nI (List.length l3)))
      (some [(.int .i64 (List.getD l3 (Int.toNat x0) (0 : Int))), (.int .i64 (x0))])
      (none))) := by kernel_rfl
theorem e_cmp_Less_int (k : Nat) (a : Int) (b : Int) : go (k + 1) cmp_Less_int [(.int .i64 (a)), (.int .i64 (b))] =
    (go k cmp_isNaN_int [(.int .i64 (a))]).bind fun r0 =>
  cond (bit (nth r0 0))
  ((go k cmp_isNaN_int [(.int .i64 (b))]).bind fun r1 =>
    cond (!bit (nth r1 0))
    (some [(.bool (true))])
    (some [(.bool (decide (a < b)))]))
  (some [(.bool (decide (a < b)))]) := by kernel_rfl
theorem e_cmp_isNaN_int (k : Nat) (a : Int) : go (k + 1) cmp_isNaN_int [(.int .i64 (a))] =
    some [(.bool (!decide (a = a)))] := by kernel_rfl

end Go.Proofs.Ytljphlfgkdmahaa
