/- What comparing functions of states compute, one step each (second part). -/
import Derived.Test.YtfgccfajhedgdaaXA
namespace Go.Proofs.Ytfgccfajhedgdaa
open Go.Ev
set_option linter.unusedVariables false
def s_impl_ProfileOf_5 (x0 : Int) (x1 : Int) (z2 : Bool) (l3 : List (Int × Int × Int)) (z4 : Bool) (l5 : List Int) (z6 : Bool) (l7 : List Int) (z8 : Bool) (l9 : List Int) (x10 : Int) (z11 : Bool) (l12 : List Int) : St := ⟨fill 38 [(1, (.ptr 4 (0) (0))), (3, (.sl 5 none)), (12, (.sl 0 none)), (13, (.int .i64 (x0))), (14, (.int .i64 (x1)))], [], [(.arr false (z2) (.r3 (l3))), (.arr false (z4) (.ints .i64 (l5))), (.arr false (z6) (.ints .i64 (l7))), (.arr false (z8) (.ints .i64 (l9))), (.box true [(.int .i64 (x10)), (.sl 0 none), (.sl 1 none), (.sl 2 none), (.sl 3 none)]), (.arr true (z11) (.ints .i64 (l12)))]⟩
def s_impl_ProfileOf_8 (x0 : Int) (x1 : Int) (x2 : Int) (x3 : Int) (x4 : Int) (z5 : Bool) (l6 : List (Int × Int × Int)) (z7 : Bool) (l8 : List Int) (z9 : Bool) (l10 : List Int) (z11 : Bool) (l12 : List Int) (x13 : Int) (z14 : Bool) (l15 : List Int) (x16 : Int) (x17 : Int) (x18 : Int) : St := ⟨fill 38 [(1, (.ptr 4 (0) (0))), (3, (.sl 5 none)), (4, (.int .i64 (x0))), (5, (.ptr 6 (0) (0))), (12, (.sl 0 none)), (13, (.int .i64 (x1))), (14, (.int .i64 (x2))), (21, (.int .i64 (x3))), (22, (.int .i64 (x4)))], [], [(.arr false (z5) (.r3 (l6))), (.arr false (z7) (.ints .i64 (l8))), (.arr false (z9) (.ints .i64 (l10))), (.arr false (z11) (.ints .i64 (l12))), (.box true [(.int .i64 (x13)), (.sl 0 none), (.sl 1 none), (.sl 2 none), (.sl 3 none)]), (.arr true (z14) (.ints .i64 (l15))), (.box true [(.int .i64 (x16)), (.int .i64 (x17)), (.int .i64 (x18))])]⟩
theorem e_impl_ProfileOf (k : Nat) (a0 : Int) (a1z : Bool) (a1 : List (Int × Int × Int)) (a2z : Bool) (a2 : List Int) (a3z : Bool) (a3 : List Int) (a4z : Bool) (a4 : List Int) : go (k + 1) impl_ProfileOf [(.agg [(.int .i64 (a0)), (.arr false (a1z) (.r3 (a1))), (.arr false (a2z) (.ints .i64 (a2))), (.arr false (a3z) (.ints .i64 (a3))), (.arr false (a4z) (.ints .i64 (a4)))])] =
    (go k impl_StateOk [(.agg [(.int .i64 (a0)), (.arr false (a1z) (.r3 (a1))), (.arr false (a2z) (.ints .i64 (a2))), (.arr false (a3z) (.ints .i64 (a3))), (.arr false (a4z) (.ints .i64 (a4)))])]).bind fun r0 =>
  cond (!bit (nth r0 0))
  (some [(.arr true (true) (.ints .i64 ([])))])
  (lp k impl_ProfileOf [] [] 5 k (s_impl_ProfileOf_5 (nI (List.length a1)) ((0 : Int)) a1z a1 a2z a2 a3z a3 a4z a4 a0 false ([]))) := by kernel_rfl
theorem l_impl_ProfileOf_5 (k n : Nat) (fu : List (Nat × Nat)) (x0 : Int) (x1 : Int) (z2 : Bool) (l3 : List (Int × Int × Int)) (z4 : Bool) (l5 : List Int) (z6 : Bool) (l7 : List Int) (z8 : Bool) (l9 : List Int) (x10 : Int) (z11 : Bool) (l12 : List Int) : lp k impl_ProfileOf [] fu 5 (n + 1) (s_impl_ProfileOf_5 x0 x1 z2 l3 z4 l5 z6 l7 z8 l9 x10 z11 l12) =
    cond (decide (x1 < x0))
  (cond (decide ((0 : Int) ≤ x1) && decide (x1 < nI (List.length l3)))
    ((go k impl_WidthOf [(.int .i64 (Prod.fst (Prod.snd (List.getD l3 (Int.toNat x1) zz3))))]).bind fun r0 =>
      lp k impl_ProfileOf [] ((5, n) :: fu) 8 k (s_impl_ProfileOf_8 x1 x0 x1 (D.toInt (nth r0 0)) ((0 : Int)) z2 l3 z4 l5 z6 l7 z8 l9 x10 z11 l12 (Prod.fst (List.getD l3 (Int.toNat x1) zz3)) (Prod.fst (Prod.snd (List.getD l3 (Int.toNat x1) zz3))) (Prod.snd (Prod.snd (List.getD l3 (Int.toNat x1) zz3)))))
    (none))
  (some [(.arr true (z11) (.ints .i64 (l12)))]) := by kernel_rfl
theorem l_impl_ProfileOf_8 (k n : Nat) (fu : List (Nat × Nat)) (x0 : Int) (x1 : Int) (x2 : Int) (x3 : Int) (x4 : Int) (z5 : Bool) (l6 : List (Int × Int × Int)) (z7 : Bool) (l8 : List Int) (z9 : Bool) (l10 : List Int) (z11 : Bool) (l12 : List Int) (x13 : Int) (z14 : Bool) (l15 : List Int) (x16 : Int) (x17 : Int) (x18 : Int) : lp k impl_ProfileOf [] fu 8 (n + 1) (s_impl_ProfileOf_8 x0 x1 x2 x3 x4 z5 l6 z7 l8 z9 l10 z11 l12 x13 z14 l15 x16 x17 x18) =
    cond (decide (x4 < x3))
  (cond (decide ((0 : Int) ≤ x0) && decide (x0 < nI (List.length l8)))
    (cond (decide ((0 : Int) ≤ x17))
      (cond (decide (List.length (l15 ++ [IntKind.wrap .i64 (List.getD l8 (Int.toNat x0) (0 : Int) * (2 : Int) ^ shiftN .i64 x17)]) ≤ bigLen))
        (lp k impl_ProfileOf [] fu 8 n (s_impl_ProfileOf_8 x0 x1 x2 x3 (IntKind.wrap .i64 (x4 + (1 : Int))) z5 l6 z7 l8 z9 l10 z11 l12 x13 (z14 && decide (List.length (l15 ++ [IntKind.wrap .i64 (List.getD l8 (Int.toNat x0) (0 : Int) * (2 : Int) ^ shiftN .i64 x17)]) = 0)) (l15 ++ [IntKind.wrap .i64 (List.getD l8 (Int.toNat x0) (0 : Int) * (2 : Int) ^ shiftN .i64 x17)]) x16 x17 x18))
        (none))
      (none))
    (none))
  (lp k impl_ProfileOf [] fu 5 (fuelOf fu 5) (s_impl_ProfileOf_5 x1 (IntKind.wrap .i64 (x2 + (1 : Int))) z5 l6 z7 l8 z9 l10 z11 l12 x13 z14 l15)) := by kernel_rfl
def s_impl_differences_5 (x0 : Int) (x1 : Int) (z2 : Bool) (l3 : List Int) (z4 : Bool) (l5 : List Int) : St := ⟨fill 48 [(6, (.sl 0 none)), (29, (.sl 1 none)), (30, (.int .i64 (x0))), (31, (.int .i64 (x1)))], [], [(.arr true (z2) (.ints .i64 (l3))), (.arr true (z4) (.ints .i64 (l5)))]⟩
theorem e_impl_differences (k : Nat) (a0 : Int) (a1z : Bool) (a1 : List (Int × Int × Int)) (a2z : Bool) (a2 : List Int) (a3z : Bool) (a3 : List Int) (a4z : Bool) (a4 : List Int) (b0 : Int) (b1z : Bool) (b1 : List (Int × Int × Int)) (b2z : Bool) (b2 : List Int) (b3z : Bool) (b3 : List Int) (b4z : Bool) (b4 : List Int) : go (k + 1) impl_differences [(.agg [(.int .i64 (a0)), (.arr false (a1z) (.r3 (a1))), (.arr false (a2z) (.ints .i64 (a2))), (.arr false (a3z) (.ints .i64 (a3))), (.arr false (a4z) (.ints .i64 (a4)))]), (.agg [(.int .i64 (b0)), (.arr false (b1z) (.r3 (b1))), (.arr false (b2z) (.ints .i64 (b2))), (.arr false (b3z) (.ints .i64 (b3))), (.arr false (b4z) (.ints .i64 (b4)))])] =
    (go k impl_StateOk [(.agg [(.int .i64 (a0)), (.arr false (a1z) (.r3 (a1))), (.arr false (a2z) (.ints .i64 (a2))), (.arr false (a3z) (.ints .i64 (a3))), (.arr false (a4z) (.ints .i64 (a4)))])]).bind fun r0 =>
  cond (!bit (nth r0 0))
  (some [(.arr true (true) (.ints .i64 ([]))), (.bool (false))])
  ((go k impl_StateOk [(.agg [(.int .i64 (b0)), (.arr false (b1z) (.r3 (b1))), (.arr false (b2z) (.ints .i64 (b2))), (.arr false (b3z) (.ints .i64 (b3))), (.arr false (b4z) (.ints .i64 (b4)))])]).bind fun r1 =>
    cond (!bit (nth r1 0))
    (some [(.arr true (true) (.ints .i64 ([]))), (.bool (false))])
    (cond (!decide (a0 = b0))
      (some [(.arr true (true) (.ints .i64 ([]))), (.bool (false))])
      ((go k impl_ProfileOf [(.agg [(.int .i64 (a0)), (.arr false (a1z) (.r3 (a1))), (.arr false (a2z) (.ints .i64 (a2))), (.arr false (a3z) (.ints .i64 (a3))), (.arr false (a4z) (.ints .i64 (a4)))])]).bind fun r2 =>
        (go k impl_ProfileOf [(.agg [(.int .i64 (b0)), (.arr false (b1z) (.r3 (b1))), (.arr false (b2z) (.ints .i64 (b2))), (.arr false (b3z) (.ints .i64 (b3))), (.arr false (b4z) (.ints .i64 (b4)))])]).bind fun r3 =>
        lp k impl_differences [] [] 5 k (s_impl_differences_5 (nI (List.length (D.ints (nth r3 0)))) ((0 : Int)) (D.nil (nth r2 0)) (D.ints (nth r2 0)) (D.nil (nth r3 0)) (D.ints (nth r3 0)))))) := by kernel_rfl
theorem l_impl_differences_5 (k n : Nat) (fu : List (Nat × Nat)) (x0 : Int) (x1 : Int) (z2 : Bool) (l3 : List Int) (z4 : Bool) (l5 : List Int) : lp k impl_differences [] fu 5 (n + 1) (s_impl_differences_5 x0 x1 z2 l3 z4 l5) =
    cond (decide (x1 < x0))
  (cond (decide ((0 : Int) ≤ x1) && decide (x1 < nI (List.length l5)))
    (cond (decide ((0 : Int) ≤ x1) && decide (x1 < nI (List.length l3)))
      ((go k impl_absolute [(.int .i64 (IntKind.wrap .i64 (List.getD l3 (Int.toNat x1) (0 : Int) - List.getD l5 (Int.toNat x1) (0 : Int))))]).bind fun r0 =>
        cond (decide ((0 : Int) ≤ x1) && decide (x1 < nI (List.length l3)))
        (lp k impl_differences [] fu 5 n (s_impl_differences_5 x0 (IntKind.wrap .i64 (x1 + (1 : Int))) z2 (List.set l3 (Int.toNat x1) (D.toInt (nth r0 0))) z4 l5))
        (none))
      (none))
    (none))
  (some [(.arr true (z2) (.ints .i64 (l3))), (.bool (true))]) := by kernel_rfl
theorem e_impl_DistanceOf (k : Nat) (a0 : Int) (a1z : Bool) (a1 : List (Int × Int × Int)) (a2z : Bool) (a2 : List Int) (a3z : Bool) (a3 : List Int) (a4z : Bool) (a4 : List Int) (b0 : Int) (b1z : Bool) (b1 : List (Int × Int × Int)) (b2z : Bool) (b2 : List Int) (b3z : Bool) (b3 : List Int) (b4z : Bool) (b4 : List Int) : go (k + 1) impl_DistanceOf [(.agg [(.int .i64 (a0)), (.arr false (a1z) (.r3 (a1))), (.arr false (a2z) (.ints .i64 (a2))), (.arr false (a3z) (.ints .i64 (a3))), (.arr false (a4z) (.ints .i64 (a4)))]), (.agg [(.int .i64 (b0)), (.arr false (b1z) (.r3 (b1))), (.arr false (b2z) (.ints .i64 (b2))), (.arr false (b3z) (.ints .i64 (b3))), (.arr false (b4z) (.ints .i64 (b4)))])] =
    (go k impl_differences [(.agg [(.int .i64 (a0)), (.arr false (a1z) (.r3 (a1))), (.arr false (a2z) (.ints .i64 (a2))), (.arr false (a3z) (.ints .i64 (a3))), (.arr false (a4z) (.ints .i64 (a4)))]), (.agg [(.int .i64 (b0)), (.arr false (b1z) (.r3 (b1))), (.arr false (b2z) (.ints .i64 (b2))), (.arr false (b3z) (.ints .i64 (b3))), (.arr false (b4z) (.ints .i64 (b4)))])]).bind fun r0 =>
  cond (!bit (nth r0 1))
  (some [(.int .i64 ((-1 : Int)))])
  ((go k impl_sum [(.arr false (D.nil (nth r0 0)) (.ints .i64 (D.ints (nth r0 0))))]).bind fun r1 =>
    some [(.int .i64 (D.toInt (nth r1 0)))]) := by kernel_rfl
theorem e_impl_WorstPosition (k : Nat) (a0 : Int) (a1z : Bool) (a1 : List (Int × Int × Int)) (a2z : Bool) (a2 : List Int) (a3z : Bool) (a3 : List Int) (a4z : Bool) (a4 : List Int) (b0 : Int) (b1z : Bool) (b1 : List (Int × Int × Int)) (b2z : Bool) (b2 : List Int) (b3z : Bool) (b3 : List Int) (b4z : Bool) (b4 : List Int) : go (k + 1) impl_WorstPosition [(.agg [(.int .i64 (a0)), (.arr false (a1z) (.r3 (a1))), (.arr false (a2z) (.ints .i64 (a2))), (.arr false (a3z) (.ints .i64 (a3))), (.arr false (a4z) (.ints .i64 (a4)))]), (.agg [(.int .i64 (b0)), (.arr false (b1z) (.r3 (b1))), (.arr false (b2z) (.ints .i64 (b2))), (.arr false (b3z) (.ints .i64 (b3))), (.arr false (b4z) (.ints .i64 (b4)))])] =
    (go k impl_differences [(.agg [(.int .i64 (a0)), (.arr false (a1z) (.r3 (a1))), (.arr false (a2z) (.ints .i64 (a2))), (.arr false (a3z) (.ints .i64 (a3))), (.arr false (a4z) (.ints .i64 (a4)))]), (.agg [(.int .i64 (b0)), (.arr false (b1z) (.r3 (b1))), (.arr false (b2z) (.ints .i64 (b2))), (.arr false (b3z) (.ints .i64 (b3))), (.arr false (b4z) (.ints .i64 (b4)))])]).bind fun r0 =>
  (go k impl_PeakOf [(.arr false (D.nil (nth r0 0)) (.ints .i64 (D.ints (nth r0 0))))]).bind fun r1 =>
  some [(.int .i64 (D.toInt (nth r1 1)))] := by kernel_rfl
def s_impl_PeakOf_3 (x0 : Int) (x1 : Int) (x2 : Int) (z3 : Bool) (l4 : List Int) : St := ⟨fill 33 [(0, (.sl 0 none)), (4, (.int .i64 (x0))), (7, (.sl 0 none)), (8, (.int .i64 (x1))), (9, (.int .i64 (x2)))], [], [(.arr false (z3) (.ints .i64 (l4)))]⟩
theorem e_impl_PeakOf (k : Nat) (az : Bool) (a : List Int) : go (k + 1) impl_PeakOf [(.arr false (az) (.ints .i64 (a)))] =
    lp k impl_PeakOf [] [] 3 k (s_impl_PeakOf_3 ((-1 : Int)) (nI (List.length a)) ((0 : Int)) az a) := by kernel_rfl
theorem l_impl_PeakOf_3 (k n : Nat) (fu : List (Nat × Nat)) (x0 : Int) (x1 : Int) (x2 : Int) (z3 : Bool) (l4 : List Int) : lp k impl_PeakOf [] fu 3 (n + 1) (s_impl_PeakOf_3 x0 x1 x2 z3 l4) =
    cond (decide (x2 < x1))
  (cond (decide ((0 : Int) ≤ x2) && decide (x2 < nI (List.length l4)))
    (cond (decide (x0 < (0 : Int)))
      (lp k impl_PeakOf [] fu 3 n (s_impl_PeakOf_3 x2 x1 (IntKind.wrap .i64 (x2 + (1 : Int))) z3 l4))
      (cond (decide ((0 : Int) ≤ x0) && decide (x0 < nI (List.length l4)))
        (cond (decide (List.getD l4 (Int.toNat x0) (0 : Int) < List.getD l4 (Int.toNat x2) (0 : Int)))
          (lp k impl_PeakOf [] fu 3 n (s_impl_PeakOf_3 x2 x1 (IntKind.wrap .i64 (x2 + (1 : Int))) z3 l4))
          (lp k impl_PeakOf [] fu 3 n (s_impl_PeakOf_3 x0 x1 (IntKind.wrap .i64 (x2 + (1 : Int))) z3 l4)))
        (none)))
    (none))
  (cond (decide (x0 < (0 : Int)))
    (some [(.int .i64 ((0 : Int))), (.int .i64 ((-1 : Int)))])
    (cond (decide ((0 : Int) ≤ x0) && decide (x0 < nI (List.length l4)))
      (some [(.int .i64 (List.getD l4 (Int.toNat x0) (0 : Int))), (.int .i64 (x0))])
      (none))) := by kernel_rfl
theorem e_impl_CanJoin (k : Nat) (a0 : Int) (a1z : Bool) (a1 : List (Int × Int × Int)) (a2z : Bool) (a2 : List Int) (a3z : Bool) (a3 : List Int) (a4z : Bool) (a4 : List Int) (b0 : Int) (b1z : Bool) (b1 : List (Int × Int × Int)) (b2z : Bool) (b2 : List Int) (b3z : Bool) (b3 : List Int) (b4z : Bool) (b4 : List Int) : go (k + 1) impl_CanJoin [(.agg [(.int .i64 (a0)), (.arr false (a1z) (.r3 (a1))), (.arr false (a2z) (.ints .i64 (a2))), (.arr false (a3z) (.ints .i64 (a3))), (.arr false (a4z) (.ints .i64 (a4)))]), (.agg [(.int .i64 (b0)), (.arr false (b1z) (.r3 (b1))), (.arr false (b2z) (.ints .i64 (b2))), (.arr false (b3z) (.ints .i64 (b3))), (.arr false (b4z) (.ints .i64 (b4)))])] =
    (go k impl_StateOk [(.agg [(.int .i64 (a0)), (.arr false (a1z) (.r3 (a1))), (.arr false (a2z) (.ints .i64 (a2))), (.arr false (a3z) (.ints .i64 (a3))), (.arr false (a4z) (.ints .i64 (a4)))])]).bind fun r0 =>
  cond (!bit (nth r0 0))
  (some [(.bool (false))])
  ((go k impl_StateOk [(.agg [(.int .i64 (b0)), (.arr false (b1z) (.r3 (b1))), (.arr false (b2z) (.ints .i64 (b2))), (.arr false (b3z) (.ints .i64 (b3))), (.arr false (b4z) (.ints .i64 (b4)))])]).bind fun r1 =>
    cond (!bit (nth r1 0))
    (some [(.bool (false))])
    (cond (decide ((8 : Int) < IntKind.wrap .i64 (a0 + b0)))
      (some [(.bool (false))])
      ((go k impl_sum [(.arr false (a2z) (.ints .i64 (a2)))]).bind fun r2 =>
        (go k impl_sum [(.arr false (b2z) (.ints .i64 (b2)))]).bind fun r3 =>
        cond (decide ((10000000 : Int) < IntKind.wrap .i64 (D.toInt (nth r2 0) + D.toInt (nth r3 0))))
        (some [(.bool (false))])
        (cond (decide ((0 : Int) ≤ IntKind.wrap .i64 (nI (List.length a1) - (1 : Int))) && decide (IntKind.wrap .i64 (nI (List.length a1) - (1 : Int)) < nI (List.length a1)))
          (cond (decide ((0 : Int) ≤ (0 : Int)) && decide ((0 : Int) < nI (List.length b1)))
            ((go k impl_absolute [(.int .i64 (IntKind.wrap .i64 (Prod.fst (Prod.snd (List.getD a1 (Int.toNat (IntKind.wrap .i64 (nI (List.length a1) - (1 : Int)))) zz3)) - Prod.fst (Prod.snd (List.getD b1 (Int.toNat (0 : Int)) zz3)))))]).bind fun r4 =>
              some [(.bool (decide (D.toInt (nth r4 0) ≤ (1 : Int))))])
            (none))
          (none))))) := by kernel_rfl
theorem e_spec_CanJoin (k : Nat) (a0 : Int) (a1z : Bool) (a1 : List (Int × Int × Int)) (a2z : Bool) (a2 : List Int) (a3z : Bool) (a3 : List Int) (a4z : Bool) (a4 : List Int) (b0 : Int) (b1z : Bool) (b1 : List (Int × Int × Int)) (b2z : Bool) (b2 : List Int) (b3z : Bool) (b3 : List Int) (b4z : Bool) (b4 : List Int) : go (k + 1) spec_CanJoin [(.agg [(.int .i64 (a0)), (.arr false (a1z) (.r3 (a1))), (.arr false (a2z) (.ints .i64 (a2))), (.arr false (a3z) (.ints .i64 (a3))), (.arr false (a4z) (.ints .i64 (a4)))]), (.agg [(.int .i64 (b0)), (.arr false (b1z) (.r3 (b1))), (.arr false (b2z) (.ints .i64 (b2))), (.arr false (b3z) (.ints .i64 (b3))), (.arr false (b4z) (.ints .i64 (b4)))])] =
    (go k spec_StateOk [(.agg [(.int .i64 (a0)), (.arr false (a1z) (.r3 (a1))), (.arr false (a2z) (.ints .i64 (a2))), (.arr false (a3z) (.ints .i64 (a3))), (.arr false (a4z) (.ints .i64 (a4)))])]).bind fun r0 =>
  cond (!bit (nth r0 0))
  (some [(.bool (false))])
  ((go k spec_StateOk [(.agg [(.int .i64 (b0)), (.arr false (b1z) (.r3 (b1))), (.arr false (b2z) (.ints .i64 (b2))), (.arr false (b3z) (.ints .i64 (b3))), (.arr false (b4z) (.ints .i64 (b4)))])]).bind fun r1 =>
    cond (!bit (nth r1 0))
    (some [(.bool (false))])
    (cond (decide ((8 : Int) < IntKind.wrap .i64 (a0 + b0)))
      (some [(.bool (false))])
      ((go k spec_l07Sum [(.arr false (a2z) (.ints .i64 (a2)))]).bind fun r2 =>
        (go k spec_l07Sum [(.arr false (b2z) (.ints .i64 (b2)))]).bind fun r3 =>
        cond (decide ((10000000 : Int) < IntKind.wrap .i64 (D.toInt (nth r2 0) + D.toInt (nth r3 0))))
        (some [(.bool (false))])
        (cond (decide ((0 : Int) ≤ IntKind.wrap .i64 (nI (List.length a2) - (1 : Int))) && decide (IntKind.wrap .i64 (nI (List.length a2) - (1 : Int)) < nI (List.length a1)))
          (cond (decide ((0 : Int) ≤ (0 : Int)) && decide ((0 : Int) < nI (List.length b1)))
            ((go k spec_l09Gap [(.int .i64 (Prod.fst (Prod.snd (List.getD a1 (Int.toNat (IntKind.wrap .i64 (nI (List.length a2) - (1 : Int)))) zz3)))), (.int .i64 (Prod.fst (Prod.snd (List.getD b1 (Int.toNat (0 : Int)) zz3))))]).bind fun r4 =>
              some [(.bool (decide (D.toInt (nth r4 0) ≤ (1 : Int))))])
            (none))
          (none))))) := by kernel_rfl
theorem e_impl_LeafAt (k : Nat) (a0 : Int) (a1z : Bool) (a1 : List (Int × Int × Int)) (b : Int) : go (k + 1) impl_LeafAt [(.agg [(.int .i64 (a0)), (.arr false (a1z) (.r3 (a1)))]), (.int .i64 (b))] =
    (go k impl_MeshOk [(.agg [(.int .i64 (a0)), (.arr false (a1z) (.r3 (a1)))])]).bind fun r0 =>
  cond (!bit (nth r0 0))
  (some [(.int .i64 ((-1 : Int)))])
  ((go k slices_IndexFunc_impl_Id_impl_Id [(.arr false (a1z) (.r3 (a1))), (.fn impl_LeafAt_1 [(.ptr false [(.int .i64 (b))])])]).bind fun r1 =>
    some [(.int .i64 (D.toInt (nth r1 0)))]) := by kernel_rfl
theorem e_impl_LeafAt_1 (k : Nat) (a0 : Int) (a1 : Int) (a2 : Int) : go (k + 1) impl_LeafAt_1 [(.agg [(.int .i64 (a0)), (.int .i64 (a1)), (.int .i64 (a2))])] =
    (go k impl_StartOf [(.agg [(.int .i64 (a0)), (.int .i64 (a1)), (.int .i64 (a2))])]).bind fun r0 =>
  none := by kernel_rfl
theorem e_impl_LeafAt_1_v1 (k : Nat) (v0 : Int) (v1 : Int) (v2 : Int) (v3 : Int) : go (k + 1) impl_LeafAt_1 [(.agg [(.int .i64 (v0)), (.int .i64 (v1)), (.int .i64 (v2))]), (.ptr false [(.int .i64 (v3))])] =
    (go k impl_StartOf [(.agg [(.int .i64 (v0)), (.int .i64 (v1)), (.int .i64 (v2))])]).bind fun r0 =>
  cond (decide (D.toInt (nth r0 0) ≤ v3))
  ((go k impl_endOf [(.agg [(.int .i64 (v0)), (.int .i64 (v1)), (.int .i64 (v2))])]).bind fun r1 =>
    some [(.bool (decide (v3 < D.toInt (nth r1 0))))])
  (some [(.bool (false))]) := by kernel_rfl
def s_slices_IndexFunc_impl_Id_impl_Id_at_impl_LeafAt_1_2 (x0 : Int) (x1 : Int) (z2 : Bool) (l3 : List (Int × Int × Int)) (x4 : Int) : St := ⟨fill 19 [(0, (.sl 0 none)), (1, (.fn impl_LeafAt_1 [(.ptr 1 (0) (0))])), (7, (.int .i64 (x0))), (8, (.int .i64 (x1)))], [], [(.arr false (z2) (.r3 (l3))), (.box false [(.int .i64 (x4))])]⟩
def s_slices_IndexFunc_impl_Id_impl_Id_at_impl_RemapState_1_2 (x0 : Int) (x1 : Int) (z2 : Bool) (l3 : List (Int × Int × Int)) (z4 : Bool) (l5 : List (Int × Int × Int)) (x6 : Int) : St := ⟨fill 19 [(0, (.sl 0 none)), (1, (.fn impl_RemapState_1 [(.ptr 2 (0) (0))])), (7, (.int .i64 (x0))), (8, (.int .i64 (x1)))], [], [(.arr false (z2) (.r3 (l3))), (.arr false (z4) (.r3 (l5))), (.box false [(.int .i64 (x6)), (.sl 1 none)])]⟩
def s_slices_IndexFunc_impl_Id_impl_Id_at_impl_State_remap_1_2 (x0 : Int) (x1 : Int) (z2 : Bool) (l3 : List (Int × Int × Int)) (x4 : Int) (x5 : Int) (x6 : Int) : St := ⟨fill 19 [(0, (.sl 0 none)), (1, (.fn impl_State_remap_1 [(.ptr 1 (0) (0))])), (7, (.int .i64 (x0))), (8, (.int .i64 (x1)))], [], [(.arr false (z2) (.r3 (l3))), (.box false [(.int .i64 (x4)), (.int .i64 (x5)), (.int .i64 (x6))])]⟩
theorem e_slices_IndexFunc_impl_Id_impl_Id_at_impl_LeafAt_1 (k : Nat) (v0 : Bool) (v1 : List (Int × Int × Int)) (v2 : Int) : go (k + 1) slices_IndexFunc_impl_Id_impl_Id [(.arr false (v0) (.r3 (v1))), (.fn impl_LeafAt_1 [(.ptr false [(.int .i64 (v2))])])] =
    lp k slices_IndexFunc_impl_Id_impl_Id [] [] 2 k (s_slices_IndexFunc_impl_Id_impl_Id_at_impl_LeafAt_1_2 (nI (List.length v1)) ((0 : Int)) v0 v1 v2) := by kernel_rfl
theorem e_slices_IndexFunc_impl_Id_impl_Id_at_impl_RemapState_1 (k : Nat) (v0 : Bool) (v1 : List (Int × Int × Int)) (v2 : Int) (v3 : Bool) (v4 : List (Int × Int × Int)) : go (k + 1) slices_IndexFunc_impl_Id_impl_Id [(.arr false (v0) (.r3 (v1))), (.fn impl_RemapState_1 [(.ptr false [(.int .i64 (v2)), (.arr false (v3) (.r3 (v4)))])])] =
    lp k slices_IndexFunc_impl_Id_impl_Id [] [] 2 k (s_slices_IndexFunc_impl_Id_impl_Id_at_impl_RemapState_1_2 (nI (List.length v1)) ((0 : Int)) v0 v1 v3 v4 v2) := by kernel_rfl
theorem e_slices_IndexFunc_impl_Id_impl_Id_at_impl_State_remap_1 (k : Nat) (v0 : Bool) (v1 : List (Int × Int × Int)) (v2 : Int) (v3 : Int) (v4 : Int) : go (k + 1) slices_IndexFunc_impl_Id_impl_Id [(.arr false (v0) (.r3 (v1))), (.fn impl_State_remap_1 [(.ptr false [(.int .i64 (v2)), (.int .i64 (v3)), (.int .i64 (v4))])])] =
    lp k slices_IndexFunc_impl_Id_impl_Id [] [] 2 k (s_slices_IndexFunc_impl_Id_impl_Id_at_impl_State_remap_1_2 (nI (List.length v1)) ((0 : Int)) v0 v1 v2 v3 v4) := by kernel_rfl
theorem l_slices_IndexFunc_impl_Id_impl_Id_at_impl_LeafAt_1_2 (k n : Nat) (fu : List (Nat × Nat)) (x0 : Int) (x1 : Int) (z2 : Bool) (l3 : List (Int × Int × Int)) (x4 : Int) : lp k slices_IndexFunc_impl_Id_impl_Id [] fu 2 (n + 1) (s_slices_IndexFunc_impl_Id_impl_Id_at_impl_LeafAt_1_2 x0 x1 z2 l3 x4) =
    cond (decide (x1 < x0))
  (cond (decide ((0 : Int) ≤ x1) && decide (x1 < nI (List.length l3)))
    ((go k impl_LeafAt_1 [(.agg [(.int .i64 (Prod.fst (List.getD l3 (Int.toNat x1) zz3))), (.int .i64 (Prod.fst (Prod.snd (List.getD l3 (Int.toNat x1) zz3)))), (.int .i64 (Prod.snd (Prod.snd (List.getD l3 (Int.toNat x1) zz3))))]), (.ptr false [(.int .i64 (x4))])]).bind fun r0 =>
      cond (bit (nth r0 0))
      (some [(.int .i64 (x1))])
      (lp k slices_IndexFunc_impl_Id_impl_Id [] fu 2 n (s_slices_IndexFunc_impl_Id_impl_Id_at_impl_LeafAt_1_2 x0 (IntKind.wrap .i64 (x1 + (1 : Int))) z2 l3 x4)))
    (none))
  (some [(.int .i64 ((-1 : Int)))]) := by kernel_rfl
theorem l_slices_IndexFunc_impl_Id_impl_Id_at_impl_RemapState_1_2 (k n : Nat) (fu : List (Nat × Nat)) (x0 : Int) (x1 : Int) (z2 : Bool) (l3 : List (Int × Int × Int)) (z4 : Bool) (l5 : List (Int × Int × Int)) (x6 : Int) : lp k slices_IndexFunc_impl_Id_impl_Id [] fu 2 (n + 1) (s_slices_IndexFunc_impl_Id_impl_Id_at_impl_RemapState_1_2 x0 x1 z2 l3 z4 l5 x6) =
    cond (decide (x1 < x0))
  (cond (decide ((0 : Int) ≤ x1) && decide (x1 < nI (List.length l3)))
    ((go k impl_RemapState_1 [(.agg [(.int .i64 (Prod.fst (List.getD l3 (Int.toNat x1) zz3))), (.int .i64 (Prod.fst (Prod.snd (List.getD l3 (Int.toNat x1) zz3)))), (.int .i64 (Prod.snd (Prod.snd (List.getD l3 (Int.toNat x1) zz3))))]), (.ptr false [(.int .i64 (x6)), (.arr false (z4) (.r3 (l5)))])]).bind fun r0 =>
      cond (bit (nth r0 0))
      (some [(.int .i64 (x1))])
      (lp k slices_IndexFunc_impl_Id_impl_Id [] fu 2 n (s_slices_IndexFunc_impl_Id_impl_Id_at_impl_RemapState_1_2 x0 (IntKind.wrap .i64 (x1 + (1 : Int))) z2 l3 z4 l5 x6)))
    (none))
  (some [(.int .i64 ((-1 : Int)))]) := by kernel_rfl
theorem l_slices_IndexFunc_impl_Id_impl_Id_at_impl_State_remap_1_2 (k n : Nat) (fu : List (Nat × Nat)) (x0 : Int) (x1 : Int) (z2 : Bool) (l3 : List (Int × Int × Int)) (x4 : Int) (x5 : Int) (x6 : Int) : lp k slices_IndexFunc_impl_Id_impl_Id [] fu 2 (n + 1) (s_slices_IndexFunc_impl_Id_impl_Id_at_impl_State_remap_1_2 x0 x1 z2 l3 x4 x5 x6) =
    cond (decide (x1 < x0))
  (cond (decide ((0 : Int) ≤ x1) && decide (x1 < nI (List.length l3)))
    ((go k impl_State_remap_1 [(.agg [(.int .i64 (Prod.fst (List.getD l3 (Int.toNat x1) zz3))), (.int .i64 (Prod.fst (Prod.snd (List.getD l3 (Int.toNat x1) zz3)))), (.int .i64 (Prod.snd (Prod.snd (List.getD l3 (Int.toNat x1) zz3))))]), (.ptr false [(.int .i64 (x4)), (.int .i64 (x5)), (.int .i64 (x6))])]).bind fun r0 =>
      cond (bit (nth r0 0))
      (some [(.int .i64 (x1))])
      (lp k slices_IndexFunc_impl_Id_impl_Id [] fu 2 n (s_slices_IndexFunc_impl_Id_impl_Id_at_impl_State_remap_1_2 x0 (IntKind.wrap .i64 (x1 + (1 : Int))) z2 l3 x4 x5 x6)))
    (none))
  (some [(.int .i64 ((-1 : Int)))]) := by kernel_rfl
def s_spec_LeafAt_2 (x0 : Int) (x1 : Int) (z2 : Bool) (l3 : List (Int × Int × Int)) (x4 : Int) : St := ⟨fill 36 [(1, (.int .i64 (x0))), (2, (.ptr 1 (0) (0))), (5, (.int .i64 (x1)))], [], [(.arr false (z2) (.r3 (l3))), (.box true [(.int .i64 (x4)), (.sl 0 none)])]⟩
theorem e_spec_LeafAt (k : Nat) (a0 : Int) (a1z : Bool) (a1 : List (Int × Int × Int)) (b : Int) : go (k + 1) spec_LeafAt [(.agg [(.int .i64 (a0)), (.arr false (a1z) (.r3 (a1)))]), (.int .i64 (b))] =
    lp k spec_LeafAt [] [] 2 k (s_spec_LeafAt_2 b ((0 : Int)) a1z a1 a0) := by kernel_rfl
theorem l_spec_LeafAt_2 (k n : Nat) (fu : List (Nat × Nat)) (x0 : Int) (x1 : Int) (z2 : Bool) (l3 : List (Int × Int × Int)) (x4 : Int) : lp k spec_LeafAt [] fu 2 (n + 1) (s_spec_LeafAt_2 x0 x1 z2 l3 x4) =
    cond (decide (x1 < nI (List.length l3)))
  ((go k spec_MeshOk [(.agg [(.int .i64 (x4)), (.arr false (z2) (.r3 (l3)))])]).bind fun r0 =>
    cond (bit (nth r0 0))
    (cond (decide ((0 : Int) ≤ x1) && decide (x1 < nI (List.length l3)))
      ((go k spec_StartOf [(.agg [(.int .i64 (Prod.fst (List.getD l3 (Int.toNat x1) zz3))), (.int .i64 (Prod.fst (Prod.snd (List.getD l3 (Int.toNat x1) zz3)))), (.int .i64 (Prod.snd (Prod.snd (List.getD l3 (Int.toNat x1) zz3))))])]).bind fun r1 =>
        cond (decide (D.toInt (nth r1 0) ≤ x0))
        (cond (decide ((0 : Int) ≤ x1) && decide (x1 < nI (List.length l3)))
          ((go k spec_l04End [(.agg [(.int .i64 (Prod.fst (List.getD l3 (Int.toNat x1) zz3))), (.int .i64 (Prod.fst (Prod.snd (List.getD l3 (Int.toNat x1) zz3)))), (.int .i64 (Prod.snd (Prod.snd (List.getD l3 (Int.toNat x1) zz3))))])]).bind fun r2 =>
            cond (decide (x0 < D.toInt (nth r2 0)))
            (some [(.int .i64 (x1))])
            (lp k spec_LeafAt [] fu 2 n (s_spec_LeafAt_2 x0 (IntKind.wrap .i64 (x1 + (1 : Int))) z2 l3 x4)))
          (none))
        (lp k spec_LeafAt [] fu 2 n (s_spec_LeafAt_2 x0 (IntKind.wrap .i64 (x1 + (1 : Int))) z2 l3 x4)))
      (none))
    (some [(.int .i64 ((-1 : Int)))]))
  (some [(.int .i64 ((-1 : Int)))]) := by kernel_rfl

end Go.Proofs.Ytfgccfajhedgdaa
