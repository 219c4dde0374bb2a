/- Drops, frames, one step each. -/
import Derived.Test.YtfgccfajhedgdaaXA
namespace Go.Proofs.Ytfgccfajhedgdaa
open Go.Ev
set_option linter.unusedVariables false
theorem e_spec_l36Copy (k : Nat) (a0 : Int) (a1z : Bool) (a1 : List (Int × Int × Int)) (a2z : Bool) (a2 : List Int) (a3z : Bool) (a3 : List Int) (a4z : Bool) (a4 : List Int) (a5 : Int) (a6 : Int) (a7 : Int) (a8 : Int) (a9 : Int) (a10 : Int) (a11 : Int) (a12 : Int) (a13 : Int) (a14 : Int) (a15 : Int) (a16 : Int) (a17 : Int) (a18 : Int) (a19 : Int) (a20 : Int) : go (k + 1) spec_l36Copy [(.agg [(.int .i64 (a0)), (.arr false (a1z) (.r3 (a1))), (.arr false (a2z) (.ints .i64 (a2))), (.arr false (a3z) (.ints .i64 (a3))), (.arr false (a4z) (.ints .i64 (a4))), (.int .i64 (a5)), (.int .i64 (a6)), (.int .i64 (a7)), (.int .i64 (a8)), (.int .i64 (a9)), (.int .i64 (a10)), (.int .i64 (a11)), (.int .i64 (a12)), (.int .i64 (a13)), (.int .i64 (a14)), (.int .i64 (a15)), (.int .i64 (a16)), (.int .i64 (a17)), (.int .i64 (a18)), (.int .i64 (a19)), (.int .i64 (a20))])] =
    (go k spec_l07Copy [(.agg [(.int .i64 (a0)), (.arr false (a1z) (.r3 (a1))), (.arr false (a2z) (.ints .i64 (a2))), (.arr false (a3z) (.ints .i64 (a3))), (.arr false (a4z) (.ints .i64 (a4)))])]).bind fun r0 =>
  some [(.agg [(.int .i64 (D.toInt (D.cell 0 (nth r0 0)))), (.arr true (D.nil (D.cell 1 (nth r0 0))) (.r3 (D.r3 (D.cell 1 (nth r0 0))))), (.arr true (D.nil (D.cell 2 (nth r0 0))) (.ints .i64 (D.ints (D.cell 2 (nth r0 0))))), (.arr true (D.nil (D.cell 3 (nth r0 0))) (.ints .i64 (D.ints (D.cell 3 (nth r0 0))))), (.arr true (D.nil (D.cell 4 (nth r0 0))) (.ints .i64 (D.ints (D.cell 4 (nth r0 0))))), (.int .i64 (a5)), (.int .i64 (a6)), (.int .i64 (a7)), (.int .i64 (a8)), (.int .i64 (a9)), (.int .i64 (a10)), (.int .i64 (a11)), (.int .i64 (a12)), (.int .i64 (a13)), (.int .i64 (a14)), (.int .i64 (a15)), (.int .i64 (a16)), (.int .i64 (a17)), (.int .i64 (a18)), (.int .i64 (a19)), (.int .i64 (a20))])] := by kernel_rfl
theorem e_impl_copyWorld (k : Nat) (a0 : Int) (a1z : Bool) (a1 : List (Int × Int × Int)) (a2z : Bool) (a2 : List Int) (a3z : Bool) (a3 : List Int) (a4z : Bool) (a4 : List Int) (a5 : Int) (a6 : Int) (a7 : Int) (a8 : Int) (a9 : Int) (a10 : Int) (a11 : Int) (a12 : Int) (a13 : Int) (a14 : Int) (a15 : Int) (a16 : Int) (a17 : Int) (a18 : Int) (a19 : Int) (a20 : Int) : go (k + 1) impl_copyWorld [(.agg [(.int .i64 (a0)), (.arr false (a1z) (.r3 (a1))), (.arr false (a2z) (.ints .i64 (a2))), (.arr false (a3z) (.ints .i64 (a3))), (.arr false (a4z) (.ints .i64 (a4))), (.int .i64 (a5)), (.int .i64 (a6)), (.int .i64 (a7)), (.int .i64 (a8)), (.int .i64 (a9)), (.int .i64 (a10)), (.int .i64 (a11)), (.int .i64 (a12)), (.int .i64 (a13)), (.int .i64 (a14)), (.int .i64 (a15)), (.int .i64 (a16)), (.int .i64 (a17)), (.int .i64 (a18)), (.int .i64 (a19)), (.int .i64 (a20))])] =
    (go k impl_copyState [(.agg [(.int .i64 (a0)), (.arr false (a1z) (.r3 (a1))), (.arr false (a2z) (.ints .i64 (a2))), (.arr false (a3z) (.ints .i64 (a3))), (.arr false (a4z) (.ints .i64 (a4)))])]).bind fun r0 =>
  some [(.agg [(.int .i64 (D.toInt (D.cell 0 (nth r0 0)))), (.arr true (D.nil (D.cell 1 (nth r0 0))) (.r3 (D.r3 (D.cell 1 (nth r0 0))))), (.arr true (D.nil (D.cell 2 (nth r0 0))) (.ints .i64 (D.ints (D.cell 2 (nth r0 0))))), (.arr true (D.nil (D.cell 3 (nth r0 0))) (.ints .i64 (D.ints (D.cell 3 (nth r0 0))))), (.arr true (D.nil (D.cell 4 (nth r0 0))) (.ints .i64 (D.ints (D.cell 4 (nth r0 0))))), (.int .i64 (a5)), (.int .i64 (a6)), (.int .i64 (a7)), (.int .i64 (a8)), (.int .i64 (a9)), (.int .i64 (a10)), (.int .i64 (a11)), (.int .i64 (a12)), (.int .i64 (a13)), (.int .i64 (a14)), (.int .i64 (a15)), (.int .i64 (a16)), (.int .i64 (a17)), (.int .i64 (a18)), (.int .i64 (a19)), (.int .i64 (a20))])] := by kernel_rfl
theorem e_spec_LedgerAdd (k : Nat) (a0 : Int) (a1 : Int) (a2 : Int) (a3 : Int) (b0 : Int) (b1 : Int) (b2 : Int) (b3 : Int) : go (k + 1) spec_LedgerAdd [(.agg [(.int .i64 (a0)), (.int .i64 (a1)), (.int .i64 (a2)), (.int .i64 (a3))]), (.agg [(.int .i64 (b0)), (.int .i64 (b1)), (.int .i64 (b2)), (.int .i64 (b3))])] =
    some [(.agg [(.int .i64 (IntKind.wrap .i64 (a0 + b0))), (.int .i64 (IntKind.wrap .i64 (a1 + b1))), (.int .i64 (IntKind.wrap .i64 (a2 + b2))), (.int .i64 (IntKind.wrap .i64 (a3 + b3)))])] := by kernel_rfl
theorem e_spec_Drop (k : Nat) (a0 : Int) (a1z : Bool) (a1 : List (Int × Int × Int)) (a2z : Bool) (a2 : List Int) (a3z : Bool) (a3 : List Int) (a4z : Bool) (a4 : List Int) (a5 : Int) (a6 : Int) (a7 : Int) (a8 : Int) (a9 : Int) (a10 : Int) (a11 : Int) (a12 : Int) (a13 : Int) (a14 : Int) (a15 : Int) (a16 : Int) (a17 : Int) (a18 : Int) (a19 : Int) (a20 : Int) (b : Int) (c : Int) (d : Int) : go (k + 1) spec_Drop [(.agg [(.int .i64 (a0)), (.arr false (a1z) (.r3 (a1))), (.arr false (a2z) (.ints .i64 (a2))), (.arr false (a3z) (.ints .i64 (a3))), (.arr false (a4z) (.ints .i64 (a4))), (.int .i64 (a5)), (.int .i64 (a6)), (.int .i64 (a7)), (.int .i64 (a8)), (.int .i64 (a9)), (.int .i64 (a10)), (.int .i64 (a11)), (.int .i64 (a12)), (.int .i64 (a13)), (.int .i64 (a14)), (.int .i64 (a15)), (.int .i64 (a16)), (.int .i64 (a17)), (.int .i64 (a18)), (.int .i64 (a19)), (.int .i64 (a20))]), (.int .i64 (b)), (.int .i64 (c)), (.int .i64 (d))] =
    (go k spec_l36Copy [(.agg [(.int .i64 (a0)), (.arr false (a1z) (.r3 (a1))), (.arr false (a2z) (.ints .i64 (a2))), (.arr false (a3z) (.ints .i64 (a3))), (.arr false (a4z) (.ints .i64 (a4))), (.int .i64 (a5)), (.int .i64 (a6)), (.int .i64 (a7)), (.int .i64 (a8)), (.int .i64 (a9)), (.int .i64 (a10)), (.int .i64 (a11)), (.int .i64 (a12)), (.int .i64 (a13)), (.int .i64 (a14)), (.int .i64 (a15)), (.int .i64 (a16)), (.int .i64 (a17)), (.int .i64 (a18)), (.int .i64 (a19)), (.int .i64 (a20))])]).bind fun r0 =>
  (go k spec_WorldOk [(.agg [(.int .i64 (a0)), (.arr false (a1z) (.r3 (a1))), (.arr false (a2z) (.ints .i64 (a2))), (.arr false (a3z) (.ints .i64 (a3))), (.arr false (a4z) (.ints .i64 (a4))), (.int .i64 (a5)), (.int .i64 (a6)), (.int .i64 (a7)), (.int .i64 (a8)), (.int .i64 (a9)), (.int .i64 (a10)), (.int .i64 (a11)), (.int .i64 (a12)), (.int .i64 (a13)), (.int .i64 (a14)), (.int .i64 (a15)), (.int .i64 (a16)), (.int .i64 (a17)), (.int .i64 (a18)), (.int .i64 (a19)), (.int .i64 (a20))])]).bind fun r1 =>
  cond (!bit (nth r1 0))
  (some [(.agg [(.int .i64 (D.toInt (D.cell 0 (nth r0 0)))), (.arr true (D.nil (D.cell 1 (nth r0 0))) (.r3 (D.r3 (D.cell 1 (nth r0 0))))), (.arr true (D.nil (D.cell 2 (nth r0 0))) (.ints .i64 (D.ints (D.cell 2 (nth r0 0))))), (.arr true (D.nil (D.cell 3 (nth r0 0))) (.ints .i64 (D.ints (D.cell 3 (nth r0 0))))), (.arr true (D.nil (D.cell 4 (nth r0 0))) (.ints .i64 (D.ints (D.cell 4 (nth r0 0))))), (.int .i64 (D.toInt (D.cell 5 (nth r0 0)))), (.int .i64 (D.toInt (D.cell 6 (nth r0 0)))), (.int .i64 (D.toInt (D.cell 7 (nth r0 0)))), (.int .i64 (D.toInt (D.cell 8 (nth r0 0)))), (.int .i64 (D.toInt (D.cell 9 (nth r0 0)))), (.int .i64 (D.toInt (D.cell 10 (nth r0 0)))), (.int .i64 (D.toInt (D.cell 11 (nth r0 0)))), (.int .i64 (D.toInt (D.cell (12 : Nat) (nth r0 0)))), (.int .i64 (D.toInt (D.cell (13 : Nat) (nth r0 0)))), (.int .i64 (D.toInt (D.cell (14 : Nat) (nth r0 0)))), (.int .i64 (D.toInt (D.cell (15 : Nat) (nth r0 0)))), (.int .i64 (D.toInt (D.cell (16 : Nat) (nth r0 0)))), (.int .i64 (D.toInt (D.cell (17 : Nat) (nth r0 0)))), (.int .i64 (D.toInt (D.cell (18 : Nat) (nth r0 0)))), (.int .i64 (D.toInt (D.cell (19 : Nat) (nth r0 0)))), (.int .i64 (D.toInt (D.cell (20 : Nat) (nth r0 0))))]), (.bool (false))])
  ((go k spec_l01In [(.int .i64 (c)), (.int .i64 ((1 : Int))), (.int .i64 ((10000 : Int)))]).bind fun r2 =>
    cond (!bit (nth r2 0))
    (some [(.agg [(.int .i64 (D.toInt (D.cell 0 (nth r0 0)))), (.arr true (D.nil (D.cell 1 (nth r0 0))) (.r3 (D.r3 (D.cell 1 (nth r0 0))))), (.arr true (D.nil (D.cell 2 (nth r0 0))) (.ints .i64 (D.ints (D.cell 2 (nth r0 0))))), (.arr true (D.nil (D.cell 3 (nth r0 0))) (.ints .i64 (D.ints (D.cell 3 (nth r0 0))))), (.arr true (D.nil (D.cell 4 (nth r0 0))) (.ints .i64 (D.ints (D.cell 4 (nth r0 0))))), (.int .i64 (D.toInt (D.cell 5 (nth r0 0)))), (.int .i64 (D.toInt (D.cell 6 (nth r0 0)))), (.int .i64 (D.toInt (D.cell 7 (nth r0 0)))), (.int .i64 (D.toInt (D.cell 8 (nth r0 0)))), (.int .i64 (D.toInt (D.cell 9 (nth r0 0)))), (.int .i64 (D.toInt (D.cell 10 (nth r0 0)))), (.int .i64 (D.toInt (D.cell 11 (nth r0 0)))), (.int .i64 (D.toInt (D.cell (12 : Nat) (nth r0 0)))), (.int .i64 (D.toInt (D.cell (13 : Nat) (nth r0 0)))), (.int .i64 (D.toInt (D.cell (14 : Nat) (nth r0 0)))), (.int .i64 (D.toInt (D.cell (15 : Nat) (nth r0 0)))), (.int .i64 (D.toInt (D.cell (16 : Nat) (nth r0 0)))), (.int .i64 (D.toInt (D.cell (17 : Nat) (nth r0 0)))), (.int .i64 (D.toInt (D.cell (18 : Nat) (nth r0 0)))), (.int .i64 (D.toInt (D.cell (19 : Nat) (nth r0 0)))), (.int .i64 (D.toInt (D.cell (20 : Nat) (nth r0 0))))]), (.bool (false))])
    ((go k spec_l01In [(.int .i64 (d)), (.int .i64 ((0 : Int))), (.int .i64 ((1000 : Int)))]).bind fun r3 =>
      cond (!bit (nth r3 0))
      (some [(.agg [(.int .i64 (D.toInt (D.cell 0 (nth r0 0)))), (.arr true (D.nil (D.cell 1 (nth r0 0))) (.r3 (D.r3 (D.cell 1 (nth r0 0))))), (.arr true (D.nil (D.cell 2 (nth r0 0))) (.ints .i64 (D.ints (D.cell 2 (nth r0 0))))), (.arr true (D.nil (D.cell 3 (nth r0 0))) (.ints .i64 (D.ints (D.cell 3 (nth r0 0))))), (.arr true (D.nil (D.cell 4 (nth r0 0))) (.ints .i64 (D.ints (D.cell 4 (nth r0 0))))), (.int .i64 (D.toInt (D.cell 5 (nth r0 0)))), (.int .i64 (D.toInt (D.cell 6 (nth r0 0)))), (.int .i64 (D.toInt (D.cell 7 (nth r0 0)))), (.int .i64 (D.toInt (D.cell 8 (nth r0 0)))), (.int .i64 (D.toInt (D.cell 9 (nth r0 0)))), (.int .i64 (D.toInt (D.cell 10 (nth r0 0)))), (.int .i64 (D.toInt (D.cell 11 (nth r0 0)))), (.int .i64 (D.toInt (D.cell (12 : Nat) (nth r0 0)))), (.int .i64 (D.toInt (D.cell (13 : Nat) (nth r0 0)))), (.int .i64 (D.toInt (D.cell (14 : Nat) (nth r0 0)))), (.int .i64 (D.toInt (D.cell (15 : Nat) (nth r0 0)))), (.int .i64 (D.toInt (D.cell (16 : Nat) (nth r0 0)))), (.int .i64 (D.toInt (D.cell (17 : Nat) (nth r0 0)))), (.int .i64 (D.toInt (D.cell (18 : Nat) (nth r0 0)))), (.int .i64 (D.toInt (D.cell (19 : Nat) (nth r0 0)))), (.int .i64 (D.toInt (D.cell (20 : Nat) (nth r0 0))))]), (.bool (false))])
      ((go k spec_l07Sum [(.arr false (a2z) (.ints .i64 (a2)))]).bind fun r4 =>
        cond (decide ((10000000 : Int) < IntKind.wrap .i64 (D.toInt (nth r4 0) + c)))
        (some [(.agg [(.int .i64 (D.toInt (D.cell 0 (nth r0 0)))), (.arr true (D.nil (D.cell 1 (nth r0 0))) (.r3 (D.r3 (D.cell 1 (nth r0 0))))), (.arr true (D.nil (D.cell 2 (nth r0 0))) (.ints .i64 (D.ints (D.cell 2 (nth r0 0))))), (.arr true (D.nil (D.cell 3 (nth r0 0))) (.ints .i64 (D.ints (D.cell 3 (nth r0 0))))), (.arr true (D.nil (D.cell 4 (nth r0 0))) (.ints .i64 (D.ints (D.cell 4 (nth r0 0))))), (.int .i64 (D.toInt (D.cell 5 (nth r0 0)))), (.int .i64 (D.toInt (D.cell 6 (nth r0 0)))), (.int .i64 (D.toInt (D.cell 7 (nth r0 0)))), (.int .i64 (D.toInt (D.cell 8 (nth r0 0)))), (.int .i64 (D.toInt (D.cell 9 (nth r0 0)))), (.int .i64 (D.toInt (D.cell 10 (nth r0 0)))), (.int .i64 (D.toInt (D.cell 11 (nth r0 0)))), (.int .i64 (D.toInt (D.cell (12 : Nat) (nth r0 0)))), (.int .i64 (D.toInt (D.cell (13 : Nat) (nth r0 0)))), (.int .i64 (D.toInt (D.cell (14 : Nat) (nth r0 0)))), (.int .i64 (D.toInt (D.cell (15 : Nat) (nth r0 0)))), (.int .i64 (D.toInt (D.cell (16 : Nat) (nth r0 0)))), (.int .i64 (D.toInt (D.cell (17 : Nat) (nth r0 0)))), (.int .i64 (D.toInt (D.cell (18 : Nat) (nth r0 0)))), (.int .i64 (D.toInt (D.cell (19 : Nat) (nth r0 0)))), (.int .i64 (D.toInt (D.cell (20 : Nat) (nth r0 0))))]), (.bool (false))])
        ((go k spec_LeafAt [(.agg [(.int .i64 (a0)), (.arr false (a1z) (.r3 (a1)))]), (.int .i64 (b))]).bind fun r5 =>
          cond (decide (D.toInt (nth r5 0) < (0 : Int)))
          (some [(.agg [(.int .i64 (D.toInt (D.cell 0 (nth r0 0)))), (.arr true (D.nil (D.cell 1 (nth r0 0))) (.r3 (D.r3 (D.cell 1 (nth r0 0))))), (.arr true (D.nil (D.cell 2 (nth r0 0))) (.ints .i64 (D.ints (D.cell 2 (nth r0 0))))), (.arr true (D.nil (D.cell 3 (nth r0 0))) (.ints .i64 (D.ints (D.cell 3 (nth r0 0))))), (.arr true (D.nil (D.cell 4 (nth r0 0))) (.ints .i64 (D.ints (D.cell 4 (nth r0 0))))), (.int .i64 (D.toInt (D.cell 5 (nth r0 0)))), (.int .i64 (D.toInt (D.cell 6 (nth r0 0)))), (.int .i64 (D.toInt (D.cell 7 (nth r0 0)))), (.int .i64 (D.toInt (D.cell 8 (nth r0 0)))), (.int .i64 (D.toInt (D.cell 9 (nth r0 0)))), (.int .i64 (D.toInt (D.cell 10 (nth r0 0)))), (.int .i64 (D.toInt (D.cell 11 (nth r0 0)))), (.int .i64 (D.toInt (D.cell (12 : Nat) (nth r0 0)))), (.int .i64 (D.toInt (D.cell (13 : Nat) (nth r0 0)))), (.int .i64 (D.toInt (D.cell (14 : Nat) (nth r0 0)))), (.int .i64 (D.toInt (D.cell (15 : Nat) (nth r0 0)))), (.int .i64 (D.toInt (D.cell (16 : Nat) (nth r0 0)))), (.int .i64 (D.toInt (D.cell (17 : Nat) (nth r0 0)))), (.int .i64 (D.toInt (D.cell (18 : Nat) (nth r0 0)))), (.int .i64 (D.toInt (D.cell (19 : Nat) (nth r0 0)))), (.int .i64 (D.toInt (D.cell (20 : Nat) (nth r0 0))))]), (.bool (false))])
          (cond (decide ((0 : Int) ≤ D.toInt (nth r5 0)) && decide (D.toInt (nth r5 0) < nI (List.length (D.ints (D.cell 2 (nth r0 0))))))
            (cond (decide ((0 : Int) ≤ D.toInt (nth r5 0)) && decide (D.toInt (nth r5 0) < nI (List.length (D.ints (D.cell 2 (nth r0 0))))))
              (cond (decide ((0 : Int) ≤ D.toInt (nth r5 0)) && decide (D.toInt (nth r5 0) < nI (List.length (D.ints (D.cell 3 (nth r0 0))))))
                (cond (decide ((0 : Int) ≤ D.toInt (nth r5 0)) && decide (D.toInt (nth r5 0) < nI (List.length (D.ints (D.cell 3 (nth r0 0))))))
                  ((go k spec_LedgerAdd [(.agg [(.int .i64 (D.toInt (D.cell (15 : Nat) (nth r0 0)))), (.int .i64 (D.toInt (D.cell (16 : Nat) (nth r0 0)))), (.int .i64 (D.toInt (D.cell (17 : Nat) (nth r0 0)))), (.int .i64 (D.toInt (D.cell (18 : Nat) (nth r0 0))))]), (.agg [(.int .i64 (c)), (.int .i64 ((0 : Int))), (.int .i64 (IntKind.wrap .i64 (c * d))), (.int .i64 ((0 : Int)))])]).bind fun r6 =>
                    some [(.agg [(.int .i64 (D.toInt (D.cell 0 (nth r0 0)))), (.arr true (D.nil (D.cell 1 (nth r0 0))) (.r3 (D.r3 (D.cell 1 (nth r0 0))))), (.arr true (D.nil (D.cell 2 (nth r0 0))) (.ints .i64 (List.set (D.ints (D.cell 2 (nth r0 0))) (Int.toNat (D.toInt (nth r5 0))) (IntKind.wrap .i64 (List.getD (D.ints (D.cell 2 (nth r0 0))) (Int.toNat (D.toInt (nth r5 0))) (0 : Int) + c))))), (.arr true (D.nil (D.cell 3 (nth r0 0))) (.ints .i64 (List.set (D.ints (D.cell 3 (nth r0 0))) (Int.toNat (D.toInt (nth r5 0))) (IntKind.wrap .i64 (List.getD (D.ints (D.cell 3 (nth r0 0))) (Int.toNat (D.toInt (nth r5 0))) (0 : Int) + IntKind.wrap .i64 (c * d)))))), (.arr true (D.nil (D.cell 4 (nth r0 0))) (.ints .i64 (D.ints (D.cell 4 (nth r0 0))))), (.int .i64 (D.toInt (D.cell 5 (nth r0 0)))), (.int .i64 (D.toInt (D.cell 6 (nth r0 0)))), (.int .i64 (D.toInt (D.cell 7 (nth r0 0)))), (.int .i64 (D.toInt (D.cell 8 (nth r0 0)))), (.int .i64 (D.toInt (D.cell 9 (nth r0 0)))), (.int .i64 (D.toInt (D.cell 10 (nth r0 0)))), (.int .i64 (D.toInt (D.cell 11 (nth r0 0)))), (.int .i64 (D.toInt (D.cell (12 : Nat) (nth r0 0)))), (.int .i64 (D.toInt (D.cell (13 : Nat) (nth r0 0)))), (.int .i64 (D.toInt (D.cell (14 : Nat) (nth r0 0)))), (.int .i64 (D.toInt (D.cell 0 (nth r6 0)))), (.int .i64 (D.toInt (D.cell 1 (nth r6 0)))), (.int .i64 (D.toInt (D.cell 2 (nth r6 0)))), (.int .i64 (D.toInt (D.cell 3 (nth r6 0)))), (.int .i64 (D.toInt (D.cell (19 : Nat) (nth r0 0)))), (.int .i64 (D.toInt (D.cell (20 : Nat) (nth r0 0))))]), (.bool (true))])
                  (none))
                (none))
              (none))
            (none)))))) := by kernel_rfl
theorem e_impl_Drop (k : Nat) (a0 : Int) (a1z : Bool) (a1 : List (Int × Int × Int)) (a2z : Bool) (a2 : List Int) (a3z : Bool) (a3 : List Int) (a4z : Bool) (a4 : List Int) (a5 : Int) (a6 : Int) (a7 : Int) (a8 : Int) (a9 : Int) (a10 : Int) (a11 : Int) (a12 : Int) (a13 : Int) (a14 : Int) (a15 : Int) (a16 : Int) (a17 : Int) (a18 : Int) (a19 : Int) (a20 : Int) (b : Int) (c : Int) (d : Int) : go (k + 1) impl_Drop [(.agg [(.int .i64 (a0)), (.arr false (a1z) (.r3 (a1))), (.arr false (a2z) (.ints .i64 (a2))), (.arr false (a3z) (.ints .i64 (a3))), (.arr false (a4z) (.ints .i64 (a4))), (.int .i64 (a5)), (.int .i64 (a6)), (.int .i64 (a7)), (.int .i64 (a8)), (.int .i64 (a9)), (.int .i64 (a10)), (.int .i64 (a11)), (.int .i64 (a12)), (.int .i64 (a13)), (.int .i64 (a14)), (.int .i64 (a15)), (.int .i64 (a16)), (.int .i64 (a17)), (.int .i64 (a18)), (.int .i64 (a19)), (.int .i64 (a20))]), (.int .i64 (b)), (.int .i64 (c)), (.int .i64 (d))] =
    (go k impl_copyWorld [(.agg [(.int .i64 (a0)), (.arr false (a1z) (.r3 (a1))), (.arr false (a2z) (.ints .i64 (a2))), (.arr false (a3z) (.ints .i64 (a3))), (.arr false (a4z) (.ints .i64 (a4))), (.int .i64 (a5)), (.int .i64 (a6)), (.int .i64 (a7)), (.int .i64 (a8)), (.int .i64 (a9)), (.int .i64 (a10)), (.int .i64 (a11)), (.int .i64 (a12)), (.int .i64 (a13)), (.int .i64 (a14)), (.int .i64 (a15)), (.int .i64 (a16)), (.int .i64 (a17)), (.int .i64 (a18)), (.int .i64 (a19)), (.int .i64 (a20))])]).bind fun r0 =>
  (go k impl_LeafAt [(.agg [(.int .i64 (a0)), (.arr false (a1z) (.r3 (a1)))]), (.int .i64 (b))]).bind fun r1 =>
  (go k impl_WorldOk [(.agg [(.int .i64 (a0)), (.arr false (a1z) (.r3 (a1))), (.arr false (a2z) (.ints .i64 (a2))), (.arr false (a3z) (.ints .i64 (a3))), (.arr false (a4z) (.ints .i64 (a4))), (.int .i64 (a5)), (.int .i64 (a6)), (.int .i64 (a7)), (.int .i64 (a8)), (.int .i64 (a9)), (.int .i64 (a10)), (.int .i64 (a11)), (.int .i64 (a12)), (.int .i64 (a13)), (.int .i64 (a14)), (.int .i64 (a15)), (.int .i64 (a16)), (.int .i64 (a17)), (.int .i64 (a18)), (.int .i64 (a19)), (.int .i64 (a20))])]).bind fun r2 =>
  cond (!bit (nth r2 0))
  (some [(.agg [(.int .i64 (D.toInt (D.cell 0 (nth r0 0)))), (.arr true (D.nil (D.cell 1 (nth r0 0))) (.r3 (D.r3 (D.cell 1 (nth r0 0))))), (.arr true (D.nil (D.cell 2 (nth r0 0))) (.ints .i64 (D.ints (D.cell 2 (nth r0 0))))), (.arr true (D.nil (D.cell 3 (nth r0 0))) (.ints .i64 (D.ints (D.cell 3 (nth r0 0))))), (.arr true (D.nil (D.cell 4 (nth r0 0))) (.ints .i64 (D.ints (D.cell 4 (nth r0 0))))), (.int .i64 (D.toInt (D.cell 5 (nth r0 0)))), (.int .i64 (D.toInt (D.cell 6 (nth r0 0)))), (.int .i64 (D.toInt (D.cell 7 (nth r0 0)))), (.int .i64 (D.toInt (D.cell 8 (nth r0 0)))), (.int .i64 (D.toInt (D.cell 9 (nth r0 0)))), (.int .i64 (D.toInt (D.cell 10 (nth r0 0)))), (.int .i64 (D.toInt (D.cell 11 (nth r0 0)))), (.int .i64 (D.toInt (D.cell (12 : Nat) (nth r0 0)))), (.int .i64 (D.toInt (D.cell (13 : Nat) (nth r0 0)))), (.int .i64 (D.toInt (D.cell (14 : Nat) (nth r0 0)))), (.int .i64 (D.toInt (D.cell (15 : Nat) (nth r0 0)))), (.int .i64 (D.toInt (D.cell (16 : Nat) (nth r0 0)))), (.int .i64 (D.toInt (D.cell (17 : Nat) (nth r0 0)))), (.int .i64 (D.toInt (D.cell (18 : Nat) (nth r0 0)))), (.int .i64 (D.toInt (D.cell (19 : Nat) (nth r0 0)))), (.int .i64 (D.toInt (D.cell (20 : Nat) (nth r0 0))))]), (.bool (false))])
  (cond (decide (D.toInt (nth r1 0) < (0 : Int)))
    (some [(.agg [(.int .i64 (D.toInt (D.cell 0 (nth r0 0)))), (.arr true (D.nil (D.cell 1 (nth r0 0))) (.r3 (D.r3 (D.cell 1 (nth r0 0))))), (.arr true (D.nil (D.cell 2 (nth r0 0))) (.ints .i64 (D.ints (D.cell 2 (nth r0 0))))), (.arr true (D.nil (D.cell 3 (nth r0 0))) (.ints .i64 (D.ints (D.cell 3 (nth r0 0))))), (.arr true (D.nil (D.cell 4 (nth r0 0))) (.ints .i64 (D.ints (D.cell 4 (nth r0 0))))), (.int .i64 (D.toInt (D.cell 5 (nth r0 0)))), (.int .i64 (D.toInt (D.cell 6 (nth r0 0)))), (.int .i64 (D.toInt (D.cell 7 (nth r0 0)))), (.int .i64 (D.toInt (D.cell 8 (nth r0 0)))), (.int .i64 (D.toInt (D.cell 9 (nth r0 0)))), (.int .i64 (D.toInt (D.cell 10 (nth r0 0)))), (.int .i64 (D.toInt (D.cell 11 (nth r0 0)))), (.int .i64 (D.toInt (D.cell (12 : Nat) (nth r0 0)))), (.int .i64 (D.toInt (D.cell (13 : Nat) (nth r0 0)))), (.int .i64 (D.toInt (D.cell (14 : Nat) (nth r0 0)))), (.int .i64 (D.toInt (D.cell (15 : Nat) (nth r0 0)))), (.int .i64 (D.toInt (D.cell (16 : Nat) (nth r0 0)))), (.int .i64 (D.toInt (D.cell (17 : Nat) (nth r0 0)))), (.int .i64 (D.toInt (D.cell (18 : Nat) (nth r0 0)))), (.int .i64 (D.toInt (D.cell (19 : Nat) (nth r0 0)))), (.int .i64 (D.toInt (D.cell (20 : Nat) (nth r0 0))))]), (.bool (false))])
    ((go k impl_within [(.int .i64 (c)), (.int .i64 ((1 : Int))), (.int .i64 ((10000 : Int)))]).bind fun r3 =>
      cond (!bit (nth r3 0))
      (some [(.agg [(.int .i64 (D.toInt (D.cell 0 (nth r0 0)))), (.arr true (D.nil (D.cell 1 (nth r0 0))) (.r3 (D.r3 (D.cell 1 (nth r0 0))))), (.arr true (D.nil (D.cell 2 (nth r0 0))) (.ints .i64 (D.ints (D.cell 2 (nth r0 0))))), (.arr true (D.nil (D.cell 3 (nth r0 0))) (.ints .i64 (D.ints (D.cell 3 (nth r0 0))))), (.arr true (D.nil (D.cell 4 (nth r0 0))) (.ints .i64 (D.ints (D.cell 4 (nth r0 0))))), (.int .i64 (D.toInt (D.cell 5 (nth r0 0)))), (.int .i64 (D.toInt (D.cell 6 (nth r0 0)))), (.int .i64 (D.toInt (D.cell 7 (nth r0 0)))), (.int .i64 (D.toInt (D.cell 8 (nth r0 0)))), (.int .i64 (D.toInt (D.cell 9 (nth r0 0)))), (.int .i64 (D.toInt (D.cell 10 (nth r0 0)))), (.int .i64 (D.toInt (D.cell 11 (nth r0 0)))), (.int .i64 (D.toInt (D.cell (12 : Nat) (nth r0 0)))), (.int .i64 (D.toInt (D.cell (13 : Nat) (nth r0 0)))), (.int .i64 (D.toInt (D.cell (14 : Nat) (nth r0 0)))), (.int .i64 (D.toInt (D.cell (15 : Nat) (nth r0 0)))), (.int .i64 (D.toInt (D.cell (16 : Nat) (nth r0 0)))), (.int .i64 (D.toInt (D.cell (17 : Nat) (nth r0 0)))), (.int .i64 (D.toInt (D.cell (18 : Nat) (nth r0 0)))), (.int .i64 (D.toInt (D.cell (19 : Nat) (nth r0 0)))), (.int .i64 (D.toInt (D.cell (20 : Nat) (nth r0 0))))]), (.bool (false))])
      ((go k impl_within [(.int .i64 (d)), (.int .i64 ((0 : Int))), (.int .i64 ((1000 : Int)))]).bind fun r4 =>
        cond (!bit (nth r4 0))
        (some [(.agg [(.int .i64 (D.toInt (D.cell 0 (nth r0 0)))), (.arr true (D.nil (D.cell 1 (nth r0 0))) (.r3 (D.r3 (D.cell 1 (nth r0 0))))), (.arr true (D.nil (D.cell 2 (nth r0 0))) (.ints .i64 (D.ints (D.cell 2 (nth r0 0))))), (.arr true (D.nil (D.cell 3 (nth r0 0))) (.ints .i64 (D.ints (D.cell 3 (nth r0 0))))), (.arr true (D.nil (D.cell 4 (nth r0 0))) (.ints .i64 (D.ints (D.cell 4 (nth r0 0))))), (.int .i64 (D.toInt (D.cell 5 (nth r0 0)))), (.int .i64 (D.toInt (D.cell 6 (nth r0 0)))), (.int .i64 (D.toInt (D.cell 7 (nth r0 0)))), (.int .i64 (D.toInt (D.cell 8 (nth r0 0)))), (.int .i64 (D.toInt (D.cell 9 (nth r0 0)))), (.int .i64 (D.toInt (D.cell 10 (nth r0 0)))), (.int .i64 (D.toInt (D.cell 11 (nth r0 0)))), (.int .i64 (D.toInt (D.cell (12 : Nat) (nth r0 0)))), (.int .i64 (D.toInt (D.cell (13 : Nat) (nth r0 0)))), (.int .i64 (D.toInt (D.cell (14 : Nat) (nth r0 0)))), (.int .i64 (D.toInt (D.cell (15 : Nat) (nth r0 0)))), (.int .i64 (D.toInt (D.cell (16 : Nat) (nth r0 0)))), (.int .i64 (D.toInt (D.cell (17 : Nat) (nth r0 0)))), (.int .i64 (D.toInt (D.cell (18 : Nat) (nth r0 0)))), (.int .i64 (D.toInt (D.cell (19 : Nat) (nth r0 0)))), (.int .i64 (D.toInt (D.cell (20 : Nat) (nth r0 0))))]), (.bool (false))])
        ((go k impl_sum [(.arr false (a2z) (.ints .i64 (a2)))]).bind fun r5 =>
          cond (decide ((10000000 : Int) < IntKind.wrap .i64 (D.toInt (nth r5 0) + c)))
          (some [(.agg [(.int .i64 (D.toInt (D.cell 0 (nth r0 0)))), (.arr true (D.nil (D.cell 1 (nth r0 0))) (.r3 (D.r3 (D.cell 1 (nth r0 0))))), (.arr true (D.nil (D.cell 2 (nth r0 0))) (.ints .i64 (D.ints (D.cell 2 (nth r0 0))))), (.arr true (D.nil (D.cell 3 (nth r0 0))) (.ints .i64 (D.ints (D.cell 3 (nth r0 0))))), (.arr true (D.nil (D.cell 4 (nth r0 0))) (.ints .i64 (D.ints (D.cell 4 (nth r0 0))))), (.int .i64 (D.toInt (D.cell 5 (nth r0 0)))), (.int .i64 (D.toInt (D.cell 6 (nth r0 0)))), (.int .i64 (D.toInt (D.cell 7 (nth r0 0)))), (.int .i64 (D.toInt (D.cell 8 (nth r0 0)))), (.int .i64 (D.toInt (D.cell 9 (nth r0 0)))), (.int .i64 (D.toInt (D.cell 10 (nth r0 0)))), (.int .i64 (D.toInt (D.cell 11 (nth r0 0)))), (.int .i64 (D.toInt (D.cell (12 : Nat) (nth r0 0)))), (.int .i64 (D.toInt (D.cell (13 : Nat) (nth r0 0)))), (.int .i64 (D.toInt (D.cell (14 : Nat) (nth r0 0)))), (.int .i64 (D.toInt (D.cell (15 : Nat) (nth r0 0)))), (.int .i64 (D.toInt (D.cell (16 : Nat) (nth r0 0)))), (.int .i64 (D.toInt (D.cell (17 : Nat) (nth r0 0)))), (.int .i64 (D.toInt (D.cell (18 : Nat) (nth r0 0)))), (.int .i64 (D.toInt (D.cell (19 : Nat) (nth r0 0)))), (.int .i64 (D.toInt (D.cell (20 : Nat) (nth r0 0))))]), (.bool (false))])
          (cond (decide ((0 : Int) ≤ D.toInt (nth r1 0)) && decide (D.toInt (nth r1 0) < nI (List.length (D.ints (D.cell 2 (nth r0 0))))))
            (cond (decide ((0 : Int) ≤ D.toInt (nth r1 0)) && decide (D.toInt (nth r1 0) < nI (List.length (D.ints (D.cell 2 (nth r0 0))))))
              (cond (decide ((0 : Int) ≤ D.toInt (nth r1 0)) && decide (D.toInt (nth r1 0) < nI (List.length (D.ints (D.cell 3 (nth r0 0))))))
                (cond (decide ((0 : Int) ≤ D.toInt (nth r1 0)) && decide (D.toInt (nth r1 0) < nI (List.length (D.ints (D.cell 3 (nth r0 0))))))
                  (some [(.agg [(.int .i64 (D.toInt (D.cell 0 (nth r0 0)))), (.arr true (D.nil (D.cell 1 (nth r0 0))) (.r3 (D.r3 (D.cell 1 (nth r0 0))))), (.arr true (D.nil (D.cell 2 (nth r0 0))) (.ints .i64 (List.set (D.ints (D.cell 2 (nth r0 0))) (Int.toNat (D.toInt (nth r1 0))) (IntKind.wrap .i64 (List.getD (D.ints (D.cell 2 (nth r0 0))) (Int.toNat (D.toInt (nth r1 0))) (0 : Int) + c))))), (.arr true (D.nil (D.cell 3 (nth r0 0))) (.ints .i64 (List.set (D.ints (D.cell 3 (nth r0 0))) (Int.toNat (D.toInt (nth r1 0))) (IntKind.wrap .i64 (List.getD (D.ints (D.cell 3 (nth r0 0))) (Int.toNat (D.toInt (nth r1 0))) (0 : Int) + IntKind.wrap .i64 (c * d)))))), (.arr true (D.nil (D.cell 4 (nth r0 0))) (.ints .i64 (D.ints (D.cell 4 (nth r0 0))))), (.int .i64 (D.toInt (D.cell 5 (nth r0 0)))), (.int .i64 (D.toInt (D.cell 6 (nth r0 0)))), (.int .i64 (D.toInt (D.cell 7 (nth r0 0)))), (.int .i64 (D.toInt (D.cell 8 (nth r0 0)))), (.int .i64 (D.toInt (D.cell 9 (nth r0 0)))), (.int .i64 (D.toInt (D.cell 10 (nth r0 0)))), (.int .i64 (D.toInt (D.cell 11 (nth r0 0)))), (.int .i64 (D.toInt (D.cell (12 : Nat) (nth r0 0)))), (.int .i64 (D.toInt (D.cell (13 : Nat) (nth r0 0)))), (.int .i64 (D.toInt (D.cell (14 : Nat) (nth r0 0)))), (.int .i64 (IntKind.wrap .i64 (D.toInt (D.cell (15 : Nat) (nth r0 0)) + c))), (.int .i64 (D.toInt (D.cell (16 : Nat) (nth r0 0)))), (.int .i64 (IntKind.wrap .i64 (D.toInt (D.cell (17 : Nat) (nth r0 0)) + IntKind.wrap .i64 (c * d)))), (.int .i64 (D.toInt (D.cell (18 : Nat) (nth r0 0)))), (.int .i64 (D.toInt (D.cell (19 : Nat) (nth r0 0)))), (.int .i64 (D.toInt (D.cell (20 : Nat) (nth r0 0))))]), (.bool (true))])
                  (none))
                (none))
              (none))
            (none)))))) := by kernel_rfl
theorem e_spec_WriteFrame (k : Nat) (a0 : Int) (a1z : Bool) (a1 : List (Int × Int × Int)) (a2z : Bool) (a2 : List Int) (a3z : Bool) (a3 : List Int) (a4z : Bool) (a4 : List Int) (b : Int) (c : Int) : go (k + 1) spec_WriteFrame [(.agg [(.int .i64 (a0)), (.arr false (a1z) (.r3 (a1))), (.arr false (a2z) (.ints .i64 (a2))), (.arr false (a3z) (.ints .i64 (a3))), (.arr false (a4z) (.ints .i64 (a4)))]), (.int .i64 (b)), (.int .i64 (c))] =
    (go k spec_StateOk [(.agg [(.int .i64 (a0)), (.arr false (a1z) (.r3 (a1))), (.arr false (a2z) (.ints .i64 (a2))), (.arr false (a3z) (.ints .i64 (a3))), (.arr false (a4z) (.ints .i64 (a4)))])]).bind fun r0 =>
  cond (!bit (nth r0 0))
  (some [(.agg [(.int .i64 ((0 : Int))), (.int .i64 ((0 : Int))), (.arr true (true) (.r3 ([]))), (.int .i64 ((0 : Int))), (.int .i64 ((0 : Int))), (.int .i64 ((0 : Int))), (.arr true (true) (.ints .i64 ([])))]), (.bool (false))])
  (cond (decide (b < (0 : Int)))
    (some [(.agg [(.int .i64 ((0 : Int))), (.int .i64 ((0 : Int))), (.arr true (true) (.r3 ([]))), (.int .i64 ((0 : Int))), (.int .i64 ((0 : Int))), (.int .i64 ((0 : Int))), (.arr true (true) (.ints .i64 ([])))]), (.bool (false))])
    ((go k spec_l01In [(.int .i64 (c)), (.int .i64 ((1 : Int))), (.int .i64 ((1000000 : Int)))]).bind fun r1 =>
      cond (!bit (nth r1 0))
      (some [(.agg [(.int .i64 ((0 : Int))), (.int .i64 ((0 : Int))), (.arr true (true) (.r3 ([]))), (.int .i64 ((0 : Int))), (.int .i64 ((0 : Int))), (.int .i64 ((0 : Int))), (.arr true (true) (.ints .i64 ([])))]), (.bool (false))])
      ((go k spec_CompressList [(.arr false (a2z) (.ints .i64 (a2))), (.int .i64 (c))]).bind fun r2 =>
        (go k spec_l04Copy [(.agg [(.int .i64 (a0)), (.arr false (a1z) (.r3 (a1)))])]).bind fun r3 =>
        (go k spec_TotalMass [(.agg [(.int .i64 (a0)), (.arr false (a1z) (.r3 (a1))), (.arr false (a2z) (.ints .i64 (a2))), (.arr false (a3z) (.ints .i64 (a3))), (.arr false (a4z) (.ints .i64 (a4)))])]).bind fun r4 =>
        (go k spec_TotalTracer [(.agg [(.int .i64 (a0)), (.arr false (a1z) (.r3 (a1))), (.arr false (a2z) (.ints .i64 (a2))), (.arr false (a3z) (.ints .i64 (a3))), (.arr false (a4z) (.ints .i64 (a4)))])]).bind fun r5 =>
        some [(.agg [(.int .i64 (b)), (.int .i64 (D.toInt (D.cell 0 (nth r3 0)))), (.arr true (D.nil (D.cell 1 (nth r3 0))) (.r3 (D.r3 (D.cell 1 (nth r3 0))))), (.int .i64 (D.toInt (nth r4 0))), (.int .i64 (D.toInt (nth r5 0))), (.int .i64 (c)), (.arr true (D.nil (nth r2 0)) (.ints .i64 (D.ints (nth r2 0))))]), (.bool (true))]))) := by kernel_rfl
theorem e_impl_WriteFrame (k : Nat) (a0 : Int) (a1z : Bool) (a1 : List (Int × Int × Int)) (a2z : Bool) (a2 : List Int) (a3z : Bool) (a3 : List Int) (a4z : Bool) (a4 : List Int) (b : Int) (c : Int) : go (k + 1) impl_WriteFrame [(.agg [(.int .i64 (a0)), (.arr false (a1z) (.r3 (a1))), (.arr false (a2z) (.ints .i64 (a2))), (.arr false (a3z) (.ints .i64 (a3))), (.arr false (a4z) (.ints .i64 (a4)))]), (.int .i64 (b)), (.int .i64 (c))] =
    (go k impl_StateOk [(.agg [(.int .i64 (a0)), (.arr false (a1z) (.r3 (a1))), (.arr false (a2z) (.ints .i64 (a2))), (.arr false (a3z) (.ints .i64 (a3))), (.arr false (a4z) (.ints .i64 (a4)))])]).bind fun r0 =>
  cond (!bit (nth r0 0))
  (some [(.agg [(.int .i64 ((0 : Int))), (.int .i64 ((0 : Int))), (.arr true (true) (.r3 ([]))), (.int .i64 ((0 : Int))), (.int .i64 ((0 : Int))), (.int .i64 ((0 : Int))), (.arr true (true) (.ints .i64 ([])))]), (.bool (false))])
  (cond (decide (b < (0 : Int)))
    (some [(.agg [(.int .i64 ((0 : Int))), (.int .i64 ((0 : Int))), (.arr true (true) (.r3 ([]))), (.int .i64 ((0 : Int))), (.int .i64 ((0 : Int))), (.int .i64 ((0 : Int))), (.arr true (true) (.ints .i64 ([])))]), (.bool (false))])
    ((go k impl_isQuantum [(.int .i64 (c))]).bind fun r1 =>
      cond (!bit (nth r1 0))
      (some [(.agg [(.int .i64 ((0 : Int))), (.int .i64 ((0 : Int))), (.arr true (true) (.r3 ([]))), (.int .i64 ((0 : Int))), (.int .i64 ((0 : Int))), (.int .i64 ((0 : Int))), (.arr true (true) (.ints .i64 ([])))]), (.bool (false))])
      ((go k impl_CompressList [(.arr false (a2z) (.ints .i64 (a2))), (.int .i64 (c))]).bind fun r2 =>
        (go k impl_copyMesh [(.agg [(.int .i64 (a0)), (.arr false (a1z) (.r3 (a1)))])]).bind fun r3 =>
        (go k impl_sum [(.arr false (a2z) (.ints .i64 (a2)))]).bind fun r4 =>
        (go k impl_sum [(.arr false (a3z) (.ints .i64 (a3)))]).bind fun r5 =>
        some [(.agg [(.int .i64 (b)), (.int .i64 (D.toInt (D.cell 0 (nth r3 0)))), (.arr true (D.nil (D.cell 1 (nth r3 0))) (.r3 (D.r3 (D.cell 1 (nth r3 0))))), (.int .i64 (D.toInt (nth r4 0))), (.int .i64 (D.toInt (nth r5 0))), (.int .i64 (c)), (.arr true (D.nil (nth r2 0)) (.ints .i64 (D.ints (nth r2 0))))]), (.bool (true))]))) := by kernel_rfl
def s_spec_CompressList_6 (x0 : Int) (x1 : Int) (x2 : Int) (z3 : Bool) (l4 : List Int) (z5 : Bool) (l6 : List Int) : St := ⟨fill 74 [(0, (.sl 0 none)), (1, (.int .i64 (x0))), (6, (.sl 1 none)), (7, (.int .i64 (x1))), (8, (.int .i64 (x2)))], [], [(.arr false (z3) (.ints .i64 (l4))), (.arr true (z5) (.ints .i64 (l6)))]⟩
theorem e_spec_CompressList (k : Nat) (az : Bool) (a : List Int) (b : Int) : go (k + 1) spec_CompressList [(.arr false (az) (.ints .i64 (a))), (.int .i64 (b))] =
    (go k spec_l01In [(.int .i64 (b)), (.int .i64 ((1 : Int))), (.int .i64 ((1000000 : Int)))]).bind fun r0 =>
  cond (!bit (nth r0 0))
  (some [(.arr true (false) (.ints .i64 ([]))), (.bool (false))])
  (cond (decide ((1000 : Int) < nI (List.length a)))
    (some [(.arr true (false) (.ints .i64 ([]))), (.bool (false))])
    (lp k spec_CompressList [] [] 6 k (s_spec_CompressList_6 b ((0 : Int)) ((0 : Int)) az a false ([])))) := by kernel_rfl
theorem l_spec_CompressList_6 (k n : Nat) (fu : List (Nat × Nat)) (x0 : Int) (x1 : Int) (x2 : Int) (z3 : Bool) (l4 : List Int) (z5 : Bool) (l6 : List Int) : lp k spec_CompressList [] fu 6 (n + 1) (s_spec_CompressList_6 x0 x1 x2 z3 l4 z5 l6) =
    cond (decide (x2 < nI (List.length l4)))
  (cond (decide ((0 : Int) ≤ x2) && decide (x2 < nI (List.length l4)))
    ((go k spec_l01In [(.int .i64 (List.getD l4 (Int.toNat x2) (0 : Int))), (.int .i64 ((0 : Int))), (.int .i64 ((10000000 : Int)))]).bind fun r0 =>
      cond (!bit (nth r0 0))
      (some [(.arr true (false) (.ints .i64 ([]))), (.bool (false))])
      (cond (decide ((0 : Int) ≤ x2) && decide (x2 < nI (List.length l4)))
        ((go k spec_Quantize [(.int .i64 (List.getD l4 (Int.toNat x2) (0 : Int))), (.int .i64 (x0))]).bind fun r1 =>
          cond (decide ((0 : Int) < nI (List.length l6)))
          (cond (decide ((0 : Int) ≤ IntKind.wrap .i64 (nI (List.length l6) - (1 : Int))) && decide (IntKind.wrap .i64 (nI (List.length l6) - (1 : Int)) < nI (List.length l6)))
            (cond (decide (List.getD l6 (Int.toNat (IntKind.wrap .i64 (nI (List.length l6) - (1 : Int)))) (0 : Int) = IntKind.wrap .i64 (D.toInt (nth r1 0) - x1)))
              (cond (decide ((0 : Int) ≤ IntKind.wrap .i64 (nI (List.length l6) - (2 : Int))) && decide (IntKind.wrap .i64 (nI (List.length l6) - (2 : Int)) < nI (List.length l6)))
                (cond (decide ((0 : Int) ≤ IntKind.wrap .i64 (nI (List.length l6) - (2 : Int))) && decide (IntKind.wrap .i64 (nI (List.length l6) - (2 : Int)) < nI (List.length l6)))
                  (lp k spec_CompressList [] fu 6 n (s_spec_CompressList_6 x0 (IntKind.wrap .i64 (x1 + IntKind.wrap .i64 (D.toInt (nth r1 0) - x1))) (IntKind.wrap .i64 (x2 + (1 : Int))) z3 l4 z5 (List.set l6 (Int.toNat (IntKind.wrap .i64 (nI (List.length l6) - (2 : Int)))) (IntKind.wrap .i64 (List.getD l6 (Int.toNat (IntKind.wrap .i64 (nI (List.length l6) - (2 : Int)))) (0 : Int) + (1 : Int))))))
                  (none))
                (none))
              (cond (decide (List.length (l6 ++ [(1 : Int), IntKind.wrap .i64 (D.toInt (nth r1 0) - x1)]) ≤ bigLen))
                (lp k spec_CompressList [] fu 6 n (s_spec_CompressList_6 x0 (IntKind.wrap .i64 (x1 + IntKind.wrap .i64 (D.toInt (nth r1 0) - x1))) (IntKind.wrap .i64 (x2 + (1 : Int))) z3 l4 (z5 && decide (List.length (l6 ++ [(1 : Int), IntKind.wrap .i64 (D.toInt (nth r1 0) - x1)]) = 0)) (l6 ++ [(1 : Int), IntKind.wrap .i64 (D.toInt (nth r1 0) - x1)])))
                (none)))
            (none))
          (cond (decide (List.length (l6 ++ [(1 : Int), IntKind.wrap .i64 (D.toInt (nth r1 0) - x1)]) ≤ bigLen))
            (lp k spec_CompressList [] fu 6 n (s_spec_CompressList_6 x0 (IntKind.wrap .i64 (x1 + IntKind.wrap .i64 (D.toInt (nth r1 0) - x1))) (IntKind.wrap .i64 (x2 + (1 : Int))) z3 l4 (z5 && decide (List.length (l6 ++ [(1 : Int), IntKind.wrap .i64 (D.toInt (nth r1 0) - x1)]) = 0)) (l6 ++ [(1 : Int), IntKind.wrap .i64 (D.toInt (nth r1 0) - x1)])))
            (none)))
        (none)))
    (none))
  (some [(.arr true (z5) (.ints .i64 (l6))), (.bool (true))]) := by kernel_rfl
def s_impl_CompressList_6 (x0 : Int) (x1 : Int) (x2 : Int) (x3 : Int) (z4 : Bool) (l5 : List Int) (z6 : Bool) (l7 : List Int) : St := ⟨fill 64 [(1, (.int .i64 (x0))), (6, (.sl 0 none)), (7, (.int .i64 (x1))), (21, (.sl 1 none)), (22, (.int .i64 (x2))), (23, (.int .i64 (x3)))], [], [(.arr true (z4) (.ints .i64 (l5))), (.arr false (z6) (.ints .i64 (l7)))]⟩
theorem e_impl_CompressList (k : Nat) (az : Bool) (a : List Int) (b : Int) : go (k + 1) impl_CompressList [(.arr false (az) (.ints .i64 (a))), (.int .i64 (b))] =
    (go k impl_isQuantum [(.int .i64 (b))]).bind fun r0 =>
  cond (!bit (nth r0 0))
  (some [(.arr true (true) (.ints .i64 ([]))), (.bool (false))])
  (cond (decide ((1000 : Int) < nI (List.length a)))
    (some [(.arr true (true) (.ints .i64 ([]))), (.bool (false))])
    (lp k impl_CompressList [] [] 6 k (s_impl_CompressList_6 b ((0 : Int)) (nI (List.length a)) ((0 : Int)) false ([]) az a))) := by kernel_rfl
theorem l_impl_CompressList_6 (k n : Nat) (fu : List (Nat × Nat)) (x0 : Int) (x1 : Int) (x2 : Int) (x3 : Int) (z4 : Bool) (l5 : List Int) (z6 : Bool) (l7 : List Int) : lp k impl_CompressList [] fu 6 (n + 1) (s_impl_CompressList_6 x0 x1 x2 x3 z4 l5 z6 l7) =
    cond (decide (x3 < x2))
  (cond (decide ((0 : Int) ≤ x3) && decide (x3 < nI (List.length l7)))
    ((go k impl_isMass [(.int .i64 (List.getD l7 (Int.toNat x3) (0 : Int)))]).bind fun r0 =>
      cond (!bit (nth r0 0))
      (some [(.arr true (true) (.ints .i64 ([]))), (.bool (false))])
      ((go k impl_Quantize [(.int .i64 (List.getD l7 (Int.toNat x3) (0 : Int))), (.int .i64 (x0))]).bind fun r1 =>
        cond (decide ((0 : Int) < nI (List.length l5)))
        (cond (decide ((0 : Int) ≤ IntKind.wrap .i64 (nI (List.length l5) - (1 : Int))) && decide (IntKind.wrap .i64 (nI (List.length l5) - (1 : Int)) < nI (List.length l5)))
          (cond (decide (List.getD l5 (Int.toNat (IntKind.wrap .i64 (nI (List.length l5) - (1 : Int)))) (0 : Int) = IntKind.wrap .i64 (D.toInt (nth r1 0) - x1)))
            (cond (decide ((0 : Int) ≤ IntKind.wrap .i64 (nI (List.length l5) - (2 : Int))) && decide (IntKind.wrap .i64 (nI (List.length l5) - (2 : Int)) < nI (List.length l5)))
              (cond (decide ((0 : Int) ≤ IntKind.wrap .i64 (nI (List.length l5) - (2 : Int))) && decide (IntKind.wrap .i64 (nI (List.length l5) - (2 : Int)) < nI (List.length l5)))
                (lp k impl_CompressList [] fu 6 n (s_impl_CompressList_6 x0 (D.toInt (nth r1 0)) x2 (IntKind.wrap .i64 (x3 + (1 : Int))) z4 (List.set l5 (Int.toNat (IntKind.wrap .i64 (nI (List.length l5) - (2 : Int)))) (IntKind.wrap .i64 (List.getD l5 (Int.toNat (IntKind.wrap .i64 (nI (List.length l5) - (2 : Int)))) (0 : Int) + (1 : Int)))) z6 l7))
                (none))
              (none))
            (cond (decide (List.length (l5 ++ [(1 : Int), IntKind.wrap .i64 (D.toInt (nth r1 0) - x1)]) ≤ bigLen))
              (lp k impl_CompressList [] fu 6 n (s_impl_CompressList_6 x0 (D.toInt (nth r1 0)) x2 (IntKind.wrap .i64 (x3 + (1 : Int))) (z4 && decide (List.length (l5 ++ [(1 : Int), IntKind.wrap .i64 (D.toInt (nth r1 0) - x1)]) = 0)) (l5 ++ [(1 : Int), IntKind.wrap .i64 (D.toInt (nth r1 0) - x1)]) z6 l7))
              (none)))
          (none))
        (cond (decide (List.length (l5 ++ [(1 : Int), IntKind.wrap .i64 (D.toInt (nth r1 0) - x1)]) ≤ bigLen))
          (lp k impl_CompressList [] fu 6 n (s_impl_CompressList_6 x0 (D.toInt (nth r1 0)) x2 (IntKind.wrap .i64 (x3 + (1 : Int))) (z4 && decide (List.length (l5 ++ [(1 : Int), IntKind.wrap .i64 (D.toInt (nth r1 0) - x1)]) = 0)) (l5 ++ [(1 : Int), IntKind.wrap .i64 (D.toInt (nth r1 0) - x1)]) z6 l7))
          (none))))
    (none))
  (some [(.arr true (z4) (.ints .i64 (l5))), (.bool (true))]) := by kernel_rfl
theorem e_spec_Quantize (k : Nat) (a : Int) (b : Int) : go (k + 1) spec_Quantize [(.int .i64 (a)), (.int .i64 (b))] =
    (go k spec_l01In [(.int .i64 (b)), (.int .i64 ((1 : Int))), (.int .i64 ((1000000 : Int)))]).bind fun r0 =>
  cond (!bit (nth r0 0))
  (some [(.int .i64 ((0 : Int)))])
  ((go k spec_l01In [(.int .i64 (a)), (.int .i64 ((0 : Int))), (.int .i64 ((10000000 : Int)))]).bind fun r1 =>
    cond (!bit (nth r1 0))
    (some [(.int .i64 ((0 : Int)))])
    ((go k spec_DivNear [(.int .i64 (a)), (.int .i64 (b))]).bind fun r2 =>
      some [(.int .i64 (D.toInt (nth r2 0)))])) := by kernel_rfl
theorem e_impl_Quantize (k : Nat) (a : Int) (b : Int) : go (k + 1) impl_Quantize [(.int .i64 (a)), (.int .i64 (b))] =
    (go k impl_isQuantum [(.int .i64 (b))]).bind fun r0 =>
  cond (!bit (nth r0 0))
  (some [(.int .i64 ((0 : Int)))])
  ((go k impl_isMass [(.int .i64 (a))]).bind fun r1 =>
    cond (!bit (nth r1 0))
    (some [(.int .i64 ((0 : Int)))])
    ((go k impl_DivNear [(.int .i64 (a)), (.int .i64 (b))]).bind fun r2 =>
      some [(.int .i64 (D.toInt (nth r2 0)))])) := by kernel_rfl
theorem e_spec_DivNear (k : Nat) (a : Int) (b : Int) : go (k + 1) spec_DivNear [(.int .i64 (a)), (.int .i64 (b))] =
    (go k spec_l01In [(.int .i64 (b)), (.int .i64 ((1 : Int))), (.int .i64 ((2147483647 : Int)))]).bind fun r0 =>
  cond (!bit (nth r0 0))
  (some [(.int .i64 ((0 : Int)))])
  ((go k spec_l01In [(.int .i64 (a)), (.int .i64 ((-1000000000000000 : Int))), (.int .i64 ((1000000000000000 : Int)))]).bind fun r1 =>
    cond (!bit (nth r1 0))
    (some [(.int .i64 ((0 : Int)))])
    ((go k spec_DivFloor [(.int .i64 (IntKind.wrap .i64 (IntKind.wrap .i64 ((2 : Int) * a) + b))), (.int .i64 (IntKind.wrap .i64 ((2 : Int) * b)))]).bind fun r2 =>
      some [(.int .i64 (D.toInt (nth r2 0)))])) := by kernel_rfl
theorem e_impl_DivNear (k : Nat) (a : Int) (b : Int) : go (k + 1) impl_DivNear [(.int .i64 (a)), (.int .i64 (b))] =
    (go k impl_within [(.int .i64 (b)), (.int .i64 ((1 : Int))), (.int .i64 ((2147483647 : Int)))]).bind fun r0 =>
  cond (!bit (nth r0 0))
  (some [(.int .i64 ((0 : Int)))])
  ((go k impl_within [(.int .i64 (a)), (.int .i64 ((-1000000000000000 : Int))), (.int .i64 ((1000000000000000 : Int)))]).bind fun r1 =>
    cond (!bit (nth r1 0))
    (some [(.int .i64 ((0 : Int)))])
    ((go k impl_DivFloor [(.int .i64 (IntKind.wrap .i64 (IntKind.wrap .i64 ((2 : Int) * a) + b))), (.int .i64 (IntKind.wrap .i64 ((2 : Int) * b)))]).bind fun r2 =>
      some [(.int .i64 (D.toInt (nth r2 0)))])) := by kernel_rfl
theorem e_spec_DivFloor (k : Nat) (a : Int) (b : Int) : go (k + 1) spec_DivFloor [(.int .i64 (a)), (.int .i64 (b))] =
    cond (decide (b ≤ (0 : Int)))
  (some [(.int .i64 ((0 : Int)))])
  (cond (!decide (b = (0 : Int)))
    (cond (decide (a < (0 : Int)))
      (cond (!decide (b = (0 : Int)))
        (cond (!decide (Int.tmod a b = (0 : Int)))
          (some [(.int .i64 (IntKind.wrap .i64 (IntKind.wrap .i64 (Int.tdiv a b) - (1 : Int))))])
          (some [(.int .i64 (IntKind.wrap .i64 (Int.tdiv a b)))]))
        (none))
      (some [(.int .i64 (IntKind.wrap .i64 (Int.tdiv a b)))]))
    (none)) := by kernel_rfl
theorem e_impl_DivFloor (k : Nat) (a : Int) (b : Int) : go (k + 1) impl_DivFloor [(.int .i64 (a)), (.int .i64 (b))] =
    cond (decide (b ≤ (0 : Int)))
  (some [(.int .i64 ((0 : Int)))])
  (cond (!decide (b = (0 : Int)))
    (cond (!decide (b = (0 : Int)))
      (cond (decide (Int.tmod a b < (0 : Int)))
        (some [(.int .i64 (IntKind.wrap .i64 (IntKind.wrap .i64 (Int.tdiv a b) - (1 : Int))))])
        (some [(.int .i64 (IntKind.wrap .i64 (Int.tdiv a b)))]))
      (none))
    (none)) := by kernel_rfl
theorem e_impl_isQuantum (k : Nat) (a : Int) : go (k + 1) impl_isQuantum [(.int .i64 (a))] =
    (go k impl_within [(.int .i64 (a)), (.int .i64 ((1 : Int))), (.int .i64 ((1000000 : Int)))]).bind fun r0 =>
  some [(.bool (bit (nth r0 0)))] := by kernel_rfl
theorem e_impl_isMass (k : Nat) (a : Int) : go (k + 1) impl_isMass [(.int .i64 (a))] =
    (go k impl_within [(.int .i64 (a)), (.int .i64 ((0 : Int))), (.int .i64 ((10000000 : Int)))]).bind fun r0 =>
  some [(.bool (bit (nth r0 0)))] := by kernel_rfl

end Go.Proofs.Ytfgccfajhedgdaa
