/- Plans and new worlds, one step each. -/
import Derived.Test.YtaoffhlajfkccaaGreatXA
namespace Go.Proofs.YtaoffhlajfkccaaGreat
open Go.Ev
set_option linter.unusedVariables false
theorem e_spec_BorderOk (k : Nat) (a0 : Int) (a1 : Int) (a2 : Int) : go (k + 1) spec_BorderOk [(.agg [(.int .i64 (a0)), (.int .i64 (a1)), (.int .i64 (a2))])] =
    (go k spec_l01In [(.int .i64 (a0)), (.int .i64 ((0 : Int))), (.int .i64 ((10000 : Int)))]).bind fun r0 =>
  cond (bit (nth r0 0))
  ((go k spec_l01In [(.int .i64 (a1)), (.int .i64 ((0 : Int))), (.int .i64 ((1000 : Int)))]).bind fun r1 =>
    cond (bit (nth r1 0))
    ((go k spec_l01In [(.int .i64 (a2)), (.int .i64 ((0 : Int))), (.int .i64 ((250 : Int)))]).bind fun r2 =>
      some [(.bool (bit (nth r2 0)))])
    (some [(.bool (false))]))
  (some [(.bool (false))]) := by kernel_rfl
theorem e_impl_BorderOk (k : Nat) (a0 : Int) (a1 : Int) (a2 : Int) : go (k + 1) impl_BorderOk [(.agg [(.int .i64 (a0)), (.int .i64 (a1)), (.int .i64 (a2))])] =
    (go k impl_within [(.int .i64 (a0)), (.int .i64 ((0 : Int))), (.int .i64 ((10000 : Int)))]).bind fun r0 =>
  cond (bit (nth r0 0))
  ((go k impl_within [(.int .i64 (a1)), (.int .i64 ((0 : Int))), (.int .i64 ((1000 : Int)))]).bind fun r1 =>
    cond (bit (nth r1 0))
    ((go k impl_within [(.int .i64 (a2)), (.int .i64 ((0 : Int))), (.int .i64 ((250 : Int)))]).bind fun r2 =>
      some [(.bool (bit (nth r2 0)))])
    (some [(.bool (false))]))
  (some [(.bool (false))]) := by kernel_rfl
theorem e_impl_isRain (k : Nat) (a : Int) : go (k + 1) impl_isRain [(.int .i64 (a))] =
    (go k impl_within [(.int .i64 (a)), (.int .i64 ((0 : Int))), (.int .i64 ((10000 : Int)))]).bind fun r0 =>
  some [(.bool (bit (nth r0 0)))] := by kernel_rfl
theorem e_impl_isRate (k : Nat) (a : Int) : go (k + 1) impl_isRate [(.int .i64 (a))] =
    (go k impl_within [(.int .i64 (a)), (.int .i64 ((0 : Int))), (.int .i64 ((1000 : Int)))]).bind fun r0 =>
  some [(.bool (bit (nth r0 0)))] := by kernel_rfl
theorem e_spec_PlanOk (k : Nat) (a0 : Int) (a1 : Int) (a2 : Int) (a3 : Int) (a4 : Int) (a5 : Int) (a6 : Int) (a7 : Int) (a8 : Int) : go (k + 1) spec_PlanOk [(.agg [(.int .i64 (a0)), (.int .i64 (a1)), (.int .i64 (a2)), (.int .i64 (a3)), (.int .i64 (a4)), (.int .i64 (a5)), (.int .i64 (a6)), (.int .i64 (a7)), (.int .i64 (a8))])] =
    (go k spec_BorderOk [(.agg [(.int .i64 (a0)), (.int .i64 (a1)), (.int .i64 (a2))])]).bind fun r0 =>
  cond (bit (nth r0 0))
  ((go k spec_l01In [(.int .i64 (a3)), (.int .i64 ((0 : Int))), (.int .i64 ((10000 : Int)))]).bind fun r1 =>
    cond (bit (nth r1 0))
    ((go k spec_l01In [(.int .i64 (a4)), (.int .i64 ((0 : Int))), (.int .i64 ((10000 : Int)))]).bind fun r2 =>
      cond (bit (nth r2 0))
      ((go k spec_l01In [(.int .i64 (a5)), (.int .i64 ((0 : Int))), (.int .i64 ((1000 : Int)))]).bind fun r3 =>
        cond (bit (nth r3 0))
        ((go k spec_l01In [(.int .i64 (a6)), (.int .i64 ((0 : Int))), (.int .i64 ((1000000 : Int)))]).bind fun r4 =>
          cond (bit (nth r4 0))
          ((go k spec_l01In [(.int .i64 (a7)), (.int .i64 ((0 : Int))), (.int .i64 ((1000000 : Int)))]).bind fun r5 =>
            cond (bit (nth r5 0))
            ((go k spec_l01In [(.int .i64 (a8)), (.int .i64 ((0 : Int))), (.int .i64 ((100 : Int)))]).bind fun r6 =>
              some [(.bool (bit (nth r6 0)))])
            (some [(.bool (false))]))
          (some [(.bool (false))]))
        (some [(.bool (false))]))
      (some [(.bool (false))]))
    (some [(.bool (false))]))
  (some [(.bool (false))]) := by kernel_rfl
theorem e_impl_PlanOk (k : Nat) (a0 : Int) (a1 : Int) (a2 : Int) (a3 : Int) (a4 : Int) (a5 : Int) (a6 : Int) (a7 : Int) (a8 : Int) : go (k + 1) impl_PlanOk [(.agg [(.int .i64 (a0)), (.int .i64 (a1)), (.int .i64 (a2)), (.int .i64 (a3)), (.int .i64 (a4)), (.int .i64 (a5)), (.int .i64 (a6)), (.int .i64 (a7)), (.int .i64 (a8))])] =
    (go k impl_BorderOk [(.agg [(.int .i64 (a0)), (.int .i64 (a1)), (.int .i64 (a2))])]).bind fun r0 =>
  cond (bit (nth r0 0))
  ((go k impl_isRain [(.int .i64 (a3))]).bind fun r1 =>
    cond (bit (nth r1 0))
    ((go k impl_isRain [(.int .i64 (a4))]).bind fun r2 =>
      cond (bit (nth r2 0))
      ((go k impl_isRate [(.int .i64 (a5))]).bind fun r3 =>
        cond (bit (nth r3 0))
        ((go k impl_within [(.int .i64 (a6)), (.int .i64 ((0 : Int))), (.int .i64 ((1000000 : Int)))]).bind fun r4 =>
          cond (bit (nth r4 0))
          ((go k impl_within [(.int .i64 (a7)), (.int .i64 ((0 : Int))), (.int .i64 ((1000000 : Int)))]).bind fun r5 =>
            cond (bit (nth r5 0))
            ((go k impl_within [(.int .i64 (a8)), (.int .i64 ((0 : Int))), (.int .i64 ((100 : Int)))]).bind fun r6 =>
              some [(.bool (bit (nth r6 0)))])
            (some [(.bool (false))]))
          (some [(.bool (false))]))
        (some [(.bool (false))]))
      (some [(.bool (false))]))
    (some [(.bool (false))]))
  (some [(.bool (false))]) := by kernel_rfl
theorem e_spec_l36Amount (k : Nat) (a : Int) : go (k + 1) spec_l36Amount [(.int .i64 (a))] =
    (go k spec_l01In [(.int .i64 (a)), (.int .i64 ((0 : Int))), (.int .i64 ((1000000000000000 : Int)))]).bind fun r0 =>
  some [(.bool (bit (nth r0 0)))] := by kernel_rfl
theorem e_impl_ledgerOk (k : Nat) (a0 : Int) (a1 : Int) (a2 : Int) (a3 : Int) : go (k + 1) impl_ledgerOk [(.agg [(.int .i64 (a0)), (.int .i64 (a1)), (.int .i64 (a2)), (.int .i64 (a3))])] =
    (go k impl_within [(.int .i64 (a0)), (.int .i64 ((0 : Int))), (.int .i64 ((1000000000000000 : Int)))]).bind fun r0 =>
  cond (bit (nth r0 0))
  ((go k impl_within [(.int .i64 (a1)), (.int .i64 ((0 : Int))), (.int .i64 ((1000000000000000 : Int)))]).bind fun r1 =>
    cond (bit (nth r1 0))
    ((go k impl_within [(.int .i64 (a2)), (.int .i64 ((0 : Int))), (.int .i64 ((1000000000000000 : Int)))]).bind fun r2 =>
      cond (bit (nth r2 0))
      ((go k impl_within [(.int .i64 (a3)), (.int .i64 ((0 : Int))), (.int .i64 ((1000000000000000 : Int)))]).bind fun r3 =>
        some [(.bool (bit (nth r3 0)))])
      (some [(.bool (false))]))
    (some [(.bool (false))]))
  (some [(.bool (false))]) := by kernel_rfl
theorem e_impl_WorldNew (k : Nat) (a0 : Int) (a1z : Bool) (a1 : List (Int × Int × Int)) (a2z : Bool) (a2 : List Int) (a3z : Bool) (a3 : List Int) (a4z : Bool) (a4 : List Int) (b0 : Int) (b1 : Int) (b2 : Int) (b3 : Int) (b4 : Int) (b5 : Int) (b6 : Int) (b7 : Int) (b8 : Int) : go (k + 1) impl_WorldNew [(.agg [(.int .i64 (a0)), (.arr false (a1z) (.r3 (a1))), (.arr false (a2z) (.ints .i64 (a2))), (.arr false (a3z) (.ints .i64 (a3))), (.arr false (a4z) (.ints .i64 (a4)))]), (.agg [(.int .i64 (b0)), (.int .i64 (b1)), (.int .i64 (b2)), (.int .i64 (b3)), (.int .i64 (b4)), (.int .i64 (b5)), (.int .i64 (b6)), (.int .i64 (b7)), (.int .i64 (b8))])] =
    (go k impl_StateOk [(.agg [(.int .i64 (a0)), (.arr false (a1z) (.r3 (a1))), (.arr false (a2z) (.ints .i64 (a2))), (.arr false (a3z) (.ints .i64 (a3))), (.arr false (a4z) (.ints .i64 (a4)))])]).bind fun r0 =>
  cond (!bit (nth r0 0))
  (some [(.agg [(.int .i64 ((0 : Int))), (.arr true (true) (.r3 ([]))), (.arr true (true) (.ints .i64 ([]))), (.arr true (true) (.ints .i64 ([]))), (.arr true (true) (.ints .i64 ([]))), (.int .i64 ((0 : Int))), (.int .i64 ((0 : Int))), (.int .i64 ((0 : Int))), (.int .i64 ((0 : Int))), (.int .i64 ((0 : Int))), (.int .i64 ((0 : Int))), (.int .i64 ((0 : Int))), (.int .i64 ((0 : Int))), (.int .i64 ((0 : Int))), (.int .i64 ((0 : Int))), (.int .i64 ((0 : Int))), (.int .i64 ((0 : Int))), (.int .i64 ((0 : Int))), (.int .i64 ((0 : Int))), (.int .i64 ((0 : Int))), (.int .i64 ((0 : Int)))]), (.bool (false))])
  ((go k impl_PlanOk [(.agg [(.int .i64 (b0)), (.int .i64 (b1)), (.int .i64 (b2)), (.int .i64 (b3)), (.int .i64 (b4)), (.int .i64 (b5)), (.int .i64 (b6)), (.int .i64 (b7)), (.int .i64 (b8))])]).bind fun r1 =>
    cond (!bit (nth r1 0))
    (some [(.agg [(.int .i64 ((0 : Int))), (.arr true (true) (.r3 ([]))), (.arr true (true) (.ints .i64 ([]))), (.arr true (true) (.ints .i64 ([]))), (.arr true (true) (.ints .i64 ([]))), (.int .i64 ((0 : Int))), (.int .i64 ((0 : Int))), (.int .i64 ((0 : Int))), (.int .i64 ((0 : Int))), (.int .i64 ((0 : Int))), (.int .i64 ((0 : Int))), (.int .i64 ((0 : Int))), (.int .i64 ((0 : Int))), (.int .i64 ((0 : Int))), (.int .i64 ((0 : Int))), (.int .i64 ((0 : Int))), (.int .i64 ((0 : Int))), (.int .i64 ((0 : Int))), (.int .i64 ((0 : Int))), (.int .i64 ((0 : Int))), (.int .i64 ((0 : Int)))]), (.bool (false))])
    ((go k impl_copyState [(.agg [(.int .i64 (a0)), (.arr false (a1z) (.r3 (a1))), (.arr false (a2z) (.ints .i64 (a2))), (.arr false (a3z) (.ints .i64 (a3))), (.arr false (a4z) (.ints .i64 (a4)))])]).bind fun r2 =>
      (go k impl_sum [(.arr false (a2z) (.ints .i64 (a2)))]).bind fun r3 =>
      (go k impl_sum [(.arr false (a3z) (.ints .i64 (a3)))]).bind fun r4 =>
      some [(.agg [(.int .i64 (D.toInt (D.cell 0 (nth r2 0)))), (.arr true (D.nil (D.cell 1 (nth r2 0))) (.r3 (D.r3 (D.cell 1 (nth r2 0))))), (.arr true (D.nil (D.cell 2 (nth r2 0))) (.ints .i64 (D.ints (D.cell 2 (nth r2 0))))), (.arr true (D.nil (D.cell 3 (nth r2 0))) (.ints .i64 (D.ints (D.cell 3 (nth r2 0))))), (.arr true (D.nil (D.cell 4 (nth r2 0))) (.ints .i64 (D.ints (D.cell 4 (nth r2 0))))), (.int .i64 (b0)), (.int .i64 (b1)), (.int .i64 (b2)), (.int .i64 (b3)), (.int .i64 (b4)), (.int .i64 (b5)), (.int .i64 (b6)), (.int .i64 (b7)), (.int .i64 (b8)), (.int .i64 ((0 : Int))), (.int .i64 ((0 : Int))), (.int .i64 ((0 : Int))), (.int .i64 ((0 : Int))), (.int .i64 ((0 : Int))), (.int .i64 (D.toInt (nth r3 0))), (.int .i64 (D.toInt (nth r4 0)))]), (.bool (true))])) := by kernel_rfl

end Go.Proofs.YtaoffhlajfkccaaGreat
