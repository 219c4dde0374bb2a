/- Worlds that hold, one step each. -/
import Derived.Test.YtaoffhlajfkccaaGreatXA
namespace Go.Proofs.YtaoffhlajfkccaaGreat
open Go.Ev
set_option linter.unusedVariables false
theorem e_spec_WorldOk (k : Nat) (a0 : Int) (a1z : Bool) (a1 : List (Int × Int × Int)) (a2z : Bool) (a2 : List Int) (a3z : Bool) (a3 : List Int) (a4z : Bool) (a4 : List Int) (a5 : Int) (a6 : Int) (a7 : Int) (a8 : Int) (a9 : Int) (a10 : Int) (a11 : Int) (a12 : Int) (a13 : Int) (a14 : Int) (a15 : Int) (a16 : Int) (a17 : Int) (a18 : Int) (a19 : Int) (a20 : Int) : go (k + 1) spec_WorldOk [(.agg [(.int .i64 (a0)), (.arr false (a1z) (.r3 (a1))), (.arr false (a2z) (.ints .i64 (a2))), (.arr false (a3z) (.ints .i64 (a3))), (.arr false (a4z) (.ints .i64 (a4))), (.int .i64 (a5)), (.int .i64 (a6)), (.int .i64 (a7)), (.int .i64 (a8)), (.int .i64 (a9)), (.int .i64 (a10)), (.int .i64 (a11)), (.int .i64 (a12)), (.int .i64 (a13)), (.int .i64 (a14)), (.int .i64 (a15)), (.int .i64 (a16)), (.int .i64 (a17)), (.int .i64 (a18)), (.int .i64 (a19)), (.int .i64 (a20))])] =
    (go k spec_StateOk [(.agg [(.int .i64 (a0)), (.arr false (a1z) (.r3 (a1))), (.arr false (a2z) (.ints .i64 (a2))), (.arr false (a3z) (.ints .i64 (a3))), (.arr false (a4z) (.ints .i64 (a4)))])]).bind fun r0 =>
  cond (!bit (nth r0 0))
  (some [(.bool (false))])
  ((go k spec_PlanOk [(.agg [(.int .i64 (a5)), (.int .i64 (a6)), (.int .i64 (a7)), (.int .i64 (a8)), (.int .i64 (a9)), (.int .i64 (a10)), (.int .i64 (a11)), (.int .i64 (a12)), (.int .i64 (a13))])]).bind fun r1 =>
    cond (!bit (nth r1 0))
    (some [(.bool (false))])
    ((go k spec_l01In [(.int .i64 (a14)), (.int .i64 ((0 : Int))), (.int .i64 ((100000 : Int)))]).bind fun r2 =>
      cond (!bit (nth r2 0))
      (some [(.bool (false))])
      ((go k spec_l36Amount [(.int .i64 (a15))]).bind fun r3 =>
        cond (!bit (nth r3 0))
        (some [(.bool (false))])
        ((go k spec_l36Amount [(.int .i64 (a16))]).bind fun r4 =>
          cond (!bit (nth r4 0))
          (some [(.bool (false))])
          ((go k spec_l36Amount [(.int .i64 (a17))]).bind fun r5 =>
            cond (!bit (nth r5 0))
            (some [(.bool (false))])
            ((go k spec_l36Amount [(.int .i64 (a18))]).bind fun r6 =>
              cond (!bit (nth r6 0))
              (some [(.bool (false))])
              ((go k spec_l07Sum [(.arr false (a2z) (.ints .i64 (a2)))]).bind fun r7 =>
                cond (decide (IntKind.wrap .i64 (IntKind.wrap .i64 (D.toInt (nth r7 0) - a15) + a16) = a19))
                ((go k spec_l07Sum [(.arr false (a3z) (.ints .i64 (a3)))]).bind fun r8 =>
                  some [(.bool (decide (IntKind.wrap .i64 (IntKind.wrap .i64 (D.toInt (nth r8 0) - a17) + a18) = a20)))])
                (some [(.bool (false))])))))))) := by kernel_rfl
theorem e_impl_WorldOk (k : Nat) (a0 : Int) (a1z : Bool) (a1 : List (Int × Int × Int)) (a2z : Bool) (a2 : List Int) (a3z : Bool) (a3 : List Int) (a4z : Bool) (a4 : List Int) (a5 : Int) (a6 : Int) (a7 : Int) (a8 : Int) (a9 : Int) (a10 : Int) (a11 : Int) (a12 : Int) (a13 : Int) (a14 : Int) (a15 : Int) (a16 : Int) (a17 : Int) (a18 : Int) (a19 : Int) (a20 : Int) : go (k + 1) impl_WorldOk [(.agg [(.int .i64 (a0)), (.arr false (a1z) (.r3 (a1))), (.arr false (a2z) (.ints .i64 (a2))), (.arr false (a3z) (.ints .i64 (a3))), (.arr false (a4z) (.ints .i64 (a4))), (.int .i64 (a5)), (.int .i64 (a6)), (.int .i64 (a7)), (.int .i64 (a8)), (.int .i64 (a9)), (.int .i64 (a10)), (.int .i64 (a11)), (.int .i64 (a12)), (.int .i64 (a13)), (.int .i64 (a14)), (.int .i64 (a15)), (.int .i64 (a16)), (.int .i64 (a17)), (.int .i64 (a18)), (.int .i64 (a19)), (.int .i64 (a20))])] =
    (go k impl_StateOk [(.agg [(.int .i64 (a0)), (.arr false (a1z) (.r3 (a1))), (.arr false (a2z) (.ints .i64 (a2))), (.arr false (a3z) (.ints .i64 (a3))), (.arr false (a4z) (.ints .i64 (a4)))])]).bind fun r0 =>
  cond (bit (nth r0 0))
  ((go k impl_PlanOk [(.agg [(.int .i64 (a5)), (.int .i64 (a6)), (.int .i64 (a7)), (.int .i64 (a8)), (.int .i64 (a9)), (.int .i64 (a10)), (.int .i64 (a11)), (.int .i64 (a12)), (.int .i64 (a13))])]).bind fun r1 =>
    cond (bit (nth r1 0))
    ((go k impl_within [(.int .i64 (a14)), (.int .i64 ((0 : Int))), (.int .i64 ((100000 : Int)))]).bind fun r2 =>
      cond (bit (nth r2 0))
      ((go k impl_ledgerOk [(.agg [(.int .i64 (a15)), (.int .i64 (a16)), (.int .i64 (a17)), (.int .i64 (a18))])]).bind fun r3 =>
        cond (bit (nth r3 0))
        ((go k impl_sum [(.arr false (a2z) (.ints .i64 (a2)))]).bind fun r4 =>
          cond (decide (a19 = IntKind.wrap .i64 (IntKind.wrap .i64 (D.toInt (nth r4 0) - a15) + a16)))
          ((go k impl_sum [(.arr false (a3z) (.ints .i64 (a3)))]).bind fun r5 =>
            some [(.bool (decide (a20 = IntKind.wrap .i64 (IntKind.wrap .i64 (D.toInt (nth r5 0) - a17) + a18))))])
          (some [(.bool (false))]))
        (some [(.bool (false))]))
      (some [(.bool (false))]))
    (some [(.bool (false))]))
  (some [(.bool (false))]) := by kernel_rfl

end Go.Proofs.YtaoffhlajfkccaaGreat
