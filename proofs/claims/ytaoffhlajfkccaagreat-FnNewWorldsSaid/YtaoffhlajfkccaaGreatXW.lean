/- Comparing worlds, one step each. -/
import Derived.Test.YtaoffhlajfkccaaGreatXA
namespace Go.Proofs.YtaoffhlajfkccaaGreat
open Go.Ev
set_option linter.unusedVariables false
theorem e_spec_SameState (k : Nat) (a0 : Int) (a1z : Bool) (a1 : List (Int × Int × Int)) (a2z : Bool) (a2 : List Int) (a3z : Bool) (a3 : List Int) (a4z : Bool) (a4 : List Int) (b0 : Int) (b1z : Bool) (b1 : List (Int × Int × Int)) (b2z : Bool) (b2 : List Int) (b3z : Bool) (b3 : List Int) (b4z : Bool) (b4 : List Int) : go (k + 1) spec_SameState [(.agg [(.int .i64 (a0)), (.arr false (a1z) (.r3 (a1))), (.arr false (a2z) (.ints .i64 (a2))), (.arr false (a3z) (.ints .i64 (a3))), (.arr false (a4z) (.ints .i64 (a4)))]), (.agg [(.int .i64 (b0)), (.arr false (b1z) (.r3 (b1))), (.arr false (b2z) (.ints .i64 (b2))), (.arr false (b3z) (.ints .i64 (b3))), (.arr false (b4z) (.ints .i64 (b4)))])] =
    (go k spec_SameMesh [(.agg [(.int .i64 (a0)), (.arr false (a1z) (.r3 (a1)))]), (.agg [(.int .i64 (b0)), (.arr false (b1z) (.r3 (b1)))])]).bind fun r0 =>
  cond (bit (nth r0 0))
  ((go k spec_l24Same [(.arr false (a2z) (.ints .i64 (a2))), (.arr false (b2z) (.ints .i64 (b2)))]).bind fun r1 =>
    cond (bit (nth r1 0))
    ((go k spec_l24Same [(.arr false (a3z) (.ints .i64 (a3))), (.arr false (b3z) (.ints .i64 (b3)))]).bind fun r2 =>
      cond (bit (nth r2 0))
      ((go k spec_l24Same [(.arr false (a4z) (.ints .i64 (a4))), (.arr false (b4z) (.ints .i64 (b4)))]).bind fun r3 =>
        some [(.bool (bit (nth r3 0)))])
      (some [(.bool (false))]))
    (some [(.bool (false))]))
  (some [(.bool (false))]) := by kernel_rfl
theorem e_spec_SameWorld (k : Nat) (a0 : Int) (a1z : Bool) (a1 : List (Int × Int × Int)) (a2z : Bool) (a2 : List Int) (a3z : Bool) (a3 : List Int) (a4z : Bool) (a4 : List Int) (a5 : Int) (a6 : Int) (a7 : Int) (a8 : Int) (a9 : Int) (a10 : Int) (a11 : Int) (a12 : Int) (a13 : Int) (a14 : Int) (a15 : Int) (a16 : Int) (a17 : Int) (a18 : Int) (a19 : Int) (a20 : Int) (b0 : Int) (b1z : Bool) (b1 : List (Int × Int × Int)) (b2z : Bool) (b2 : List Int) (b3z : Bool) (b3 : List Int) (b4z : Bool) (b4 : List Int) (b5 : Int) (b6 : Int) (b7 : Int) (b8 : Int) (b9 : Int) (b10 : Int) (b11 : Int) (b12 : Int) (b13 : Int) (b14 : Int) (b15 : Int) (b16 : Int) (b17 : Int) (b18 : Int) (b19 : Int) (b20 : Int) : go (k + 1) spec_SameWorld [(.agg [(.int .i64 (a0)), (.arr false (a1z) (.r3 (a1))), (.arr false (a2z) (.ints .i64 (a2))), (.arr false (a3z) (.ints .i64 (a3))), (.arr false (a4z) (.ints .i64 (a4))), (.int .i64 (a5)), (.int .i64 (a6)), (.int .i64 (a7)), (.int .i64 (a8)), (.int .i64 (a9)), (.int .i64 (a10)), (.int .i64 (a11)), (.int .i64 (a12)), (.int .i64 (a13)), (.int .i64 (a14)), (.int .i64 (a15)), (.int .i64 (a16)), (.int .i64 (a17)), (.int .i64 (a18)), (.int .i64 (a19)), (.int .i64 (a20))]), (.agg [(.int .i64 (b0)), (.arr false (b1z) (.r3 (b1))), (.arr false (b2z) (.ints .i64 (b2))), (.arr false (b3z) (.ints .i64 (b3))), (.arr false (b4z) (.ints .i64 (b4))), (.int .i64 (b5)), (.int .i64 (b6)), (.int .i64 (b7)), (.int .i64 (b8)), (.int .i64 (b9)), (.int .i64 (b10)), (.int .i64 (b11)), (.int .i64 (b12)), (.int .i64 (b13)), (.int .i64 (b14)), (.int .i64 (b15)), (.int .i64 (b16)), (.int .i64 (b17)), (.int .i64 (b18)), (.int .i64 (b19)), (.int .i64 (b20))])] =
    (go k spec_SameState [(.agg [(.int .i64 (a0)), (.arr false (a1z) (.r3 (a1))), (.arr false (a2z) (.ints .i64 (a2))), (.arr false (a3z) (.ints .i64 (a3))), (.arr false (a4z) (.ints .i64 (a4)))]), (.agg [(.int .i64 (b0)), (.arr false (b1z) (.r3 (b1))), (.arr false (b2z) (.ints .i64 (b2))), (.arr false (b3z) (.ints .i64 (b3))), (.arr false (b4z) (.ints .i64 (b4)))])]).bind fun r0 =>
  cond (bit (nth r0 0))
  (cond (decide (a5 = b5) && (decide (a6 = b6) && (decide (a7 = b7) && true)) && (decide (a8 = b8) && (decide (a9 = b9) && (decide (a10 = b10) && (decide (a11 = b11) && (decide (a12 = b12) && (decide (a13 = b13) && true)))))))
    (cond (decide (a14 = b14))
      (cond (decide (a15 = b15) && (decide (a16 = b16) && (decide (a17 = b17) && (decide (a18 = b18) && true))))
        (cond (decide (a19 = b19))
          (some [(.bool (decide (a20 = b20)))])
          (some [(.bool (false))]))
        (some [(.bool (false))]))
      (some [(.bool (false))]))
    (some [(.bool (false))]))
  (some [(.bool (false))]) := by kernel_rfl

end Go.Proofs.YtaoffhlajfkccaaGreat
