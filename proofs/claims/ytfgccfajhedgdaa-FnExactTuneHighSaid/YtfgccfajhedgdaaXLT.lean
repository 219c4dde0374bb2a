/- The law of tuning, one step each. -/
import Derived.Test.YtfgccfajhedgdaaXA
namespace Go.Proofs.Ytfgccfajhedgdaa
open Go.Ev
set_option linter.unusedVariables false
theorem e_laws_FnExactTuneHigh (k : Nat) (a0 : Int) (a1z : Bool) (a1 : List (Int × Int × Int)) (a2z : Bool) (a2 : List Int) (a3z : Bool) (a3 : List Int) (a4z : Bool) (a4 : List Int) (b : Int) (c : Int) : go (k + 1) laws_FnExactTuneHigh [(.agg [(.int .i64 (a0)), (.arr false (a1z) (.r3 (a1))), (.arr false (a2z) (.ints .i64 (a2))), (.arr false (a3z) (.ints .i64 (a3))), (.arr false (a4z) (.ints .i64 (a4)))]), (.int .i64 (b)), (.int .i64 (c))] =
    (go k laws_szState [(.agg [(.int .i64 (a0)), (.arr false (a1z) (.r3 (a1))), (.arr false (a2z) (.ints .i64 (a2))), (.arr false (a3z) (.ints .i64 (a3))), (.arr false (a4z) (.ints .i64 (a4)))]), (.int .i64 ((1048576 : Int)))]).bind fun r0 =>
  cond (decide (D.toInt (nth r0 0) < (0 : Int)))
  (some [(.bool (true))])
  ((go k laws_toState [(.agg [(.int .i64 (a0)), (.arr false (a1z) (.r3 (a1))), (.arr false (a2z) (.ints .i64 (a2))), (.arr false (a3z) (.ints .i64 (a3))), (.arr false (a4z) (.ints .i64 (a4)))])]).bind fun r1 =>
    (go k spec_TuneHigh [(.agg [(.int .i64 (D.toInt (D.cell 0 (nth r1 0)))), (.arr false (D.nil (D.cell 1 (nth r1 0))) (.r3 (D.r3 (D.cell 1 (nth r1 0))))), (.arr false (D.nil (D.cell 2 (nth r1 0))) (.ints .i64 (D.ints (D.cell 2 (nth r1 0))))), (.arr false (D.nil (D.cell 3 (nth r1 0))) (.ints .i64 (D.ints (D.cell 3 (nth r1 0))))), (.arr false (D.nil (D.cell 4 (nth r1 0))) (.ints .i64 (D.ints (D.cell 4 (nth r1 0)))))]), (.int .i64 (b)), (.int .i64 (c))]).bind fun r2 =>
    (go k laws_toState [(.agg [(.int .i64 (a0)), (.arr false (a1z) (.r3 (a1))), (.arr false (a2z) (.ints .i64 (a2))), (.arr false (a3z) (.ints .i64 (a3))), (.arr false (a4z) (.ints .i64 (a4)))])]).bind fun r3 =>
    (go k impl_TuneHigh [(.agg [(.int .i64 (D.toInt (D.cell 0 (nth r3 0)))), (.arr false (D.nil (D.cell 1 (nth r3 0))) (.r3 (D.r3 (D.cell 1 (nth r3 0))))), (.arr false (D.nil (D.cell 2 (nth r3 0))) (.ints .i64 (D.ints (D.cell 2 (nth r3 0))))), (.arr false (D.nil (D.cell 3 (nth r3 0))) (.ints .i64 (D.ints (D.cell 3 (nth r3 0))))), (.arr false (D.nil (D.cell 4 (nth r3 0))) (.ints .i64 (D.ints (D.cell 4 (nth r3 0)))))]), (.int .i64 (b)), (.int .i64 (c))]).bind fun r4 =>
    cond (!decide (D.toInt (nth r4 0) = D.toInt (nth r2 0)))
    (some [(.bool (false))])
    ((go k laws_toState [(.agg [(.int .i64 (a0)), (.arr false (a1z) (.r3 (a1))), (.arr false (a2z) (.ints .i64 (a2))), (.arr false (a3z) (.ints .i64 (a3))), (.arr false (a4z) (.ints .i64 (a4)))])]).bind fun r5 =>
      (go k laws_eqState [(.agg [(.int .i64 (D.toInt (D.cell 0 (nth r3 0)))), (.arr false (D.nil (D.cell 1 (nth r3 0))) (.r3 (D.r3 (D.cell 1 (nth r3 0))))), (.arr false (D.nil (D.cell 2 (nth r3 0))) (.ints .i64 (D.ints (D.cell 2 (nth r3 0))))), (.arr false (D.nil (D.cell 3 (nth r3 0))) (.ints .i64 (D.ints (D.cell 3 (nth r3 0))))), (.arr false (D.nil (D.cell 4 (nth r3 0))) (.ints .i64 (D.ints (D.cell 4 (nth r3 0)))))]), (.agg [(.int .i64 (D.toInt (D.cell 0 (nth r5 0)))), (.arr false (D.nil (D.cell 1 (nth r5 0))) (.r3 (D.r3 (D.cell 1 (nth r5 0))))), (.arr false (D.nil (D.cell 2 (nth r5 0))) (.ints .i64 (D.ints (D.cell 2 (nth r5 0))))), (.arr false (D.nil (D.cell 3 (nth r5 0))) (.ints .i64 (D.ints (D.cell 3 (nth r5 0))))), (.arr false (D.nil (D.cell 4 (nth r5 0))) (.ints .i64 (D.ints (D.cell 4 (nth r5 0)))))])]).bind fun r6 =>
      cond (!bit (nth r6 0))
      (some [(.bool (false))])
      (some [(.bool (true))]))) := by kernel_rfl

end Go.Proofs.Ytfgccfajhedgdaa
