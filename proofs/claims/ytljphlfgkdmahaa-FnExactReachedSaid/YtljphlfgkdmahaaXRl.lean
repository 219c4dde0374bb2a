/- The laws of influence, one step each. -/
import Derived.Test.YtljphlfgkdmahaaXA
namespace Go.Proofs.Ytljphlfgkdmahaa
open Go.Ev
set_option linter.unusedVariables false
theorem e_laws_FnExactReached (k : Nat) (a0 : Int) (a1z : Bool) (a1 : List (Int × Int × Int)) (b : Int) (c : Int) (d : Int) : go (k + 1) laws_FnExactReached [(.agg [(.int .i64 (a0)), (.arr false (a1z) (.r3 (a1)))]), (.int .i64 (b)), (.int .i64 (c)), (.int .i64 (d))] =
    (go k laws_szMesh [(.agg [(.int .i64 (a0)), (.arr false (a1z) (.r3 (a1)))]), (.int .i64 ((1048576 : Int)))]).bind fun r0 =>
  cond (decide (D.toInt (nth r0 0) < (0 : Int)))
  (some [(.bool (true))])
  ((go k laws_toMesh [(.agg [(.int .i64 (a0)), (.arr false (a1z) (.r3 (a1)))])]).bind fun r1 =>
    (go k spec_Reached [(.agg [(.int .i64 (D.toInt (D.cell 0 (nth r1 0)))), (.arr false (D.nil (D.cell 1 (nth r1 0))) (.r3 (D.r3 (D.cell 1 (nth r1 0)))))]), (.int .i64 (b)), (.int .i64 (c)), (.int .i64 (d))]).bind fun r2 =>
    (go k laws_toMesh [(.agg [(.int .i64 (a0)), (.arr false (a1z) (.r3 (a1)))])]).bind fun r3 =>
    (go k impl_Reached [(.agg [(.int .i64 (D.toInt (D.cell 0 (nth r3 0)))), (.arr false (D.nil (D.cell 1 (nth r3 0))) (.r3 (D.r3 (D.cell 1 (nth r3 0)))))]), (.int .i64 (b)), (.int .i64 (c)), (.int .i64 (d))]).bind fun r4 =>
    (go k laws_eqBoolS [(.arr false (D.nil (nth r4 0)) (.bools (D.bools (nth r4 0)))), (.arr false (D.nil (nth r2 0)) (.bools (D.bools (nth r2 0))))]).bind fun r5 =>
    cond (!bit (nth r5 0))
    (some [(.bool (false))])
    ((go k laws_toMesh [(.agg [(.int .i64 (a0)), (.arr false (a1z) (.r3 (a1)))])]).bind fun r6 =>
      (go k laws_eqMesh [(.agg [(.int .i64 (D.toInt (D.cell 0 (nth r3 0)))), (.arr false (D.nil (D.cell 1 (nth r3 0))) (.r3 (D.r3 (D.cell 1 (nth r3 0)))))]), (.agg [(.int .i64 (D.toInt (D.cell 0 (nth r6 0)))), (.arr false (D.nil (D.cell 1 (nth r6 0))) (.r3 (D.r3 (D.cell 1 (nth r6 0)))))])]).bind fun r7 =>
      cond (!bit (nth r7 0))
      (some [(.bool (false))])
      ((go k laws_markMesh [(.agg [(.int .i64 (D.toInt (D.cell 0 (nth r3 0)))), (.arr true (D.nil (D.cell 1 (nth r3 0))) (.r3 (D.r3 (D.cell 1 (nth r3 0)))))]), (.int .i64 ((1 : Int)))]).bind fun r8 =>
        cond (decide (D.toInt (nth r8 0) < (0 : Int)))
        (some [(.bool (false))])
        ((go k laws_eqBoolS [(.arr false (D.nil (nth r4 0)) (.bools (D.bools (nth r4 0)))), (.arr false (D.nil (nth r2 0)) (.bools (D.bools (nth r2 0))))]).bind fun r9 =>
          cond (!bit (nth r9 0))
          (some [(.bool (false))])
          ((go k laws_markBoolS [(.arr true (D.nil (nth r4 0)) (.bools (D.bools (nth r4 0)))), (.int .i64 ((1 : Int)))]).bind fun r10 =>
            (go k laws_heldBoolS [(.arr false (D.nil (nth r4 0)) (.bools (D.bools (nth r10 1)))), (.int .i64 ((1 : Int)))]).bind fun r11 =>
            cond (decide (D.toInt (nth r11 0) < (0 : Int)))
            (some [(.bool (false))])
            (cond (!decide (D.toInt (nth r11 0) = D.toInt (nth r10 0)))
              (some [(.bool (false))])
              ((go k laws_toMesh [(.agg [(.int .i64 (a0)), (.arr false (a1z) (.r3 (a1)))])]).bind fun r12 =>
                (go k impl_Reached [(.agg [(.int .i64 (D.toInt (D.cell 0 (nth r12 0)))), (.arr false (D.nil (D.cell 1 (nth r12 0))) (.r3 (D.r3 (D.cell 1 (nth r12 0)))))]), (.int .i64 (b)), (.int .i64 (c)), (.int .i64 (d))]).bind fun r13 =>
                (go k laws_eqBoolS [(.arr false (D.nil (nth r13 0)) (.bools (D.bools (nth r13 0)))), (.arr false (D.nil (nth r2 0)) (.bools (D.bools (nth r2 0))))]).bind fun r14 =>
                cond (!bit (nth r14 0))
                (some [(.bool (false))])
                ((go k laws_heldBoolS [(.arr false (D.nil (nth r4 0)) (.bools (D.bools (nth r10 1)))), (.int .i64 ((1 : Int)))]).bind fun r15 =>
                  cond (decide (D.toInt (nth r15 0) < (0 : Int)))
                  (some [(.bool (false))])
                  (cond (!decide (D.toInt (nth r15 0) = D.toInt (nth r10 0)))
                    (some [(.bool (false))])
                    (some [(.bool (true))])))))))))) := by kernel_rfl
theorem e_laws_FnExactConeWidth (k : Nat) (a0 : Int) (a1z : Bool) (a1 : List (Int × Int × Int)) (b : Int) (c : Int) : go (k + 1) laws_FnExactConeWidth [(.agg [(.int .i64 (a0)), (.arr false (a1z) (.r3 (a1)))]), (.int .i64 (b)), (.int .i64 (c))] =
    (go k laws_szMesh [(.agg [(.int .i64 (a0)), (.arr false (a1z) (.r3 (a1)))]), (.int .i64 ((1048576 : Int)))]).bind fun r0 =>
  cond (decide (D.toInt (nth r0 0) < (0 : Int)))
  (some [(.bool (true))])
  ((go k laws_toMesh [(.agg [(.int .i64 (a0)), (.arr false (a1z) (.r3 (a1)))])]).bind fun r1 =>
    (go k spec_ConeWidth [(.agg [(.int .i64 (D.toInt (D.cell 0 (nth r1 0)))), (.arr false (D.nil (D.cell 1 (nth r1 0))) (.r3 (D.r3 (D.cell 1 (nth r1 0)))))]), (.int .i64 (b)), (.int .i64 (c))]).bind fun r2 =>
    (go k laws_toMesh [(.agg [(.int .i64 (a0)), (.arr false (a1z) (.r3 (a1)))])]).bind fun r3 =>
    (go k impl_ConeWidth [(.agg [(.int .i64 (D.toInt (D.cell 0 (nth r3 0)))), (.arr false (D.nil (D.cell 1 (nth r3 0))) (.r3 (D.r3 (D.cell 1 (nth r3 0)))))]), (.int .i64 (b)), (.int .i64 (c))]).bind fun r4 =>
    cond (!decide (D.toInt (nth r4 0) = D.toInt (nth r2 0)))
    (some [(.bool (false))])
    ((go k laws_toMesh [(.agg [(.int .i64 (a0)), (.arr false (a1z) (.r3 (a1)))])]).bind fun r5 =>
      (go k laws_eqMesh [(.agg [(.int .i64 (D.toInt (D.cell 0 (nth r3 0)))), (.arr false (D.nil (D.cell 1 (nth r3 0))) (.r3 (D.r3 (D.cell 1 (nth r3 0)))))]), (.agg [(.int .i64 (D.toInt (D.cell 0 (nth r5 0)))), (.arr false (D.nil (D.cell 1 (nth r5 0))) (.r3 (D.r3 (D.cell 1 (nth r5 0)))))])]).bind fun r6 =>
      cond (!bit (nth r6 0))
      (some [(.bool (false))])
      (some [(.bool (true))]))) := by kernel_rfl

end Go.Proofs.Ytljphlfgkdmahaa
