/- The laws of work shares, one step each. -/
import Derived.Test.YtljphlfgkdmahaaXA
namespace Go.Proofs.Ytljphlfgkdmahaa
open Go.Ev
set_option linter.unusedVariables false
theorem e_laws_FnExactWorkShare (k : Nat) (a0 : Int) (a1z : Bool) (a1 : List (Int × Int × Int)) (bz : Bool) (b : List Int) : go (k + 1) laws_FnExactWorkShare [(.agg [(.int .i64 (a0)), (.arr false (a1z) (.r3 (a1)))]), (.arr false (bz) (.ints .i64 (b)))] =
    cond (decide ((1048576 : Int) < nI (List.length b)))
  (some [(.bool (true))])
  ((go k laws_szMesh [(.agg [(.int .i64 (a0)), (.arr false (a1z) (.r3 (a1)))]), (.int .i64 ((1048576 : Int)))]).bind fun r0 =>
    cond (decide (D.toInt (nth r0 0) < (0 : Int)))
    (some [(.bool (true))])
    ((go k laws_toMesh [(.agg [(.int .i64 (a0)), (.arr false (a1z) (.r3 (a1)))])]).bind fun r1 =>
      (go k laws_toIntS [(.arr false (bz) (.ints .i64 (b)))]).bind fun r2 =>
      (go k spec_WorkShare [(.agg [(.int .i64 (D.toInt (D.cell 0 (nth r1 0)))), (.arr false (D.nil (D.cell 1 (nth r1 0))) (.r3 (D.r3 (D.cell 1 (nth r1 0)))))]), (.arr false (D.nil (nth r2 0)) (.ints .i64 (D.ints (nth r2 0))))]).bind fun r3 =>
      (go k laws_toMesh [(.agg [(.int .i64 (a0)), (.arr false (a1z) (.r3 (a1)))])]).bind fun r4 =>
      (go k laws_toIntS [(.arr false (bz) (.ints .i64 (b)))]).bind fun r5 =>
      (go k impl_WorkShare [(.agg [(.int .i64 (D.toInt (D.cell 0 (nth r4 0)))), (.arr false (D.nil (D.cell 1 (nth r4 0))) (.r3 (D.r3 (D.cell 1 (nth r4 0)))))]), (.arr false (D.nil (nth r5 0)) (.ints .i64 (D.ints (nth r5 0))))]).bind fun r6 =>
      (go k laws_eqIntS [(.arr false (D.nil (nth r6 0)) (.ints .i64 (D.ints (nth r6 0)))), (.arr false (D.nil (nth r3 0)) (.ints .i64 (D.ints (nth r3 0))))]).bind fun r7 =>
      cond (!bit (nth r7 0))
      (some [(.bool (false))])
      ((go k laws_toMesh [(.agg [(.int .i64 (a0)), (.arr false (a1z) (.r3 (a1)))])]).bind fun r8 =>
        (go k laws_eqMesh [(.agg [(.int .i64 (D.toInt (D.cell 0 (nth r4 0)))), (.arr false (D.nil (D.cell 1 (nth r4 0))) (.r3 (D.r3 (D.cell 1 (nth r4 0)))))]), (.agg [(.int .i64 (D.toInt (D.cell 0 (nth r8 0)))), (.arr false (D.nil (D.cell 1 (nth r8 0))) (.r3 (D.r3 (D.cell 1 (nth r8 0)))))])]).bind fun r9 =>
        cond (!bit (nth r9 0))
        (some [(.bool (false))])
        ((go k laws_toIntS [(.arr false (bz) (.ints .i64 (b)))]).bind fun r10 =>
          (go k laws_eqIntS [(.arr false (D.nil (nth r5 0)) (.ints .i64 (D.ints (nth r5 0)))), (.arr false (D.nil (nth r10 0)) (.ints .i64 (D.ints (nth r10 0))))]).bind fun r11 =>
          cond (!bit (nth r11 0))
          (some [(.bool (false))])
          ((go k laws_markMesh [(.agg [(.int .i64 (D.toInt (D.cell 0 (nth r4 0)))), (.arr true (D.nil (D.cell 1 (nth r4 0))) (.r3 (D.r3 (D.cell 1 (nth r4 0)))))]), (.int .i64 ((1 : Int)))]).bind fun r12 =>
            (go k laws_markIntS [(.arr true (D.nil (nth r5 0)) (.ints .i64 (D.ints (nth r5 0)))), (.int .i64 (D.toInt (nth r12 0)))]).bind fun r13 =>
            cond (decide (D.toInt (nth r13 0) < (0 : Int)))
            (some [(.bool (false))])
            ((go k laws_eqIntS [(.arr false (D.nil (nth r6 0)) (.ints .i64 (D.ints (nth r6 0)))), (.arr false (D.nil (nth r3 0)) (.ints .i64 (D.ints (nth r3 0))))]).bind fun r14 =>
              cond (!bit (nth r14 0))
              (some [(.bool (false))])
              ((go k laws_markIntS [(.arr true (D.nil (nth r6 0)) (.ints .i64 (D.ints (nth r6 0)))), (.int .i64 ((1 : Int)))]).bind fun r15 =>
                (go k laws_heldIntS [(.arr false (D.nil (nth r6 0)) (.ints .i64 (D.ints (nth r15 1)))), (.int .i64 ((1 : Int)))]).bind fun r16 =>
                cond (decide (D.toInt (nth r16 0) < (0 : Int)))
                (some [(.bool (false))])
                (cond (!decide (D.toInt (nth r16 0) = D.toInt (nth r15 0)))
                  (some [(.bool (false))])
                  ((go k laws_toMesh [(.agg [(.int .i64 (a0)), (.arr false (a1z) (.r3 (a1)))])]).bind fun r17 =>
                    (go k laws_toIntS [(.arr false (bz) (.ints .i64 (b)))]).bind fun r18 =>
                    (go k impl_WorkShare [(.agg [(.int .i64 (D.toInt (D.cell 0 (nth r17 0)))), (.arr false (D.nil (D.cell 1 (nth r17 0))) (.r3 (D.r3 (D.cell 1 (nth r17 0)))))]), (.arr false (D.nil (nth r18 0)) (.ints .i64 (D.ints (nth r18 0))))]).bind fun r19 =>
                    (go k laws_eqIntS [(.arr false (D.nil (nth r19 0)) (.ints .i64 (D.ints (nth r19 0)))), (.arr false (D.nil (nth r3 0)) (.ints .i64 (D.ints (nth r3 0))))]).bind fun r20 =>
                    cond (!bit (nth r20 0))
                    (some [(.bool (false))])
                    ((go k laws_heldIntS [(.arr false (D.nil (nth r6 0)) (.ints .i64 (D.ints (nth r15 1)))), (.int .i64 ((1 : Int)))]).bind fun r21 =>
                      cond (decide (D.toInt (nth r21 0) < (0 : Int)))
                      (some [(.bool (false))])
                      (cond (!decide (D.toInt (nth r21 0) = D.toInt (nth r15 0)))
                        (some [(.bool (false))])
                        (some [(.bool (true))])))))))))))) := by kernel_rfl
theorem e_laws_FnExactEfficiency (k : Nat) (a0 : Int) (a1z : Bool) (a1 : List (Int × Int × Int)) (bz : Bool) (b : List Int) : go (k + 1) laws_FnExactEfficiency [(.agg [(.int .i64 (a0)), (.arr false (a1z) (.r3 (a1)))]), (.arr false (bz) (.ints .i64 (b)))] =
    cond (decide ((1048576 : Int) < nI (List.length b)))
  (some [(.bool (true))])
  ((go k laws_szMesh [(.agg [(.int .i64 (a0)), (.arr false (a1z) (.r3 (a1)))]), (.int .i64 ((1048576 : Int)))]).bind fun r0 =>
    cond (decide (D.toInt (nth r0 0) < (0 : Int)))
    (some [(.bool (true))])
    ((go k laws_toMesh [(.agg [(.int .i64 (a0)), (.arr false (a1z) (.r3 (a1)))])]).bind fun r1 =>
      (go k laws_toIntS [(.arr false (bz) (.ints .i64 (b)))]).bind fun r2 =>
      (go k spec_Efficiency [(.agg [(.int .i64 (D.toInt (D.cell 0 (nth r1 0)))), (.arr false (D.nil (D.cell 1 (nth r1 0))) (.r3 (D.r3 (D.cell 1 (nth r1 0)))))]), (.arr false (D.nil (nth r2 0)) (.ints .i64 (D.ints (nth r2 0))))]).bind fun r3 =>
      (go k laws_toMesh [(.agg [(.int .i64 (a0)), (.arr false (a1z) (.r3 (a1)))])]).bind fun r4 =>
      (go k laws_toIntS [(.arr false (bz) (.ints .i64 (b)))]).bind fun r5 =>
      (go k impl_Efficiency [(.agg [(.int .i64 (D.toInt (D.cell 0 (nth r4 0)))), (.arr false (D.nil (D.cell 1 (nth r4 0))) (.r3 (D.r3 (D.cell 1 (nth r4 0)))))]), (.arr false (D.nil (nth r5 0)) (.ints .i64 (D.ints (nth r5 0))))]).bind fun r6 =>
      cond (!decide (D.toInt (nth r6 0) = D.toInt (nth r3 0)))
      (some [(.bool (false))])
      ((go k laws_toMesh [(.agg [(.int .i64 (a0)), (.arr false (a1z) (.r3 (a1)))])]).bind fun r7 =>
        (go k laws_eqMesh [(.agg [(.int .i64 (D.toInt (D.cell 0 (nth r4 0)))), (.arr false (D.nil (D.cell 1 (nth r4 0))) (.r3 (D.r3 (D.cell 1 (nth r4 0)))))]), (.agg [(.int .i64 (D.toInt (D.cell 0 (nth r7 0)))), (.arr false (D.nil (D.cell 1 (nth r7 0))) (.r3 (D.r3 (D.cell 1 (nth r7 0)))))])]).bind fun r8 =>
        cond (!bit (nth r8 0))
        (some [(.bool (false))])
        ((go k laws_toIntS [(.arr false (bz) (.ints .i64 (b)))]).bind fun r9 =>
          (go k laws_eqIntS [(.arr false (D.nil (nth r5 0)) (.ints .i64 (D.ints (nth r5 0)))), (.arr false (D.nil (nth r9 0)) (.ints .i64 (D.ints (nth r9 0))))]).bind fun r10 =>
          cond (!bit (nth r10 0))
          (some [(.bool (false))])
          (some [(.bool (true))]))))) := by kernel_rfl

end Go.Proofs.Ytljphlfgkdmahaa
