/- The laws' own helpers over states, one step each. -/
import Derived.Test.YtfgccfajhedgdaaXA
namespace Go.Proofs.Ytfgccfajhedgdaa
open Go.Ev
set_option linter.unusedVariables false
theorem e_laws_toState (k : Nat) (a0 : Int) (a1z : Bool) (a1 : List (Int × Int × Int)) (a2z : Bool) (a2 : List Int) (a3z : Bool) (a3 : List Int) (a4z : Bool) (a4 : List Int) : go (k + 1) laws_toState [(.agg [(.int .i64 (a0)), (.arr false (a1z) (.r3 (a1))), (.arr false (a2z) (.ints .i64 (a2))), (.arr false (a3z) (.ints .i64 (a3))), (.arr false (a4z) (.ints .i64 (a4)))])] =
    (go k laws_toMesh [(.agg [(.int .i64 (a0)), (.arr false (a1z) (.r3 (a1)))])]).bind fun r0 =>
  (go k laws_toIntS [(.arr false (a2z) (.ints .i64 (a2)))]).bind fun r1 =>
  (go k laws_toIntS [(.arr false (a3z) (.ints .i64 (a3)))]).bind fun r2 =>
  (go k laws_toIntS [(.arr false (a4z) (.ints .i64 (a4)))]).bind fun r3 =>
  some [(.agg [(.int .i64 (D.toInt (D.cell 0 (nth r0 0)))), (.arr true (D.nil (D.cell 1 (nth r0 0))) (.r3 (D.r3 (D.cell 1 (nth r0 0))))), (.arr true (D.nil (nth r1 0)) (.ints .i64 (D.ints (nth r1 0)))), (.arr true (D.nil (nth r2 0)) (.ints .i64 (D.ints (nth r2 0)))), (.arr true (D.nil (nth r3 0)) (.ints .i64 (D.ints (nth r3 0))))])] := by kernel_rfl
theorem e_laws_szState (k : Nat) (a0 : Int) (a1z : Bool) (a1 : List (Int × Int × Int)) (a2z : Bool) (a2 : List Int) (a3z : Bool) (a3 : List Int) (a4z : Bool) (a4 : List Int) (b : Int) : go (k + 1) laws_szState [(.agg [(.int .i64 (a0)), (.arr false (a1z) (.r3 (a1))), (.arr false (a2z) (.ints .i64 (a2))), (.arr false (a3z) (.ints .i64 (a3))), (.arr false (a4z) (.ints .i64 (a4)))]), (.int .i64 (b))] =
    (go k laws_szMesh [(.agg [(.int .i64 (a0)), (.arr false (a1z) (.r3 (a1)))]), (.int .i64 (b))]).bind fun r0 =>
  cond (decide (D.toInt (nth r0 0) < (0 : Int)))
  (some [(.int .i64 ((-1 : Int)))])
  ((go k laws_szIntS [(.arr false (a2z) (.ints .i64 (a2))), (.int .i64 (D.toInt (nth r0 0)))]).bind fun r1 =>
    cond (decide (D.toInt (nth r1 0) < (0 : Int)))
    (some [(.int .i64 ((-1 : Int)))])
    ((go k laws_szIntS [(.arr false (a3z) (.ints .i64 (a3))), (.int .i64 (D.toInt (nth r1 0)))]).bind fun r2 =>
      cond (decide (D.toInt (nth r2 0) < (0 : Int)))
      (some [(.int .i64 ((-1 : Int)))])
      ((go k laws_szIntS [(.arr false (a4z) (.ints .i64 (a4))), (.int .i64 (D.toInt (nth r2 0)))]).bind fun r3 =>
        cond (decide (D.toInt (nth r3 0) < (0 : Int)))
        (some [(.int .i64 ((-1 : Int)))])
        (some [(.int .i64 (D.toInt (nth r3 0)))])))) := by kernel_rfl
theorem e_laws_eqState (k : Nat) (a0 : Int) (a1z : Bool) (a1 : List (Int × Int × Int)) (a2z : Bool) (a2 : List Int) (a3z : Bool) (a3 : List Int) (a4z : Bool) (a4 : List Int) (b0 : Int) (b1z : Bool) (b1 : List (Int × Int × Int)) (b2z : Bool) (b2 : List Int) (b3z : Bool) (b3 : List Int) (b4z : Bool) (b4 : List Int) : go (k + 1) laws_eqState [(.agg [(.int .i64 (a0)), (.arr false (a1z) (.r3 (a1))), (.arr false (a2z) (.ints .i64 (a2))), (.arr false (a3z) (.ints .i64 (a3))), (.arr false (a4z) (.ints .i64 (a4)))]), (.agg [(.int .i64 (b0)), (.arr false (b1z) (.r3 (b1))), (.arr false (b2z) (.ints .i64 (b2))), (.arr false (b3z) (.ints .i64 (b3))), (.arr false (b4z) (.ints .i64 (b4)))])] =
    (go k laws_eqMesh [(.agg [(.int .i64 (a0)), (.arr false (a1z) (.r3 (a1)))]), (.agg [(.int .i64 (b0)), (.arr false (b1z) (.r3 (b1)))])]).bind fun r0 =>
  cond (!bit (nth r0 0))
  (some [(.bool (false))])
  ((go k laws_eqIntS [(.arr false (a2z) (.ints .i64 (a2))), (.arr false (b2z) (.ints .i64 (b2)))]).bind fun r1 =>
    cond (!bit (nth r1 0))
    (some [(.bool (false))])
    ((go k laws_eqIntS [(.arr false (a3z) (.ints .i64 (a3))), (.arr false (b3z) (.ints .i64 (b3)))]).bind fun r2 =>
      cond (!bit (nth r2 0))
      (some [(.bool (false))])
      ((go k laws_eqIntS [(.arr false (a4z) (.ints .i64 (a4))), (.arr false (b4z) (.ints .i64 (b4)))]).bind fun r3 =>
        cond (!bit (nth r3 0))
        (some [(.bool (false))])
        (some [(.bool (true))])))) := by kernel_rfl
theorem e_laws_markState (k : Nat) (a0 : Int) (a1z : Bool) (a1 : List (Int × Int × Int)) (a2z : Bool) (a2 : List Int) (a3z : Bool) (a3 : List Int) (a4z : Bool) (a4 : List Int) (b : Int) : go (k + 1) laws_markState [(.agg [(.int .i64 (a0)), (.arr true (a1z) (.r3 (a1))), (.arr true (a2z) (.ints .i64 (a2))), (.arr true (a3z) (.ints .i64 (a3))), (.arr true (a4z) (.ints .i64 (a4)))]), (.int .i64 (b))] =
    (go k laws_markMesh [(.agg [(.int .i64 (a0)), (.arr true (a1z) (.r3 (a1)))]), (.int .i64 (b))]).bind fun r0 =>
  (go k laws_markIntS [(.arr true (a2z) (.ints .i64 (a2))), (.int .i64 (D.toInt (nth r0 0)))]).bind fun r1 =>
  (go k laws_markIntS [(.arr true (a3z) (.ints .i64 (a3))), (.int .i64 (D.toInt (nth r1 0)))]).bind fun r2 =>
  (go k laws_markIntS [(.arr true (a4z) (.ints .i64 (a4))), (.int .i64 (D.toInt (nth r2 0)))]).bind fun r3 =>
  some [(.int .i64 (D.toInt (nth r3 0))), (.agg [(.int .i64 (a0)), (.arr true (a1z) (.r3 (D.r3 (D.cell 1 (nth r0 1))))), (.arr true (a2z) (.ints .i64 (D.ints (nth r1 1)))), (.arr true (a3z) (.ints .i64 (D.ints (nth r2 1)))), (.arr true (a4z) (.ints .i64 (D.ints (nth r3 1))))])] := by kernel_rfl
theorem e_laws_heldState (k : Nat) (a0 : Int) (a1z : Bool) (a1 : List (Int × Int × Int)) (a2z : Bool) (a2 : List Int) (a3z : Bool) (a3 : List Int) (a4z : Bool) (a4 : List Int) (b : Int) : go (k + 1) laws_heldState [(.agg [(.int .i64 (a0)), (.arr false (a1z) (.r3 (a1))), (.arr false (a2z) (.ints .i64 (a2))), (.arr false (a3z) (.ints .i64 (a3))), (.arr false (a4z) (.ints .i64 (a4)))]), (.int .i64 (b))] =
    (go k laws_heldMesh [(.agg [(.int .i64 (a0)), (.arr false (a1z) (.r3 (a1)))]), (.int .i64 (b))]).bind fun r0 =>
  cond (decide (D.toInt (nth r0 0) < (0 : Int)))
  (some [(.int .i64 ((-1 : Int)))])
  ((go k laws_heldIntS [(.arr false (a2z) (.ints .i64 (a2))), (.int .i64 (D.toInt (nth r0 0)))]).bind fun r1 =>
    cond (decide (D.toInt (nth r1 0) < (0 : Int)))
    (some [(.int .i64 ((-1 : Int)))])
    ((go k laws_heldIntS [(.arr false (a3z) (.ints .i64 (a3))), (.int .i64 (D.toInt (nth r1 0)))]).bind fun r2 =>
      cond (decide (D.toInt (nth r2 0) < (0 : Int)))
      (some [(.int .i64 ((-1 : Int)))])
      ((go k laws_heldIntS [(.arr false (a4z) (.ints .i64 (a4))), (.int .i64 (D.toInt (nth r2 0)))]).bind fun r3 =>
        cond (decide (D.toInt (nth r3 0) < (0 : Int)))
        (some [(.int .i64 ((-1 : Int)))])
        (some [(.int .i64 (D.toInt (nth r3 0)))])))) := by kernel_rfl
theorem e_laws_heldMesh (k : Nat) (a0 : Int) (a1z : Bool) (a1 : List (Int × Int × Int)) (b : Int) : go (k + 1) laws_heldMesh [(.agg [(.int .i64 (a0)), (.arr false (a1z) (.r3 (a1)))]), (.int .i64 (b))] =
    (go k laws_heldIdS [(.arr false (a1z) (.r3 (a1))), (.int .i64 (b))]).bind fun r0 =>
  cond (decide (D.toInt (nth r0 0) < (0 : Int)))
  (some [(.int .i64 ((-1 : Int)))])
  (some [(.int .i64 (D.toInt (nth r0 0)))]) := by kernel_rfl
def s_laws_heldIdS_2 (x0 : Int) (x1 : Int) (z2 : Bool) (l3 : List (Int × Int × Int)) : St := ⟨fill 40 [(0, (.sl 0 none)), (1, (.int .i64 (x0))), (5, (.int .i64 (x1)))], [], [(.arr false (z2) (.r3 (l3)))]⟩
theorem e_laws_heldIdS (k : Nat) (az : Bool) (a : List (Int × Int × Int)) (b : Int) : go (k + 1) laws_heldIdS [(.arr false (az) (.r3 (a))), (.int .i64 (b))] =
    lp k laws_heldIdS [] [] 2 k (s_laws_heldIdS_2 b ((0 : Int)) az a) := by kernel_rfl
theorem l_laws_heldIdS_2 (k n : Nat) (fu : List (Nat × Nat)) (x0 : Int) (x1 : Int) (z2 : Bool) (l3 : List (Int × Int × Int)) : lp k laws_heldIdS [] fu 2 (n + 1) (s_laws_heldIdS_2 x0 x1 z2 l3) =
    cond (decide (x1 < nI (List.length l3)))
  (cond (decide ((0 : Int) ≤ x1) && decide (x1 < nI (List.length l3)))
    (cond (!decide (Prod.fst (List.getD l3 (Int.toNat x1) zz3) = x0))
      (some [(.int .i64 ((-1 : Int)))])
      (cond (decide ((0 : Int) ≤ x1) && decide (x1 < nI (List.length l3)))
        (cond (!decide (Prod.fst (Prod.snd (List.getD l3 (Int.toNat x1) zz3)) = IntKind.wrap .i64 (x0 + (1 : Int))))
          (some [(.int .i64 ((-1 : Int)))])
          (cond (decide ((0 : Int) ≤ x1) && decide (x1 < nI (List.length l3)))
            (cond (!decide (Prod.snd (Prod.snd (List.getD l3 (Int.toNat x1) zz3)) = IntKind.wrap .i64 (IntKind.wrap .i64 (x0 + (1 : Int)) + (1 : Int))))
              (some [(.int .i64 ((-1 : Int)))])
              (lp k laws_heldIdS [] fu 2 n (s_laws_heldIdS_2 (IntKind.wrap .i64 (IntKind.wrap .i64 (IntKind.wrap .i64 (x0 + (1 : Int)) + (1 : Int)) + (1 : Int))) (IntKind.wrap .i64 (x1 + (1 : Int))) z2 l3)))
            (none)))
        (none)))
    (none))
  (some [(.int .i64 (x0))]) := by kernel_rfl

end Go.Proofs.Ytfgccfajhedgdaa
