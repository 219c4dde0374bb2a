/- What the laws' own helpers compute, one step each. -/
import Derived.Test.YtfgccfajhedgdaaXA
namespace Go.Proofs.Ytfgccfajhedgdaa
open Go.Ev
set_option linter.unusedVariables false
theorem e_laws_toId (k : Nat) (a0 : Int) (a1 : Int) (a2 : Int) : go (k + 1) laws_toId [(.agg [(.int .i64 (a0)), (.int .i64 (a1)), (.int .i64 (a2))])] =
    some [(.agg [(.int .i64 (a0)), (.int .i64 (a1)), (.int .i64 (a2))])] := by kernel_rfl
def s_laws_toIdS_3 (x0 : Int) (z1 : Bool) (l2 : List (Int × Int × Int)) (z3 : Bool) (l4 : List (Int × Int × Int)) : St := ⟨fill 23 [(0, (.sl 0 none)), (3, (.sl 1 none)), (4, (.int .i64 (x0)))], [], [(.arr false (z1) (.r3 (l2))), (.arr true (z3) (.r3 (l4)))]⟩
theorem e_laws_toIdS (k : Nat) (az : Bool) (a : List (Int × Int × Int)) : go (k + 1) laws_toIdS [(.arr false (az) (.r3 (a)))] =
    cond (decide ((0 : Int) ≤ nI (List.length a)) && decide (nI (List.length a) ≤ nI (List.length a)) && decide (nI (List.length a) ≤ nI bigLen))
  (lp k laws_toIdS [] [] 3 k (s_laws_toIdS_3 ((0 : Int)) az a false (List.replicate (Int.toNat (nI (List.length a))) zz3)))
  (none) := by kernel_rfl
theorem l_laws_toIdS_3 (k n : Nat) (fu : List (Nat × Nat)) (x0 : Int) (z1 : Bool) (l2 : List (Int × Int × Int)) (z3 : Bool) (l4 : List (Int × Int × Int)) : lp k laws_toIdS [] fu 3 (n + 1) (s_laws_toIdS_3 x0 z1 l2 z3 l4) =
    cond (decide (x0 < nI (List.length l2)))
  (cond (decide ((0 : Int) ≤ x0) && decide (x0 < nI (List.length l2)))
    ((go k laws_toId [(.agg [(.int .i64 (Prod.fst (List.getD l2 (Int.toNat x0) zz3))), (.int .i64 (Prod.fst (Prod.snd (List.getD l2 (Int.toNat x0) zz3)))), (.int .i64 (Prod.snd (Prod.snd (List.getD l2 (Int.toNat x0) zz3))))])]).bind fun r0 =>
      cond (decide ((0 : Int) ≤ x0) && decide (x0 < nI (List.length l4)))
      (lp k laws_toIdS [] fu 3 n (s_laws_toIdS_3 (IntKind.wrap .i64 (x0 + (1 : Int))) z1 l2 z3 (List.set l4 (Int.toNat x0) (D.toInt (D.cell 0 (nth r0 0)), D.toInt (D.cell 1 (nth r0 0)), D.toInt (D.cell 2 (nth r0 0))))))
      (none))
    (none))
  (some [(.arr true (z3) (.r3 (l4)))]) := by kernel_rfl
theorem e_laws_toMesh (k : Nat) (a0 : Int) (a1z : Bool) (a1 : List (Int × Int × Int)) : go (k + 1) laws_toMesh [(.agg [(.int .i64 (a0)), (.arr false (a1z) (.r3 (a1)))])] =
    (go k laws_toIdS [(.arr false (a1z) (.r3 (a1)))]).bind fun r0 =>
  some [(.agg [(.int .i64 (a0)), (.arr true (D.nil (nth r0 0)) (.r3 (D.r3 (nth r0 0))))])] := by kernel_rfl
theorem e_laws_szIdS (k : Nat) (az : Bool) (a : List (Int × Int × Int)) (b : Int) : go (k + 1) laws_szIdS [(.arr false (az) (.r3 (a))), (.int .i64 (b))] =
    cond (decide (IntKind.wrap .i64 (b - nI (List.length a)) < (0 : Int)))
  (some [(.int .i64 ((-1 : Int)))])
  (some [(.int .i64 (IntKind.wrap .i64 (b - nI (List.length a))))]) := by kernel_rfl
theorem e_laws_szMesh (k : Nat) (a0 : Int) (a1z : Bool) (a1 : List (Int × Int × Int)) (b : Int) : go (k + 1) laws_szMesh [(.agg [(.int .i64 (a0)), (.arr false (a1z) (.r3 (a1)))]), (.int .i64 (b))] =
    (go k laws_szIdS [(.arr false (a1z) (.r3 (a1))), (.int .i64 (b))]).bind fun r0 =>
  cond (decide (D.toInt (nth r0 0) < (0 : Int)))
  (some [(.int .i64 ((-1 : Int)))])
  (some [(.int .i64 (D.toInt (nth r0 0)))]) := by kernel_rfl
theorem e_laws_eqId (k : Nat) (a0 : Int) (a1 : Int) (a2 : Int) (b0 : Int) (b1 : Int) (b2 : Int) : go (k + 1) laws_eqId [(.agg [(.int .i64 (a0)), (.int .i64 (a1)), (.int .i64 (a2))]), (.agg [(.int .i64 (b0)), (.int .i64 (b1)), (.int .i64 (b2))])] =
    cond (!decide (a0 = b0))
  (some [(.bool (false))])
  (cond (!decide (a1 = b1))
    (some [(.bool (false))])
    (cond (!decide (a2 = b2))
      (some [(.bool (false))])
      (some [(.bool (true))]))) := by kernel_rfl
def s_laws_eqIdS_4 (x0 : Int) (z1 : Bool) (l2 : List (Int × Int × Int)) (z3 : Bool) (l4 : List (Int × Int × Int)) : St := ⟨fill 27 [(0, (.sl 0 none)), (1, (.sl 1 none)), (5, (.int .i64 (x0)))], [], [(.arr false (z1) (.r3 (l2))), (.arr false (z3) (.r3 (l4)))]⟩
theorem e_laws_eqIdS (k : Nat) (az : Bool) (a : List (Int × Int × Int)) (bz : Bool) (b : List (Int × Int × Int)) : go (k + 1) laws_eqIdS [(.arr false (az) (.r3 (a))), (.arr false (bz) (.r3 (b)))] =
    cond (!decide (nI (List.length a) = nI (List.length b)))
  (some [(.bool (false))])
  (lp k laws_eqIdS [] [] 4 k (s_laws_eqIdS_4 ((0 : Int)) az a bz b)) := by kernel_rfl
theorem l_laws_eqIdS_4 (k n : Nat) (fu : List (Nat × Nat)) (x0 : Int) (z1 : Bool) (l2 : List (Int × Int × Int)) (z3 : Bool) (l4 : List (Int × Int × Int)) : lp k laws_eqIdS [] fu 4 (n + 1) (s_laws_eqIdS_4 x0 z1 l2 z3 l4) =
    cond (decide (x0 < nI (List.length l2)))
  (cond (decide ((0 : Int) ≤ x0) && decide (x0 < nI (List.length l2)))
    (cond (decide ((0 : Int) ≤ x0) && decide (x0 < nI (List.length l4)))
      ((go k laws_eqId [(.agg [(.int .i64 (Prod.fst (List.getD l2 (Int.toNat x0) zz3))), (.int .i64 (Prod.fst (Prod.snd (List.getD l2 (Int.toNat x0) zz3)))), (.int .i64 (Prod.snd (Prod.snd (List.getD l2 (Int.toNat x0) zz3))))]), (.agg [(.int .i64 (Prod.fst (List.getD l4 (Int.toNat x0) zz3))), (.int .i64 (Prod.fst (Prod.snd (List.getD l4 (Int.toNat x0) zz3)))), (.int .i64 (Prod.snd (Prod.snd (List.getD l4 (Int.toNat x0) zz3))))])]).bind fun r0 =>
        cond (!bit (nth r0 0))
        (some [(.bool (false))])
        (lp k laws_eqIdS [] fu 4 n (s_laws_eqIdS_4 (IntKind.wrap .i64 (x0 + (1 : Int))) z1 l2 z3 l4)))
      (none))
    (none))
  (some [(.bool (true))]) := by kernel_rfl
theorem e_laws_eqMesh (k : Nat) (a0 : Int) (a1z : Bool) (a1 : List (Int × Int × Int)) (b0 : Int) (b1z : Bool) (b1 : List (Int × Int × Int)) : go (k + 1) laws_eqMesh [(.agg [(.int .i64 (a0)), (.arr false (a1z) (.r3 (a1)))]), (.agg [(.int .i64 (b0)), (.arr false (b1z) (.r3 (b1)))])] =
    cond (!decide (a0 = b0))
  (some [(.bool (false))])
  ((go k laws_eqIdS [(.arr false (a1z) (.r3 (a1))), (.arr false (b1z) (.r3 (b1)))]).bind fun r0 =>
    cond (!bit (nth r0 0))
    (some [(.bool (false))])
    (some [(.bool (true))])) := by kernel_rfl
def s_laws_markIdS_2 (x0 : Int) (x1 : Int) (z2 : Bool) (l3 : List (Int × Int × Int)) : St := ⟨fill 34 [(0, (.sl 0 none)), (1, (.int .i64 (x0))), (5, (.int .i64 (x1)))], [(.sl 0 none)], [(.arr true (z2) (.r3 (l3)))]⟩
theorem e_laws_markIdS (k : Nat) (az : Bool) (a : List (Int × Int × Int)) (b : Int) : go (k + 1) laws_markIdS [(.arr true (az) (.r3 (a))), (.int .i64 (b))] =
    lp k laws_markIdS [(.arr true (az) (.r3 (a)))] [] 2 k (s_laws_markIdS_2 b ((0 : Int)) az a) := by kernel_rfl
theorem l_laws_markIdS_2 (k n : Nat) (fu : List (Nat × Nat)) (az : Bool) (a : List (Int × Int × Int)) (x0 : Int) (x1 : Int) (z2 : Bool) (l3 : List (Int × Int × Int)) : lp k laws_markIdS [(.arr true (az) (.r3 (a)))] fu 2 (n + 1) (s_laws_markIdS_2 x0 x1 z2 l3) =
    cond (decide (x1 < nI (List.length l3)))
  (cond (decide ((0 : Int) ≤ x1) && decide (x1 < nI (List.length l3)))
    (cond (decide ((0 : Int) ≤ x1) && decide (x1 < nI (List.length (List.set l3 (Int.toNat x1) (x0, Prod.fst (Prod.snd (List.getD l3 (Int.toNat x1) zz3)), Prod.snd (Prod.snd (List.getD l3 (Int.toNat x1) zz3)))))))
      (cond (decide ((0 : Int) ≤ x1) && decide (x1 < nI (List.length (List.set (List.set l3 (Int.toNat x1) (x0, Prod.fst (Prod.snd (List.getD l3 (Int.toNat x1) zz3)), Prod.snd (Prod.snd (List.getD l3 (Int.toNat x1) zz3)))) (Int.toNat x1) (Prod.fst (List.getD (List.set l3 (Int.toNat x1) (x0, Prod.fst (Prod.snd (List.getD l3 (Int.toNat x1) zz3)), Prod.snd (Prod.snd (List.getD l3 (Int.toNat x1) zz3)))) (Int.toNat x1) zz3), IntKind.wrap .i64 (x0 + (1 : Int)), Prod.snd (Prod.snd (List.getD (List.set l3 (Int.toNat x1) (x0, Prod.fst (Prod.snd (List.getD l3 (Int.toNat x1) zz3)), Prod.snd (Prod.snd (List.getD l3 (Int.toNat x1) zz3)))) (Int.toNat x1) zz3)))))))
        (lp k laws_markIdS [(.arr true (az) (.r3 (a)))] fu 2 n (s_laws_markIdS_2 (IntKind.wrap .i64 (IntKind.wrap .i64 (IntKind.wrap .i64 (x0 + (1 : Int)) + (1 : Int)) + (1 : Int))) (IntKind.wrap .i64 (x1 + (1 : Int))) z2 (List.set (List.set (List.set l3 (Int.toNat x1) (x0, Prod.fst (Prod.snd (List.getD l3 (Int.toNat x1) zz3)), Prod.snd (Prod.snd (List.getD l3 (Int.toNat x1) zz3)))) (Int.toNat x1) (Prod.fst (List.getD (List.set l3 (Int.toNat x1) (x0, Prod.fst (Prod.snd (List.getD l3 (Int.toNat x1) zz3)), Prod.snd (Prod.snd (List.getD l3 (Int.toNat x1) zz3)))) (Int.toNat x1) zz3), IntKind.wrap .i64 (x0 + (1 : Int)), Prod.snd (Prod.snd (List.getD (List.set l3 (Int.toNat x1) (x0, Prod.fst (Prod.snd (List.getD l3 (Int.toNat x1) zz3)), Prod.snd (Prod.snd (List.getD l3 (Int.toNat x1) zz3)))) (Int.toNat x1) zz3)))) (Int.toNat x1) (Prod.fst (List.getD (List.set (List.set l3 (Int.toNat x1) (x0, Prod.fst (Prod.snd (List.getD l3 (Int.toNat x1) zz3)), Prod.snd (Prod.snd (List.getD l3 (Int.toNat x1) zz3)))) (Int.toNat x1) (Prod.fst (List.getD (List.set l3 (Int.toNat x1) (x0, Prod.fst (Prod.snd (List.getD l3 (Int.toNat x1) zz3)), Prod.snd (Prod.snd (List.getD l3 (Int.toNat x1) zz3)))) (Int.toNat x1) zz3), IntKind.wrap .i64 (x0 + (1 : Int)), Prod.snd (Prod.snd (List.getD (List.set l3 (Int.toNat x1) (x0, Prod.fst (Prod.snd (List.getD l3 (Int.toNat x1) zz3)), Prod.snd (Prod.snd (List.getD l3 (Int.toNat x1) zz3)))) (Int.toNat x1) zz3)))) (Int.toNat x1) zz3), Prod.fst (Prod.snd (List.getD (List.set (List.set l3 (Int.toNat x1) (x0, Prod.fst (Prod.snd (List.getD l3 (Int.toNat x1) zz3)), Prod.snd (Prod.snd (List.getD l3 (Int.toNat x1) zz3)))) (Int.toNat x1) (Prod.fst (List.getD (List.set l3 (Int.toNat x1) (x0, Prod.fst (Prod.snd (List.getD l3 (Int.toNat x1) zz3)), Prod.snd (Prod.snd (List.getD l3 (Int.toNat x1) zz3)))) (Int.toNat x1) zz3), IntKind.wrap .i64 (x0 + (1 : Int)), Prod.snd (Prod.snd (List.getD (List.set l3 (Int.toNat x1) (x0, Prod.fst (Prod.snd (List.getD l3 (Int.toNat x1) zz3)), Prod.snd (Prod.snd (List.getD l3 (Int.toNat x1) zz3)))) (Int.toNat x1) zz3)))) (Int.toNat x1) zz3)), IntKind.wrap .i64 (IntKind.wrap .i64 (x0 + (1 : Int)) + (1 : Int))))))
        (none))
      (none))
    (none))
  (some [(.int .i64 (x0)), (.arr true (z2) (.r3 (l3)))]) := by kernel_rfl
theorem e_laws_markMesh (k : Nat) (a0 : Int) (a1z : Bool) (a1 : List (Int × Int × Int)) (b : Int) : go (k + 1) laws_markMesh [(.agg [(.int .i64 (a0)), (.arr true (a1z) (.r3 (a1)))]), (.int .i64 (b))] =
    (go k laws_markIdS [(.arr true (a1z) (.r3 (a1))), (.int .i64 (b))]).bind fun r0 =>
  some [(.int .i64 (D.toInt (nth r0 0))), (.agg [(.int .i64 (a0)), (.arr true (a1z) (.r3 (D.r3 (nth r0 1))))])] := by kernel_rfl
def s_laws_toIntS_3 (x0 : Int) (z1 : Bool) (l2 : List Int) (z3 : Bool) (l4 : List Int) : St := ⟨fill 22 [(0, (.sl 0 none)), (3, (.sl 1 none)), (4, (.int .i64 (x0)))], [], [(.arr false (z1) (.ints .i64 (l2))), (.arr true (z3) (.ints .i64 (l4)))]⟩
theorem e_laws_toIntS (k : Nat) (az : Bool) (a : List Int) : go (k + 1) laws_toIntS [(.arr false (az) (.ints .i64 (a)))] =
    cond (decide ((0 : Int) ≤ nI (List.length a)) && decide (nI (List.length a) ≤ nI (List.length a)) && decide (nI (List.length a) ≤ nI bigLen))
  (lp k laws_toIntS [] [] 3 k (s_laws_toIntS_3 ((0 : Int)) az a false (List.replicate (Int.toNat (nI (List.length a))) (0 : Int))))
  (none) := by kernel_rfl
theorem l_laws_toIntS_3 (k n : Nat) (fu : List (Nat × Nat)) (x0 : Int) (z1 : Bool) (l2 : List Int) (z3 : Bool) (l4 : List Int) : lp k laws_toIntS [] fu 3 (n + 1) (s_laws_toIntS_3 x0 z1 l2 z3 l4) =
    cond (decide (x0 < nI (List.length l2)))
  (cond (decide ((0 : Int) ≤ x0) && decide (x0 < nI (List.length l2)))
    (cond (decide ((0 : Int) ≤ x0) && decide (x0 < nI (List.length l4)))
      (lp k laws_toIntS [] fu 3 n (s_laws_toIntS_3 (IntKind.wrap .i64 (x0 + (1 : Int))) z1 l2 z3 (List.set l4 (Int.toNat x0) (List.getD l2 (Int.toNat x0) (0 : Int)))))
      (none))
    (none))
  (some [(.arr true (z3) (.ints .i64 (l4)))]) := by kernel_rfl
theorem e_laws_szIntS (k : Nat) (az : Bool) (a : List Int) (b : Int) : go (k + 1) laws_szIntS [(.arr false (az) (.ints .i64 (a))), (.int .i64 (b))] =
    cond (decide (IntKind.wrap .i64 (b - nI (List.length a)) < (0 : Int)))
  (some [(.int .i64 ((-1 : Int)))])
  (some [(.int .i64 (IntKind.wrap .i64 (b - nI (List.length a))))]) := by kernel_rfl
def s_laws_eqIntS_4 (x0 : Int) (z1 : Bool) (l2 : List Int) (z3 : Bool) (l4 : List Int) : St := ⟨fill 26 [(0, (.sl 0 none)), (1, (.sl 1 none)), (5, (.int .i64 (x0)))], [], [(.arr false (z1) (.ints .i64 (l2))), (.arr false (z3) (.ints .i64 (l4)))]⟩
theorem e_laws_eqIntS (k : Nat) (az : Bool) (a : List Int) (bz : Bool) (b : List Int) : go (k + 1) laws_eqIntS [(.arr false (az) (.ints .i64 (a))), (.arr false (bz) (.ints .i64 (b)))] =
    cond (!decide (nI (List.length a) = nI (List.length b)))
  (some [(.bool (false))])
  (lp k laws_eqIntS [] [] 4 k (s_laws_eqIntS_4 ((0 : Int)) az a bz b)) := by kernel_rfl
theorem l_laws_eqIntS_4 (k n : Nat) (fu : List (Nat × Nat)) (x0 : Int) (z1 : Bool) (l2 : List Int) (z3 : Bool) (l4 : List Int) : lp k laws_eqIntS [] fu 4 (n + 1) (s_laws_eqIntS_4 x0 z1 l2 z3 l4) =
    cond (decide (x0 < nI (List.length l2)))
  (cond (decide ((0 : Int) ≤ x0) && decide (x0 < nI (List.length l2)))
    (cond (decide ((0 : Int) ≤ x0) && decide (x0 < nI (List.length l4)))
      (cond (!decide (List.getD l2 (Int.toNat x0) (0 : Int) = List.getD l4 (Int.toNat x0) (0 : Int)))
        (some [(.bool (false))])
        (lp k laws_eqIntS [] fu 4 n (s_laws_eqIntS_4 (IntKind.wrap .i64 (x0 + (1 : Int))) z1 l2 z3 l4)))
      (none))
    (none))
  (some [(.bool (true))]) := by kernel_rfl
def s_laws_markIntS_2 (x0 : Int) (x1 : Int) (z2 : Bool) (l3 : List Int) : St := ⟨fill 19 [(0, (.sl 0 none)), (1, (.int .i64 (x0))), (5, (.int .i64 (x1)))], [(.sl 0 none)], [(.arr true (z2) (.ints .i64 (l3)))]⟩
theorem e_laws_markIntS (k : Nat) (az : Bool) (a : List Int) (b : Int) : go (k + 1) laws_markIntS [(.arr true (az) (.ints .i64 (a))), (.int .i64 (b))] =
    lp k laws_markIntS [(.arr true (az) (.ints .i64 (a)))] [] 2 k (s_laws_markIntS_2 b ((0 : Int)) az a) := by kernel_rfl
theorem l_laws_markIntS_2 (k n : Nat) (fu : List (Nat × Nat)) (az : Bool) (a : List Int) (x0 : Int) (x1 : Int) (z2 : Bool) (l3 : List Int) : lp k laws_markIntS [(.arr true (az) (.ints .i64 (a)))] fu 2 (n + 1) (s_laws_markIntS_2 x0 x1 z2 l3) =
    cond (decide (x1 < nI (List.length l3)))
  (cond (decide ((0 : Int) ≤ x1) && decide (x1 < nI (List.length l3)))
    (lp k laws_markIntS [(.arr true (az) (.ints .i64 (a)))] fu 2 n (s_laws_markIntS_2 (IntKind.wrap .i64 (x0 + (1 : Int))) (IntKind.wrap .i64 (x1 + (1 : Int))) z2 (List.set l3 (Int.toNat x1) x0)))
    (none))
  (some [(.int .i64 (x0)), (.arr true (z2) (.ints .i64 (l3)))]) := by kernel_rfl
def s_laws_heldIntS_2 (x0 : Int) (x1 : Int) (z2 : Bool) (l3 : List Int) : St := ⟨fill 21 [(0, (.sl 0 none)), (1, (.int .i64 (x0))), (5, (.int .i64 (x1)))], [], [(.arr false (z2) (.ints .i64 (l3)))]⟩
theorem e_laws_heldIntS (k : Nat) (az : Bool) (a : List Int) (b : Int) : go (k + 1) laws_heldIntS [(.arr false (az) (.ints .i64 (a))), (.int .i64 (b))] =
    lp k laws_heldIntS [] [] 2 k (s_laws_heldIntS_2 b ((0 : Int)) az a) := by kernel_rfl
theorem l_laws_heldIntS_2 (k n : Nat) (fu : List (Nat × Nat)) (x0 : Int) (x1 : Int) (z2 : Bool) (l3 : List Int) : lp k laws_heldIntS [] fu 2 (n + 1) (s_laws_heldIntS_2 x0 x1 z2 l3) =
    cond (decide (x1 < nI (List.length l3)))
  (cond (decide ((0 : Int) ≤ x1) && decide (x1 < nI (List.length l3)))
    (cond (!decide (List.getD l3 (Int.toNat x1) (0 : Int) = x0))
      (some [(.int .i64 ((-1 : Int)))])
      (lp k laws_heldIntS [] fu 2 n (s_laws_heldIntS_2 (IntKind.wrap .i64 (x0 + (1 : Int))) (IntKind.wrap .i64 (x1 + (1 : Int))) z2 l3)))
    (none))
  (some [(.int .i64 (x0))]) := by kernel_rfl

end Go.Proofs.Ytfgccfajhedgdaa
