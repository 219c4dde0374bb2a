/- What the functions compute, one step each. -/
import Derived.Test.YtljphlfgkdmahaaXA1
namespace Go.Proofs.Ytljphlfgkdmahaa
open Go.Ev
set_option linter.unusedVariables false
theorem e_laws_FnExactSafeDistance (k : Nat) (a0 : Int) (a1z : Bool) (a1 : List (Int × Int × Int)) (b : Int) : go (k + 1) laws_FnExactSafeDistance [(.agg [(.int .i64 (a0)), (.arr false (a1z) (.r3 (a1)))]), (.int .i64 (b))] =
  (go k laws_szMesh [(.agg [(.int .i64 (a0)), (.arr false (a1z) (.r3 (a1)))]), (.int .i64 ((1048576 : Int)))]).bind fun r0 =>
  cond (decide (D.toInt (nth r0 0) < (0 : Int)))
  (some [(.bool (true))])
  ((go k laws_toMesh [(.agg [(.int .i64 (a0)), (.arr false (a1z) (.r3 (a1)))])]).bind fun r1 =>
    (go k spec_SafeDistance [(.agg [(.int .i64 (D.toInt (D.cell 0 (nth r1 0)))), (.arr false (D.nil (D.cell 1 (nth r1 0))) (.r3 (D.r3 (D.cell 1 (nth r1 0)))))]), (.int .i64 (b))]).bind fun r2 =>
    (go k laws_toMesh [(.agg [(.int .i64 (a0)), (.arr false (a1z) (.r3 (a1)))])]).bind fun r3 =>
    (go k impl_SafeDistance [(.agg [(.int .i64 (D.toInt (D.cell 0 (nth r3 0)))), (.arr false (D.nil (D.cell 1 (nth r3 0))) (.r3 (D.r3 (D.cell 1 (nth r3 0)))))]), (.int .i64 (b))]).bind fun r4 =>
    cond (!decide (D.toInt (nth r4 0) = D.toInt (nth r2 0)))
    (some [(.bool (false))])
    ((go k laws_toMesh [(.agg [(.int .i64 (a0)), (.arr false (a1z) (.r3 (a1)))])]).bind fun r5 =>
      (go k laws_eqMesh [(.agg [(.int .i64 (D.toInt (D.cell 0 (nth r3 0)))), (.arr false (D.nil (D.cell 1 (nth r3 0))) (.r3 (D.r3 (D.cell 1 (nth r3 0)))))]), (.agg [(.int .i64 (D.toInt (D.cell 0 (nth r5 0)))), (.arr false (D.nil (D.cell 1 (nth r5 0))) (.r3 (D.r3 (D.cell 1 (nth r5 0)))))])]).bind fun r6 =>
      cond (!bit (nth r6 0))
      (some [(.bool (false))])
      (some [(.bool (true))]))) := by kernel_rfl
theorem e_laws_szMesh (k : Nat) (a0 : Int) (a1z : Bool) (a1 : List (Int × Int × Int)) (b : Int) : go (k + 1) laws_szMesh [(.agg [(.int .i64 (a0)), (.arr false (a1z) (.r3 (a1)))]), (.int .i64 (b))] =
  (go k laws_szIdS [(.arr false (a1z) (.r3 (a1))), (.int .i64 (b))]).bind fun r0 =>
  cond (decide (D.toInt (nth r0 0) < (0 : Int)))
  (some [(.int .i64 ((-1 : Int)))])
  (some [(.int .i64 (D.toInt (nth r0 0)))]) := by kernel_rfl
theorem e_spec_SafeDistance (k : Nat) (a0 : Int) (a1z : Bool) (a1 : List (Int × Int × Int)) (b : Int) : go (k + 1) spec_SafeDistance [(.agg [(.int .i64 (a0)), (.arr false (a1z) (.r3 (a1)))]), (.int .i64 (b))] =
  (go k spec_MeshOk [(.agg [(.int .i64 (a0)), (.arr false (a1z) (.r3 (a1)))])]).bind fun r0 =>
  cond (!bit (nth r0 0))
  (some [(.int .i64 ((0 : Int)))])
  ((go k spec_l01In [(.int .i64 (b)), (.int .i64 ((0 : Int))), (.int .i64 ((100000 : Int)))]).bind fun r1 =>
    cond (!bit (nth r1 0))
    (some [(.int .i64 ((0 : Int)))])
    (some [(.int .i64 (if IntKind.wrap .i64 (IntKind.wrap .i64 (Int.tdiv (IntKind.wrap .i64 (IntKind.wrap .i64 (b + (16 : Int)) - (1 : Int))) (16 : Int)) * (32 : Int)) < (128 : Int) then IntKind.wrap .i64 (IntKind.wrap .i64 (Int.tdiv (IntKind.wrap .i64 (IntKind.wrap .i64 (b + (16 : Int)) - (1 : Int))) (16 : Int)) * (32 : Int)) else (128 : Int)))])) := by kernel_rfl
theorem e_laws_toMesh (k : Nat) (a0 : Int) (a1z : Bool) (a1 : List (Int × Int × Int)) : go (k + 1) laws_toMesh [(.agg [(.int .i64 (a0)), (.arr false (a1z) (.r3 (a1)))])] =
  (go k laws_toIdS [(.arr false (a1z) (.r3 (a1)))]).bind fun r0 =>
  some [(.agg [(.int .i64 (a0)), (.arr true (D.nil (nth r0 0)) (.r3 (D.r3 (nth r0 0))))])] := by kernel_rfl
theorem e_impl_SafeDistance (k : Nat) (a0 : Int) (a1z : Bool) (a1 : List (Int × Int × Int)) (b : Int) : go (k + 1) impl_SafeDistance [(.agg [(.int .i64 (a0)), (.arr false (a1z) (.r3 (a1)))]), (.int .i64 (b))] =
  (go k impl_MeshOk [(.agg [(.int .i64 (a0)), (.arr false (a1z) (.r3 (a1)))])]).bind fun r0 =>
  cond (!bit (nth r0 0))
  (some [(.int .i64 ((0 : Int)))])
  ((go k impl_within [(.int .i64 (b)), (.int .i64 ((0 : Int))), (.int .i64 ((100000 : Int)))]).bind fun r1 =>
    cond (!bit (nth r1 0))
    (some [(.int .i64 ((0 : Int)))])
    (some [(.int .i64 (if IntKind.wrap .i64 (IntKind.wrap .i64 (IntKind.wrap .i64 (Int.tdiv (IntKind.wrap .i64 (IntKind.wrap .i64 (b + (16 : Int)) - (1 : Int))) (16 : Int)) * (2 : Int)) * (2 : Int) ^ shiftN .i64 (4 : Int)) < (128 : Int) then IntKind.wrap .i64 (IntKind.wrap .i64 (IntKind.wrap .i64 (Int.tdiv (IntKind.wrap .i64 (IntKind.wrap .i64 (b + (16 : Int)) - (1 : Int))) (16 : Int)) * (2 : Int)) * (2 : Int) ^ shiftN .i64 (4 : Int)) else (128 : Int)))])) := by kernel_rfl
theorem e_laws_eqMesh (k : Nat) (a0 : Int) (a1z : Bool) (a1 : List (Int × Int × Int)) (b0 : Int) (b1z : Bool) (b1 : List (Int × Int × Int)) : go (k + 1) laws_eqMesh [(.agg [(.int .i64 (a0)), (.arr false (a1z) (.r3 (a1)))]), (.agg [(.int .i64 (b0)), (.arr false (b1z) (.r3 (b1)))])] =
  cond (!decide (a0 = b0))
  (some [(.bool (false))])
  ((go k laws_eqIdS [(.arr false (a1z) (.r3 (a1))), (.arr false (b1z) (.r3 (b1)))]).bind fun r0 =>
    cond (!bit (nth r0 0))
    (some [(.bool (false))])
    (some [(.bool (true))])) := by kernel_rfl
theorem e_spec_l01In (k : Nat) (a : Int) (b : Int) (c : Int) : go (k + 1) spec_l01In [(.int .i64 (a)), (.int .i64 (b)), (.int .i64 (c))] =
  cond (decide (b ≤ a))
  (some [(.bool (decide (a ≤ c)))])
  (some [(.bool (false))]) := by kernel_rfl
theorem e_impl_within (k : Nat) (a : Int) (b : Int) (c : Int) : go (k + 1) impl_within [(.int .i64 (a)), (.int .i64 (b)), (.int .i64 (c))] =
  cond (decide (b ≤ a))
  (some [(.bool (decide (a ≤ c)))])
  (some [(.bool (false))]) := by kernel_rfl
theorem e_laws_szIdS (k : Nat) (az : Bool) (a : List (Int × Int × Int)) (b : Int) : go (k + 1) laws_szIdS [(.arr false (az) (.r3 (a))), (.int .i64 (b))] =
  cond (decide (IntKind.wrap .i64 (b - nI (List.length a)) < (0 : Int)))
  (some [(.int .i64 ((-1 : Int)))])
  (some [(.int .i64 (IntKind.wrap .i64 (b - nI (List.length a))))]) := by kernel_rfl
theorem e_spec_MeshOk (k : Nat) (a0 : Int) (a1z : Bool) (a1 : List (Int × Int × Int)) : go (k + 1) spec_MeshOk [(.agg [(.int .i64 (a0)), (.arr false (a1z) (.r3 (a1)))])] =
  lp k spec_MeshOk [] [] 3 k ⟨fill 45 [(1, (.ptr 1 (0) (0))), (3, (.int .i64 ((0 : Int)))), (4, (.int .i64 ((0 : Int))))], [], [(.arr false (a1z) (.r3 (a1))), (.box true [(.int .i64 (a0)), (.sl 0 none)])]⟩ := by kernel_rfl
theorem l_spec_MeshOk_3 (k n : Nat) (fu : List (Nat × Nat)) (x0 : Int) (x1 : Int) (z2 : Bool) (l3 : List (Int × Int × Int)) (x4 : Int) : lp k spec_MeshOk [] fu 3 (n + 1) ⟨fill 45 [(1, (.ptr 1 (0) (0))), (3, (.int .i64 (x0))), (4, (.int .i64 (x1)))], [], [(.arr false (z2) (.r3 (l3))), (.box true [(.int .i64 (x4)), (.sl 0 none)])]⟩ =
  cond (decide (x1 < nI (List.length l3)))
  (cond (decide ((0 : Int) ≤ x1) && decide (x1 < nI (List.length l3)))
    ((go k spec_IdOk [(.agg [(.int .i64 (Prod.fst (List.getD l3 (Int.toNat x1) zz3))), (.int .i64 (Prod.fst (Prod.snd (List.getD l3 (Int.toNat x1) zz3)))), (.int .i64 (Prod.snd (Prod.snd (List.getD l3 (Int.toNat x1) zz3))))])]).bind fun r0 =>
      cond (!bit (nth r0 0))
      (some [(.bool (false))])
      (cond (decide ((0 : Int) ≤ x1) && decide (x1 < nI (List.length l3)))
        ((go k spec_StartOf [(.agg [(.int .i64 (Prod.fst (List.getD l3 (Int.toNat x1) zz3))), (.int .i64 (Prod.fst (Prod.snd (List.getD l3 (Int.toNat x1) zz3)))), (.int .i64 (Prod.snd (Prod.snd (List.getD l3 (Int.toNat x1) zz3))))])]).bind fun r1 =>
          cond (!decide (D.toInt (nth r1 0) = x0))
          (some [(.bool (false))])
          (cond (decide ((0 : Int) ≤ x1) && decide (x1 < nI (List.length l3)))
            ((go k spec_l04End [(.agg [(.int .i64 (Prod.fst (List.getD l3 (Int.toNat x1) zz3))), (.int .i64 (Prod.fst (Prod.snd (List.getD l3 (Int.toNat x1) zz3)))), (.int .i64 (Prod.snd (Prod.snd (List.getD l3 (Int.toNat x1) zz3))))])]).bind fun r2 =>
              lp k spec_MeshOk [] fu 3 n ⟨fill 45 [(1, (.ptr 1 (0) (0))), (3, (.int .i64 (D.toInt (nth r2 0)))), (4, (.int .i64 (IntKind.wrap .i64 (x1 + (1 : Int)))))], [], [(.arr false (z2) (.r3 (l3))), (.box true [(.int .i64 (x4)), (.sl 0 none)])]⟩)
            (none)))
        (none)))
    (none))
  ((go k spec_l01In [(.int .i64 (x4)), (.int .i64 ((1 : Int))), (.int .i64 ((8 : Int)))]).bind fun r3 =>
    cond (bit (nth r3 0))
    (some [(.bool (decide (x0 = IntKind.wrap .i64 (x4 * (16 : Int)))))])
    (some [(.bool (false))])) := by kernel_rfl
theorem e_laws_toIdS (k : Nat) (az : Bool) (a : List (Int × Int × Int)) : go (k + 1) laws_toIdS [(.arr false (az) (.r3 (a)))] =
  cond (decide ((0 : Int) ≤ nI (List.length a)) && decide (nI (List.length a) ≤ nI (List.length a)) && decide (nI (List.length a) ≤ nI bigLen))
  (lp k laws_toIdS [] [] 3 k ⟨fill 23 [(0, (.sl 0 none)), (3, (.sl 1 none)), (4, (.int .i64 ((0 : Int))))], [], [(.arr false (az) (.r3 (a))), (.arr true (false) (.r3 (List.replicate (Int.toNat (nI (List.length a))) zz3)))]⟩)
  (none) := by kernel_rfl
theorem l_laws_toIdS_3 (k n : Nat) (fu : List (Nat × Nat)) (x0 : Int) (z1 : Bool) (l2 : List (Int × Int × Int)) (z3 : Bool) (l4 : List (Int × Int × Int)) : lp k laws_toIdS [] fu 3 (n + 1) ⟨fill 23 [(0, (.sl 0 none)), (3, (.sl 1 none)), (4, (.int .i64 (x0)))], [], [(.arr false (z1) (.r3 (l2))), (.arr true (z3) (.r3 (l4)))]⟩ =
  cond (decide (x0 < nI (List.length l2)))
  (cond (decide ((0 : Int) ≤ x0) && decide (x0 < nI (List.length l2)))
    ((go k laws_toId [(.agg [(.int .i64 (Prod.fst (List.getD l2 (Int.toNat x0) zz3))), (.int .i64 (Prod.fst (Prod.snd (List.getD l2 (Int.toNat x0) zz3)))), (.int .i64 (Prod.snd (Prod.snd (List.getD l2 (Int.toNat x0) zz3))))])]).bind fun r0 =>
      cond (decide ((0 : Int) ≤ x0) && decide (x0 < nI (List.length l4)))
      (lp k laws_toIdS [] fu 3 n ⟨fill 23 [(0, (.sl 0 none)), (3, (.sl 1 none)), (4, (.int .i64 (IntKind.wrap .i64 (x0 + (1 : Int)))))], [], [(.arr false (z1) (.r3 (l2))), (.arr true (z3) (.r3 (List.set l4 (Int.toNat x0) (D.toInt (D.cell 0 (nth r0 0)), D.toInt (D.cell 1 (nth r0 0)), D.toInt (D.cell 2 (nth r0 0))))))]⟩)
      (none))
    (none))
  (some [(.arr true (z3) (.r3 (l4)))]) := by kernel_rfl
theorem e_impl_MeshOk (k : Nat) (a0 : Int) (a1z : Bool) (a1 : List (Int × Int × Int)) : go (k + 1) impl_MeshOk [(.agg [(.int .i64 (a0)), (.arr false (a1z) (.r3 (a1)))])] =
  lp k impl_MeshOk [] [] 3 k ⟨fill 35 [(1, (.ptr 1 (0) (0))), (3, (.int .i64 ((0 : Int)))), (7, (.sl 0 none)), (8, (.int .i64 (nI (List.length a1)))), (9, (.int .i64 ((0 : Int))))], [], [(.arr false (a1z) (.r3 (a1))), (.box true [(.int .i64 (a0)), (.sl 0 none)])]⟩ := by kernel_rfl
theorem l_impl_MeshOk_3 (k n : Nat) (fu : List (Nat × Nat)) (x0 : Int) (x1 : Int) (x2 : Int) (z3 : Bool) (l4 : List (Int × Int × Int)) (x5 : Int) : lp k impl_MeshOk [] fu 3 (n + 1) ⟨fill 35 [(1, (.ptr 1 (0) (0))), (3, (.int .i64 (x0))), (7, (.sl 0 none)), (8, (.int .i64 (x1))), (9, (.int .i64 (x2)))], [], [(.arr false (z3) (.r3 (l4))), (.box true [(.int .i64 (x5)), (.sl 0 none)])]⟩ =
  cond (decide (x2 < x1))
  (cond (decide ((0 : Int) ≤ x2) && decide (x2 < nI (List.length l4)))
    ((go k impl_IdOk [(.agg [(.int .i64 (Prod.fst (List.getD l4 (Int.toNat x2) zz3))), (.int .i64 (Prod.fst (Prod.snd (List.getD l4 (Int.toNat x2) zz3)))), (.int .i64 (Prod.snd (Prod.snd (List.getD l4 (Int.toNat x2) zz3))))])]).bind fun r0 =>
      cond (!bit (nth r0 0))
      (some [(.bool (false))])
      ((go k impl_StartOf [(.agg [(.int .i64 (Prod.fst (List.getD l4 (Int.toNat x2) zz3))), (.int .i64 (Prod.fst (Prod.snd (List.getD l4 (Int.toNat x2) zz3)))), (.int .i64 (Prod.snd (Prod.snd (List.getD l4 (Int.toNat x2) zz3))))])]).bind fun r1 =>
        cond (!decide (D.toInt (nth r1 0) = x0))
        (some [(.bool (false))])
        ((go k impl_endOf [(.agg [(.int .i64 (Prod.fst (List.getD l4 (Int.toNat x2) zz3))), (.int .i64 (Prod.fst (Prod.snd (List.getD l4 (Int.toNat x2) zz3)))), (.int .i64 (Prod.snd (Prod.snd (List.getD l4 (Int.toNat x2) zz3))))])]).bind fun r2 =>
          lp k impl_MeshOk [] fu 3 n ⟨fill 35 [(1, (.ptr 1 (0) (0))), (3, (.int .i64 (D.toInt (nth r2 0)))), (7, (.sl 0 none)), (8, (.int .i64 (x1))), (9, (.int .i64 (IntKind.wrap .i64 (x2 + (1 : Int)))))], [], [(.arr false (z3) (.r3 (l4))), (.box true [(.int .i64 (x5)), (.sl 0 none)])]⟩)))
    (none))
  ((go k impl_within [(.int .i64 (x5)), (.int .i64 ((1 : Int))), (.int .i64 ((8 : Int)))]).bind fun r3 =>
    cond (bit (nth r3 0))
    (some [(.bool (decide (x0 = IntKind.wrap .i64 (x5 * (16 : Int)))))])
    (some [(.bool (false))])) := by kernel_rfl
theorem e_laws_eqIdS (k : Nat) (az : Bool) (a : List (Int × Int × Int)) (bz : Bool) (b : List (Int × Int × Int)) : go (k + 1) laws_eqIdS [(.arr false (az) (.r3 (a))), (.arr false (bz) (.r3 (b)))] =
  cond (!decide (nI (List.length a) = nI (List.length b)))
  (some [(.bool (false))])
  (lp k laws_eqIdS [] [] 4 k ⟨fill 27 [(0, (.sl 0 none)), (1, (.sl 1 none)), (5, (.int .i64 ((0 : Int))))], [], [(.arr false (az) (.r3 (a))), (.arr false (bz) (.r3 (b)))]⟩) := by kernel_rfl
theorem l_laws_eqIdS_4 (k n : Nat) (fu : List (Nat × Nat)) (x0 : Int) (z1 : Bool) (l2 : List (Int × Int × Int)) (z3 : Bool) (l4 : List (Int × Int × Int)) : lp k laws_eqIdS [] fu 4 (n + 1) ⟨fill 27 [(0, (.sl 0 none)), (1, (.sl 1 none)), (5, (.int .i64 (x0)))], [], [(.arr false (z1) (.r3 (l2))), (.arr false (z3) (.r3 (l4)))]⟩ =
  cond (decide (x0 < nI (List.length l2)))
  (cond (decide ((0 : Int) ≤ x0) && decide (x0 < nI (List.length l2)))
    (cond (decide ((0 : Int) ≤ x0) && decide (x0 < nI (List.length l4)))
      ((go k laws_eqId [(.agg [(.int .i64 (Prod.fst (List.getD l2 (Int.toNat x0) zz3))), (.int .i64 (Prod.fst (Prod.snd (List.getD l2 (Int.toNat x0) zz3)))), (.int .i64 (Prod.snd (Prod.snd (List.getD l2 (Int.toNat x0) zz3))))]), (.agg [(.int .i64 (Prod.fst (List.getD l4 (Int.toNat x0) zz3))), (.int .i64 (Prod.fst (Prod.snd (List.getD l4 (Int.toNat x0) zz3)))), (.int .i64 (Prod.snd (Prod.snd (List.getD l4 (Int.toNat x0) zz3))))])]).bind fun r0 =>
        cond (!bit (nth r0 0))
        (some [(.bool (false))])
        (lp k laws_eqIdS [] fu 4 n ⟨fill 27 [(0, (.sl 0 none)), (1, (.sl 1 none)), (5, (.int .i64 (IntKind.wrap .i64 (x0 + (1 : Int)))))], [], [(.arr false (z1) (.r3 (l2))), (.arr false (z3) (.r3 (l4)))]⟩))
      (none))
    (none))
  (some [(.bool (true))]) := by kernel_rfl
theorem e_spec_IdOk (k : Nat) (a0 : Int) (a1 : Int) (a2 : Int) : go (k + 1) spec_IdOk [(.agg [(.int .i64 (a0)), (.int .i64 (a1)), (.int .i64 (a2))])] =
  (go k spec_l01In [(.int .i64 (a0)), (.int .i64 ((0 : Int))), (.int .i64 ((7 : Int)))]).bind fun r0 =>
  cond (bit (nth r0 0))
  ((go k spec_l01In [(.int .i64 (a1)), (.int .i64 ((0 : Int))), (.int .i64 ((4 : Int)))]).bind fun r1 =>
    cond (bit (nth r1 0))
    (cond (decide ((0 : Int) ≤ a2))
      (cond (decide ((0 : Int) ≤ IntKind.wrap IntKind.u64 a1))
        (some [(.bool (decide (a2 < IntKind.wrap .i64 ((1 : Int) * (2 : Int) ^ shiftN .i64 (IntKind.wrap IntKind.u64 a1)))))])
        (none))
      (some [(.bool (false))]))
    (some [(.bool (false))]))
  (some [(.bool (false))]) := by kernel_rfl
theorem e_spec_StartOf (k : Nat) (a0 : Int) (a1 : Int) (a2 : Int) : go (k + 1) spec_StartOf [(.agg [(.int .i64 (a0)), (.int .i64 (a1)), (.int .i64 (a2))])] =
  (go k spec_IdOk [(.agg [(.int .i64 (a0)), (.int .i64 (a1)), (.int .i64 (a2))])]).bind fun r0 =>
  cond (!bit (nth r0 0))
  (some [(.int .i64 ((-1 : Int)))])
  ((go k spec_WidthOf [(.int .i64 (a1))]).bind fun r1 =>
    some [(.int .i64 (IntKind.wrap .i64 (IntKind.wrap .i64 (a0 * (16 : Int)) + IntKind.wrap .i64 (a2 * D.toInt (nth r1 0)))))]) := by kernel_rfl
theorem e_spec_l04End (k : Nat) (a0 : Int) (a1 : Int) (a2 : Int) : go (k + 1) spec_l04End [(.agg [(.int .i64 (a0)), (.int .i64 (a1)), (.int .i64 (a2))])] =
  (go k spec_StartOf [(.agg [(.int .i64 (a0)), (.int .i64 (a1)), (.int .i64 (a2))])]).bind fun r0 =>
  (go k spec_WidthOf [(.int .i64 (a1))]).bind fun r1 =>
  some [(.int .i64 (IntKind.wrap .i64 (D.toInt (nth r0 0) + D.toInt (nth r1 0))))] := by kernel_rfl
theorem e_laws_toId (k : Nat) (a0 : Int) (a1 : Int) (a2 : Int) : go (k + 1) laws_toId [(.agg [(.int .i64 (a0)), (.int .i64 (a1)), (.int .i64 (a2))])] =
  some [(.agg [(.int .i64 (a0)), (.int .i64 (a1)), (.int .i64 (a2))])] := by kernel_rfl
theorem e_impl_IdOk (k : Nat) (a0 : Int) (a1 : Int) (a2 : Int) : go (k + 1) impl_IdOk [(.agg [(.int .i64 (a0)), (.int .i64 (a1)), (.int .i64 (a2))])] =
  (go k impl_within [(.int .i64 (a0)), (.int .i64 ((0 : Int))), (.int .i64 ((7 : Int)))]).bind fun r0 =>
  cond (bit (nth r0 0))
  ((go k impl_isLevel [(.int .i64 (a1))]).bind fun r1 =>
    cond (bit (nth r1 0))
    (cond (decide ((0 : Int) ≤ a1))
      ((go k impl_within [(.int .i64 (a2)), (.int .i64 ((0 : Int))), (.int .i64 (IntKind.wrap .i64 (IntKind.wrap .i64 ((1 : Int) * (2 : Int) ^ shiftN .i64 a1) - (1 : Int))))]).bind fun r2 =>
        some [(.bool (bit (nth r2 0)))])
      (none))
    (some [(.bool (false))]))
  (some [(.bool (false))]) := by kernel_rfl
theorem e_impl_StartOf (k : Nat) (a0 : Int) (a1 : Int) (a2 : Int) : go (k + 1) impl_StartOf [(.agg [(.int .i64 (a0)), (.int .i64 (a1)), (.int .i64 (a2))])] =
  (go k impl_IdOk [(.agg [(.int .i64 (a0)), (.int .i64 (a1)), (.int .i64 (a2))])]).bind fun r0 =>
  cond (!bit (nth r0 0))
  (some [(.int .i64 ((-1 : Int)))])
  ((go k impl_WidthOf [(.int .i64 (a1))]).bind fun r1 =>
    some [(.int .i64 (IntKind.wrap .i64 (IntKind.wrap .i64 (a0 * (16 : Int)) + IntKind.wrap .i64 (a2 * D.toInt (nth r1 0)))))]) := by kernel_rfl
theorem e_impl_endOf (k : Nat) (a0 : Int) (a1 : Int) (a2 : Int) : go (k + 1) impl_endOf [(.agg [(.int .i64 (a0)), (.int .i64 (a1)), (.int .i64 (a2))])] =
  (go k impl_StartOf [(.agg [(.int .i64 (a0)), (.int .i64 (a1)), (.int .i64 (a2))])]).bind fun r0 =>
  (go k impl_WidthOf [(.int .i64 (a1))]).bind fun r1 =>
  some [(.int .i64 (IntKind.wrap .i64 (D.toInt (nth r0 0) + D.toInt (nth r1 0))))] := by kernel_rfl
theorem e_laws_eqId (k : Nat) (a0 : Int) (a1 : Int) (a2 : Int) (b0 : Int) (b1 : Int) (b2 : Int) : go (k + 1) laws_eqId [(.agg [(.int .i64 (a0)), (.int .i64 (a1)), (.int .i64 (a2))]), (.agg [(.int .i64 (b0)), (.int .i64 (b1)), (.int .i64 (b2))])] =
  cond (!decide (a0 = b0))
  (some [(.bool (false))])
  (cond (!decide (a1 = b1))
    (some [(.bool (false))])
    (cond (!decide (a2 = b2))
      (some [(.bool (false))])
      (some [(.bool (true))]))) := by kernel_rfl
theorem e_spec_WidthOf (k : Nat) (a : Int) : go (k + 1) spec_WidthOf [(.int .i64 (a))] =
  (go k spec_l01In [(.int .i64 (a)), (.int .i64 ((0 : Int))), (.int .i64 ((4 : Int)))]).bind fun r0 =>
  cond (!bit (nth r0 0))
  (some [(.int .i64 ((0 : Int)))])
  (cond (decide ((0 : Int) ≤ IntKind.wrap IntKind.u64 a))
    (some [(.int .i64 (Int.fdiv (16 : Int) ((2 : Int) ^ shiftN .i64 (IntKind.wrap IntKind.u64 a))))])
    (none)) := by kernel_rfl
theorem e_impl_isLevel (k : Nat) (a : Int) : go (k + 1) impl_isLevel [(.int .i64 (a))] =
  (go k impl_within [(.int .i64 (a)), (.int .i64 ((0 : Int))), (.int .i64 ((4 : Int)))]).bind fun r0 =>
  some [(.bool (bit (nth r0 0)))] := by kernel_rfl
theorem e_impl_WidthOf (k : Nat) (a : Int) : go (k + 1) impl_WidthOf [(.int .i64 (a))] =
  (go k impl_isLevel [(.int .i64 (a))]).bind fun r0 =>
  cond (!bit (nth r0 0))
  (some [(.int .i64 ((0 : Int)))])
  (cond (decide ((0 : Int) ≤ a))
    (some [(.int .i64 (Int.fdiv (16 : Int) ((2 : Int) ^ shiftN .i64 a)))])
    (none)) := by kernel_rfl
end Go.Proofs.Ytljphlfgkdmahaa
