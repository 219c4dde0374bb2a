/- What the functions of meshes compute, one step each. -/
import Derived.Test.YtfgccfajhedgdaaXA
namespace Go.Proofs.Ytfgccfajhedgdaa
open Go.Ev
set_option linter.unusedVariables false
theorem e_spec_l01In (k : Nat) (a : Int) (b : Int) (c : Int) : go (k + 1) spec_l01In [(.int .i64 (a)), (.int .i64 (b)), (.int .i64 (c))] =
    cond (decide (b ≤ a))
  (some [(.bool (decide (a ≤ c)))])
  (some [(.bool (false))]) := by kernel_rfl
theorem e_impl_within (k : Nat) (a : Int) (b : Int) (c : Int) : go (k + 1) impl_within [(.int .i64 (a)), (.int .i64 (b)), (.int .i64 (c))] =
    cond (decide (b ≤ a))
  (some [(.bool (decide (a ≤ c)))])
  (some [(.bool (false))]) := by kernel_rfl
theorem e_impl_isLevel (k : Nat) (a : Int) : go (k + 1) impl_isLevel [(.int .i64 (a))] =
    (go k impl_within [(.int .i64 (a)), (.int .i64 ((0 : Int))), (.int .i64 ((4 : Int)))]).bind fun r0 =>
  some [(.bool (bit (nth r0 0)))] := by kernel_rfl
theorem e_spec_IdOk (k : Nat) (a0 : Int) (a1 : Int) (a2 : Int) : go (k + 1) spec_IdOk [(.agg [(.int .i64 (a0)), (.int .i64 (a1)), (.int .i64 (a2))])] =
    (go k spec_l01In [(.int .i64 (a0)), (.int .i64 ((0 : Int))), (.int .i64 ((7 : Int)))]).bind fun r0 =>
  cond (bit (nth r0 0))
  ((go k spec_l01In [(.int .i64 (a1)), (.int .i64 ((0 : Int))), (.int .i64 ((4 : Int)))]).bind fun r1 =>
    cond (bit (nth r1 0))
    (cond (decide ((0 : Int) ≤ a2))
      (cond (decide ((0 : Int) ≤ IntKind.wrap IntKind.u64 a1))
        (some [(.bool (decide (a2 < IntKind.wrap .i64 ((1 : Int) * (2 : Int) ^ shiftN .i64 (IntKind.wrap IntKind.u64 a1)))))])
        (none))
      (some [(.bool (false))]))
    (some [(.bool (false))]))
  (some [(.bool (false))]) := by kernel_rfl
theorem e_impl_IdOk (k : Nat) (a0 : Int) (a1 : Int) (a2 : Int) : go (k + 1) impl_IdOk [(.agg [(.int .i64 (a0)), (.int .i64 (a1)), (.int .i64 (a2))])] =
    (go k impl_within [(.int .i64 (a0)), (.int .i64 ((0 : Int))), (.int .i64 ((7 : Int)))]).bind fun r0 =>
  cond (bit (nth r0 0))
  ((go k impl_isLevel [(.int .i64 (a1))]).bind fun r1 =>
    cond (bit (nth r1 0))
    (cond (decide ((0 : Int) ≤ a1))
      ((go k impl_within [(.int .i64 (a2)), (.int .i64 ((0 : Int))), (.int .i64 (IntKind.wrap .i64 (IntKind.wrap .i64 ((1 : Int) * (2 : Int) ^ shiftN .i64 a1) - (1 : Int))))]).bind fun r2 =>
        some [(.bool (bit (nth r2 0)))])
      (none))
    (some [(.bool (false))]))
  (some [(.bool (false))]) := by kernel_rfl
theorem e_spec_WidthOf (k : Nat) (a : Int) : go (k + 1) spec_WidthOf [(.int .i64 (a))] =
    (go k spec_l01In [(.int .i64 (a)), (.int .i64 ((0 : Int))), (.int .i64 ((4 : Int)))]).bind fun r0 =>
  cond (!bit (nth r0 0))
  (some [(.int .i64 ((0 : Int)))])
  (cond (decide ((0 : Int) ≤ IntKind.wrap IntKind.u64 a))
    (some [(.int .i64 (Int.fdiv (16 : Int) ((2 : Int) ^ shiftN .i64 (IntKind.wrap IntKind.u64 a))))])
    (none)) := by kernel_rfl
theorem e_impl_WidthOf (k : Nat) (a : Int) : go (k + 1) impl_WidthOf [(.int .i64 (a))] =
    (go k impl_isLevel [(.int .i64 (a))]).bind fun r0 =>
  cond (!bit (nth r0 0))
  (some [(.int .i64 ((0 : Int)))])
  (cond (decide ((0 : Int) ≤ a))
    (some [(.int .i64 (Int.fdiv (16 : Int) ((2 : Int) ^ shiftN .i64 a)))])
    (none)) := by kernel_rfl
theorem e_spec_StartOf (k : Nat) (a0 : Int) (a1 : Int) (a2 : Int) : go (k + 1) spec_StartOf [(.agg [(.int .i64 (a0)), (.int .i64 (a1)), (.int .i64 (a2))])] =
    (go k spec_IdOk [(.agg [(.int .i64 (a0)), (.int .i64 (a1)), (.int .i64 (a2))])]).bind fun r0 =>
  cond (!bit (nth r0 0))
  (some [(.int .i64 ((-1 : Int)))])
  ((go k spec_WidthOf [(.int .i64 (a1))]).bind fun r1 =>
    some [(.int .i64 (IntKind.wrap .i64 (IntKind.wrap .i64 (a0 * (16 : Int)) + IntKind.wrap .i64 (a2 * D.toInt (nth r1 0)))))]) := by kernel_rfl
theorem e_impl_StartOf (k : Nat) (a0 : Int) (a1 : Int) (a2 : Int) : go (k + 1) impl_StartOf [(.agg [(.int .i64 (a0)), (.int .i64 (a1)), (.int .i64 (a2))])] =
    (go k impl_IdOk [(.agg [(.int .i64 (a0)), (.int .i64 (a1)), (.int .i64 (a2))])]).bind fun r0 =>
  cond (!bit (nth r0 0))
  (some [(.int .i64 ((-1 : Int)))])
  ((go k impl_WidthOf [(.int .i64 (a1))]).bind fun r1 =>
    some [(.int .i64 (IntKind.wrap .i64 (IntKind.wrap .i64 (a0 * (16 : Int)) + IntKind.wrap .i64 (a2 * D.toInt (nth r1 0)))))]) := by kernel_rfl
theorem e_spec_l04End (k : Nat) (a0 : Int) (a1 : Int) (a2 : Int) : go (k + 1) spec_l04End [(.agg [(.int .i64 (a0)), (.int .i64 (a1)), (.int .i64 (a2))])] =
    (go k spec_StartOf [(.agg [(.int .i64 (a0)), (.int .i64 (a1)), (.int .i64 (a2))])]).bind fun r0 =>
  (go k spec_WidthOf [(.int .i64 (a1))]).bind fun r1 =>
  some [(.int .i64 (IntKind.wrap .i64 (D.toInt (nth r0 0) + D.toInt (nth r1 0))))] := by kernel_rfl
theorem e_impl_endOf (k : Nat) (a0 : Int) (a1 : Int) (a2 : Int) : go (k + 1) impl_endOf [(.agg [(.int .i64 (a0)), (.int .i64 (a1)), (.int .i64 (a2))])] =
    (go k impl_StartOf [(.agg [(.int .i64 (a0)), (.int .i64 (a1)), (.int .i64 (a2))])]).bind fun r0 =>
  (go k impl_WidthOf [(.int .i64 (a1))]).bind fun r1 =>
  some [(.int .i64 (IntKind.wrap .i64 (D.toInt (nth r0 0) + D.toInt (nth r1 0))))] := by kernel_rfl
def s_spec_MeshOk_3 (x0 : Int) (x1 : Int) (z2 : Bool) (l3 : List (Int × Int × Int)) (x4 : Int) : St := ⟨fill 45 [(1, (.ptr 1 (0) (0))), (3, (.int .i64 (x0))), (4, (.int .i64 (x1)))], [], [(.arr false (z2) (.r3 (l3))), (.box true [(.int .i64 (x4)), (.sl 0 none)])]⟩
theorem e_spec_MeshOk (k : Nat) (a0 : Int) (a1z : Bool) (a1 : List (Int × Int × Int)) : go (k + 1) spec_MeshOk [(.agg [(.int .i64 (a0)), (.arr false (a1z) (.r3 (a1)))])] =
    lp k spec_MeshOk [] [] 3 k (s_spec_MeshOk_3 ((0 : Int)) ((0 : Int)) a1z a1 a0) := by kernel_rfl
theorem l_spec_MeshOk_3 (k n : Nat) (fu : List (Nat × Nat)) (x0 : Int) (x1 : Int) (z2 : Bool) (l3 : List (Int × Int × Int)) (x4 : Int) : lp k spec_MeshOk [] fu 3 (n + 1) (s_spec_MeshOk_3 x0 x1 z2 l3 x4) =
    cond (decide (x1 < nI (List.length l3)))
  (cond (decide ((0 : Int) ≤ x1) && decide (x1 < nI (List.length l3)))
    ((go k spec_IdOk [(.agg [(.int .i64 (Prod.fst (List.getD l3 (Int.toNat x1) zz3))), (.int .i64 (Prod.fst (Prod.snd (List.getD l3 (Int.toNat x1) zz3)))), (.int .i64 (Prod.snd (Prod.snd (List.getD l3 (Int.toNat x1) zz3))))])]).bind fun r0 =>
      cond (!bit (nth r0 0))
      (some [(.bool (false))])
      (cond (decide ((0 : Int) ≤ x1) && decide (x1 < nI (List.length l3)))
        ((go k spec_StartOf [(.agg [(.int .i64 (Prod.fst (List.getD l3 (Int.toNat x1) zz3))), (.int .i64 (Prod.fst (Prod.snd (List.getD l3 (Int.toNat x1) zz3)))), (.int .i64 (Prod.snd (Prod.snd (List.getD l3 (Int.toNat x1) zz3))))])]).bind fun r1 =>
          cond (!decide (D.toInt (nth r1 0) = x0))
          (some [(.bool (false))])
          (cond (decide ((0 : Int) ≤ x1) && decide (x1 < nI (List.length l3)))
            ((go k spec_l04End [(.agg [(.int .i64 (Prod.fst (List.getD l3 (Int.toNat x1) zz3))), (.int .i64 (Prod.fst (Prod.snd (List.getD l3 (Int.toNat x1) zz3)))), (.int .i64 (Prod.snd (Prod.snd (List.getD l3 (Int.toNat x1) zz3))))])]).bind fun r2 =>
              lp k spec_MeshOk [] fu 3 n (s_spec_MeshOk_3 (D.toInt (nth r2 0)) (IntKind.wrap .i64 (x1 + (1 : Int))) z2 l3 x4))
            (none)))
        (none)))
    (none))
  ((go k spec_l01In [(.int .i64 (x4)), (.int .i64 ((1 : Int))), (.int .i64 ((8 : Int)))]).bind fun r3 =>
    cond (bit (nth r3 0))
    (some [(.bool (decide (x0 = IntKind.wrap .i64 (x4 * (16 : Int)))))])
    (some [(.bool (false))])) := by kernel_rfl
def s_impl_MeshOk_3 (x0 : Int) (x1 : Int) (x2 : Int) (z3 : Bool) (l4 : List (Int × Int × Int)) (x5 : Int) : St := ⟨fill 35 [(1, (.ptr 1 (0) (0))), (3, (.int .i64 (x0))), (7, (.sl 0 none)), (8, (.int .i64 (x1))), (9, (.int .i64 (x2)))], [], [(.arr false (z3) (.r3 (l4))), (.box true [(.int .i64 (x5)), (.sl 0 none)])]⟩
theorem e_impl_MeshOk (k : Nat) (a0 : Int) (a1z : Bool) (a1 : List (Int × Int × Int)) : go (k + 1) impl_MeshOk [(.agg [(.int .i64 (a0)), (.arr false (a1z) (.r3 (a1)))])] =
    lp k impl_MeshOk [] [] 3 k (s_impl_MeshOk_3 ((0 : Int)) (nI (List.length a1)) ((0 : Int)) a1z a1 a0) := by kernel_rfl
theorem l_impl_MeshOk_3 (k n : Nat) (fu : List (Nat × Nat)) (x0 : Int) (x1 : Int) (x2 : Int) (z3 : Bool) (l4 : List (Int × Int × Int)) (x5 : Int) : lp k impl_MeshOk [] fu 3 (n + 1) (s_impl_MeshOk_3 x0 x1 x2 z3 l4 x5) =
    cond (decide (x2 < x1))
  (cond (decide ((0 : Int) ≤ x2) && decide (x2 < nI (List.length l4)))
    ((go k impl_IdOk [(.agg [(.int .i64 (Prod.fst (List.getD l4 (Int.toNat x2) zz3))), (.int .i64 (Prod.fst (Prod.snd (List.getD l4 (Int.toNat x2) zz3)))), (.int .i64 (Prod.snd (Prod.snd (List.getD l4 (Int.toNat x2) zz3))))])]).bind fun r0 =>
      cond (!bit (nth r0 0))
      (some [(.bool (false))])
      ((go k impl_StartOf [(.agg [(.int .i64 (Prod.fst (List.getD l4 (Int.toNat x2) zz3))), (.int .i64 (Prod.fst (Prod.snd (List.getD l4 (Int.toNat x2) zz3)))), (.int .i64 (Prod.snd (Prod.snd (List.getD l4 (Int.toNat x2) zz3))))])]).bind fun r1 =>
        cond (!decide (D.toInt (nth r1 0) = x0))
        (some [(.bool (false))])
        ((go k impl_endOf [(.agg [(.int .i64 (Prod.fst (List.getD l4 (Int.toNat x2) zz3))), (.int .i64 (Prod.fst (Prod.snd (List.getD l4 (Int.toNat x2) zz3)))), (.int .i64 (Prod.snd (Prod.snd (List.getD l4 (Int.toNat x2) zz3))))])]).bind fun r2 =>
          lp k impl_MeshOk [] fu 3 n (s_impl_MeshOk_3 (D.toInt (nth r2 0)) x1 (IntKind.wrap .i64 (x2 + (1 : Int))) z3 l4 x5))))
    (none))
  ((go k impl_within [(.int .i64 (x5)), (.int .i64 ((1 : Int))), (.int .i64 ((8 : Int)))]).bind fun r3 =>
    cond (bit (nth r3 0))
    (some [(.bool (decide (x0 = IntKind.wrap .i64 (x5 * (16 : Int)))))])
    (some [(.bool (false))])) := by kernel_rfl
theorem e_spec_l05Face (k : Nat) (a0 : Int) (a1z : Bool) (a1 : List (Int × Int × Int)) (b : Int) : go (k + 1) spec_l05Face [(.agg [(.int .i64 (a0)), (.arr false (a1z) (.r3 (a1)))]), (.int .i64 (b))] =
    cond (decide ((0 : Int) ≤ b) && decide (b < nI (List.length a1)))
  (cond (decide ((0 : Int) ≤ IntKind.wrap .i64 (b + (1 : Int))) && decide (IntKind.wrap .i64 (b + (1 : Int)) < nI (List.length a1)))
    (some [(.int .i64 (if Prod.fst (Prod.snd (List.getD a1 (Int.toNat (IntKind.wrap .i64 (b + (1 : Int)))) zz3)) > Prod.fst (Prod.snd (List.getD a1 (Int.toNat b) zz3)) then Prod.fst (Prod.snd (List.getD a1 (Int.toNat (IntKind.wrap .i64 (b + (1 : Int)))) zz3)) else Prod.fst (Prod.snd (List.getD a1 (Int.toNat b) zz3))))])
    (none))
  (none) := by kernel_rfl
theorem e_impl_Mesh_faceLevel (k : Nat) (a0 : Int) (a1z : Bool) (a1 : List (Int × Int × Int)) (b : Int) : go (k + 1) impl_Mesh_faceLevel [(.agg [(.int .i64 (a0)), (.arr false (a1z) (.r3 (a1)))]), (.int .i64 (b))] =
    cond (decide ((0 : Int) ≤ b) && decide (b < nI (List.length a1)))
  (cond (decide ((0 : Int) ≤ IntKind.wrap .i64 (b + (1 : Int))) && decide (IntKind.wrap .i64 (b + (1 : Int)) < nI (List.length a1)))
    (some [(.int .i64 (if Prod.fst (Prod.snd (List.getD a1 (Int.toNat (IntKind.wrap .i64 (b + (1 : Int)))) zz3)) > Prod.fst (Prod.snd (List.getD a1 (Int.toNat b) zz3)) then Prod.fst (Prod.snd (List.getD a1 (Int.toNat (IntKind.wrap .i64 (b + (1 : Int)))) zz3)) else Prod.fst (Prod.snd (List.getD a1 (Int.toNat b) zz3))))])
    (none))
  (none) := by kernel_rfl
theorem e_spec_IsActive (k : Nat) (a : Int) (b : Int) : go (k + 1) spec_IsActive [(.int .i64 (a)), (.int .i64 (b))] =
    (go k spec_WidthOf [(.int .i64 (b))]).bind fun r0 =>
  cond (decide ((0 : Int) ≤ a))
  (cond (decide ((0 : Int) < D.toInt (nth r0 0)))
    (cond (!decide (D.toInt (nth r0 0) = (0 : Int)))
      (some [(.bool (decide (Int.tmod a (D.toInt (nth r0 0)) = (0 : Int))))])
      (none))
    (some [(.bool (false))]))
  (some [(.bool (false))]) := by kernel_rfl
theorem e_impl_IsActive (k : Nat) (a : Int) (b : Int) : go (k + 1) impl_IsActive [(.int .i64 (a)), (.int .i64 (b))] =
    (go k impl_isLevel [(.int .i64 (b))]).bind fun r0 =>
  cond (bit (nth r0 0))
  (cond (decide ((0 : Int) ≤ a))
    ((go k impl_WidthOf [(.int .i64 (b))]).bind fun r1 =>
      cond (!decide (D.toInt (nth r1 0) = (0 : Int)))
      (some [(.bool (decide (Int.tmod a (D.toInt (nth r1 0)) = (0 : Int))))])
      (none))
    (some [(.bool (false))]))
  (some [(.bool (false))]) := by kernel_rfl
def s_spec_l05First_2 (x0 : Int) (z1 : Bool) (l2 : List (Int × Int × Int)) (x3 : Int) : St := ⟨fill 34 [(1, (.ptr 1 (0) (0))), (3, (.int .i64 (x0)))], [], [(.arr false (z1) (.r3 (l2))), (.box true [(.int .i64 (x3)), (.sl 0 none)])]⟩
theorem e_spec_l05First (k : Nat) (a0 : Int) (a1z : Bool) (a1 : List (Int × Int × Int)) : go (k + 1) spec_l05First [(.agg [(.int .i64 (a0)), (.arr false (a1z) (.r3 (a1)))])] =
    lp k spec_l05First [] [] 2 k (s_spec_l05First_2 ((0 : Int)) a1z a1 a0) := by kernel_rfl
theorem l_spec_l05First_2 (k n : Nat) (fu : List (Nat × Nat)) (x0 : Int) (z1 : Bool) (l2 : List (Int × Int × Int)) (x3 : Int) : lp k spec_l05First [] fu 2 (n + 1) (s_spec_l05First_2 x0 z1 l2 x3) =
    cond (decide (IntKind.wrap .i64 (x0 + (1 : Int)) < nI (List.length l2)))
  (cond (decide ((0 : Int) ≤ x0) && decide (x0 < nI (List.length l2)))
    (cond (decide ((0 : Int) ≤ IntKind.wrap .i64 (x0 + (1 : Int))) && decide (IntKind.wrap .i64 (x0 + (1 : Int)) < nI (List.length l2)))
      (cond (decide ((1 : Int) < IntKind.wrap .i64 (Prod.fst (Prod.snd (List.getD l2 (Int.toNat x0) zz3)) - Prod.fst (Prod.snd (List.getD l2 (Int.toNat (IntKind.wrap .i64 (x0 + (1 : Int)))) zz3)))))
        (some [(.int .i64 (x0))])
        (cond (decide (IntKind.wrap .i64 (Prod.fst (Prod.snd (List.getD l2 (Int.toNat x0) zz3)) - Prod.fst (Prod.snd (List.getD l2 (Int.toNat (IntKind.wrap .i64 (x0 + (1 : Int)))) zz3))) < (-1 : Int)))
          (some [(.int .i64 (x0))])
          (lp k spec_l05First [] fu 2 n (s_spec_l05First_2 (IntKind.wrap .i64 (x0 + (1 : Int))) z1 l2 x3))))
      (none))
    (none))
  (some [(.int .i64 ((-1 : Int)))]) := by kernel_rfl
def s_impl_Mesh_unbalanced_2 (x0 : Int) (x1 : Int) (z2 : Bool) (l3 : List (Int × Int × Int)) (x4 : Int) : St := ⟨fill 29 [(1, (.ptr 1 (0) (0))), (7, (.int .i64 (x0))), (8, (.int .i64 (x1)))], [], [(.arr false (z2) (.r3 (l3))), (.box true [(.int .i64 (x4)), (.sl 0 none)])]⟩
theorem e_impl_Mesh_unbalanced (k : Nat) (a0 : Int) (a1z : Bool) (a1 : List (Int × Int × Int)) : go (k + 1) impl_Mesh_unbalanced [(.agg [(.int .i64 (a0)), (.arr false (a1z) (.r3 (a1)))])] =
    lp k impl_Mesh_unbalanced [] [] 2 k (s_impl_Mesh_unbalanced_2 (IntKind.wrap .i64 (nI (List.length a1) - (1 : Int))) ((0 : Int)) a1z a1 a0) := by kernel_rfl
theorem l_impl_Mesh_unbalanced_2 (k n : Nat) (fu : List (Nat × Nat)) (x0 : Int) (x1 : Int) (z2 : Bool) (l3 : List (Int × Int × Int)) (x4 : Int) : lp k impl_Mesh_unbalanced [] fu 2 (n + 1) (s_impl_Mesh_unbalanced_2 x0 x1 z2 l3 x4) =
    cond (decide (x1 < x0))
  (cond (decide ((0 : Int) ≤ x1) && decide (x1 < nI (List.length l3)))
    (cond (decide ((0 : Int) ≤ IntKind.wrap .i64 (x1 + (1 : Int))) && decide (IntKind.wrap .i64 (x1 + (1 : Int)) < nI (List.length l3)))
      ((go k impl_absolute [(.int .i64 (IntKind.wrap .i64 (Prod.fst (Prod.snd (List.getD l3 (Int.toNat x1) zz3)) - Prod.fst (Prod.snd (List.getD l3 (Int.toNat (IntKind.wrap .i64 (x1 + (1 : Int)))) zz3)))))]).bind fun r0 =>
        cond (decide ((1 : Int) < D.toInt (nth r0 0)))
        (some [(.int .i64 (x1))])
        (lp k impl_Mesh_unbalanced [] fu 2 n (s_impl_Mesh_unbalanced_2 x0 (IntKind.wrap .i64 (x1 + (1 : Int))) z2 l3 x4)))
      (none))
    (none))
  (some [(.int .i64 ((-1 : Int)))]) := by kernel_rfl
theorem e_impl_absolute (k : Nat) (a : Int) : go (k + 1) impl_absolute [(.int .i64 (a))] =
    some [(.int .i64 (if IntKind.wrap .i64 ((0 : Int) - a) > a then IntKind.wrap .i64 ((0 : Int) - a) else a))] := by kernel_rfl
theorem e_spec_IsBalanced (k : Nat) (a0 : Int) (a1z : Bool) (a1 : List (Int × Int × Int)) : go (k + 1) spec_IsBalanced [(.agg [(.int .i64 (a0)), (.arr false (a1z) (.r3 (a1)))])] =
    (go k spec_MeshOk [(.agg [(.int .i64 (a0)), (.arr false (a1z) (.r3 (a1)))])]).bind fun r0 =>
  cond (bit (nth r0 0))
  ((go k spec_l05First [(.agg [(.int .i64 (a0)), (.arr false (a1z) (.r3 (a1)))])]).bind fun r1 =>
    some [(.bool (decide (D.toInt (nth r1 0) < (0 : Int))))])
  (some [(.bool (false))]) := by kernel_rfl
theorem e_impl_IsBalanced (k : Nat) (a0 : Int) (a1z : Bool) (a1 : List (Int × Int × Int)) : go (k + 1) impl_IsBalanced [(.agg [(.int .i64 (a0)), (.arr false (a1z) (.r3 (a1)))])] =
    (go k impl_MeshOk [(.agg [(.int .i64 (a0)), (.arr false (a1z) (.r3 (a1)))])]).bind fun r0 =>
  cond (bit (nth r0 0))
  ((go k impl_Mesh_unbalanced [(.agg [(.int .i64 (a0)), (.arr false (a1z) (.r3 (a1)))])]).bind fun r1 =>
    some [(.bool (decide (D.toInt (nth r1 0) < (0 : Int))))])
  (some [(.bool (false))]) := by kernel_rfl
theorem e_impl_Mesh_has (k : Nat) (a0 : Int) (a1z : Bool) (a1 : List (Int × Int × Int)) (b : Int) : go (k + 1) impl_Mesh_has [(.agg [(.int .i64 (a0)), (.arr false (a1z) (.r3 (a1)))]), (.int .i64 (b))] =
    (go k impl_within [(.int .i64 (b)), (.int .i64 ((0 : Int))), (.int .i64 (IntKind.wrap .i64 (nI (List.length a1) - (1 : Int))))]).bind fun r0 =>
  some [(.bool (bit (nth r0 0)))] := by kernel_rfl
def s_spec_SameMesh_4 (x0 : Int) (z1 : Bool) (l2 : List (Int × Int × Int)) (x3 : Int) (z4 : Bool) (l5 : List (Int × Int × Int)) (x6 : Int) : St := ⟨fill 38 [(2, (.ptr 1 (0) (0))), (3, (.ptr 3 (0) (0))), (5, (.int .i64 (x0)))], [], [(.arr false (z1) (.r3 (l2))), (.box true [(.int .i64 (x3)), (.sl 0 none)]), (.arr false (z4) (.r3 (l5))), (.box true [(.int .i64 (x6)), (.sl 2 none)])]⟩
theorem e_spec_SameMesh (k : Nat) (a0 : Int) (a1z : Bool) (a1 : List (Int × Int × Int)) (b0 : Int) (b1z : Bool) (b1 : List (Int × Int × Int)) : go (k + 1) spec_SameMesh [(.agg [(.int .i64 (a0)), (.arr false (a1z) (.r3 (a1)))]), (.agg [(.int .i64 (b0)), (.arr false (b1z) (.r3 (b1)))])] =
    cond (!decide (a0 = b0))
  (some [(.bool (false))])
  (cond (!decide (nI (List.length a1) = nI (List.length b1)))
    (some [(.bool (false))])
    (lp k spec_SameMesh [] [] 4 k (s_spec_SameMesh_4 ((0 : Int)) a1z a1 a0 b1z b1 b0))) := by kernel_rfl
theorem l_spec_SameMesh_4 (k n : Nat) (fu : List (Nat × Nat)) (x0 : Int) (z1 : Bool) (l2 : List (Int × Int × Int)) (x3 : Int) (z4 : Bool) (l5 : List (Int × Int × Int)) (x6 : Int) : lp k spec_SameMesh [] fu 4 (n + 1) (s_spec_SameMesh_4 x0 z1 l2 x3 z4 l5 x6) =
    cond (decide (x0 < nI (List.length l2)))
  (cond (decide ((0 : Int) ≤ x0) && decide (x0 < nI (List.length l2)))
    (cond (decide ((0 : Int) ≤ x0) && decide (x0 < nI (List.length l5)))
      (cond (!(decide (Prod.fst (List.getD l2 (Int.toNat x0) zz3) = Prod.fst (List.getD l5 (Int.toNat x0) zz3)) && (decide (Prod.fst (Prod.snd (List.getD l2 (Int.toNat x0) zz3)) = Prod.fst (Prod.snd (List.getD l5 (Int.toNat x0) zz3))) && (decide (Prod.snd (Prod.snd (List.getD l2 (Int.toNat x0) zz3)) = Prod.snd (Prod.snd (List.getD l5 (Int.toNat x0) zz3))) && true))))
        (some [(.bool (false))])
        (lp k spec_SameMesh [] fu 4 n (s_spec_SameMesh_4 (IntKind.wrap .i64 (x0 + (1 : Int))) z1 l2 x3 z4 l5 x6)))
      (none))
    (none))
  (some [(.bool (true))]) := by kernel_rfl

end Go.Proofs.Ytfgccfajhedgdaa
