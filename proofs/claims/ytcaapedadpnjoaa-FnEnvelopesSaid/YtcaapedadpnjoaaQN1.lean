/- What the program's functions compute, and plain facts of it (part 1). No condition beyond those that each theorem states. -/
import Derived.Test.YtcaapedadpnjoaaXA
import Derived.ProofKit
set_option linter.unusedVariables false
set_option linter.unusedSimpArgs false
section
namespace Go.Proofs.Ytcaapedadpnjoaa
open Go.Ev
theorem qhs {x : Int} (h : -9223372036854775808 ≤ x) (h' : x ≤ 9223372036854775807) : IntKind.wrap .i64 x = x := by rw [IntKind.wrap_i64]; omega
theorem qht {x : Int} (h : 0 ≤ x) (h' : x ≤ 9223372036854775807) : IntKind.wrap .u64 x = x := by rw [IntKind.wrap_u64]; omega
theorem nth0 (d0 : D) (l : List D) : nth (d0 :: l) 0 = d0 := Eq.trans rfl rfl
theorem nth1 (d0 d1 : D) (l : List D) : nth (d0 :: d1 :: l) 1 = d1 := Eq.trans rfl rfl
theorem nth2 (d0 d1 d2 : D) (l : List D) : nth (d0 :: d1 :: d2 :: l) 2 = d2 := Eq.trans rfl rfl
theorem qbu (d0 : D) (l : List D) : (D.agg (d0 :: l)).cell 0 = d0 := Eq.trans rfl rfl
theorem qbv (d0 d1 : D) (l : List D) : (D.agg (d0 :: d1 :: l)).cell 1 = d1 := Eq.trans rfl rfl
theorem qbw (d0 d1 d2 : D) (l : List D) : (D.agg (d0 :: d1 :: d2 :: l)).cell 2 = d2 := Eq.trans rfl rfl
theorem qbx (d0 d1 d2 d3 : D) (l : List D) : (D.agg (d0 :: d1 :: d2 :: d3 :: l)).cell 3 = d3 := Eq.trans rfl rfl
theorem qby (d0 d1 d2 d3 d4 : D) (l : List D) : (D.agg (d0 :: d1 :: d2 :: d3 :: d4 :: l)).cell 4 = d4 := Eq.trans rfl rfl
theorem qhk (k : IntKind) (n : Int) : (D.int k n).toInt = n := Eq.trans rfl rfl
theorem qhj (b : Bool) : (D.bool b).toBool = b := Eq.trans rfl rfl
theorem qfw (o n : Bool) (a : Arr) : (D.arr o n a).nil = n := Eq.trans rfl rfl
theorem qf3 (o n : Bool) (l : List (Int × Int × Int)) : (D.arr o n (.r3 l)).r3 = l := Eq.trans rfl rfl
theorem qdz (o n : Bool) (k : IntKind) (l : List Int) : (D.arr o n (.ints k l)).ints = l := Eq.trans rfl rfl
theorem qb4 {α : Type} (x y : α) : cond true x y = x := Eq.trans rfl rfl
theorem qb3 {α : Type} (x y : α) : cond false x y = y := Eq.trans rfl rfl
theorem qai {α : Type} (x : List D) (f : List D → Option α) : (some x).bind f = f x := Eq.trans rfl rfl
theorem dT {p : Prop} {i : Decidable p} (h : p) : @decide p i = true := by cases i <;> simp_all
theorem dF {p : Prop} {i : Decidable p} (h : ¬p) : @decide p i = false := by cases i <;> simp_all
theorem qbt (i : Nat) : (i : Int) + 1 = ((i + 1 : Nat) : Int) := Eq.trans rfl rfl
theorem imax (x y : Int) : (if x > y then x else y) = max x y := by by_cases h : x > y <;> simp only [h, if_true, if_false] <;> omega
theorem imin (x y : Int) : (if x < y then x else y) = min x y := by by_cases h : x < y <;> simp only [h, if_true, if_false] <;> omega
theorem qb5 (b x : Bool) : cond (!b) (some [D.bool false]) (some [D.bool x]) = some [D.bool (b && x)] := by cases b <;> rfl
theorem qb6 (b x : Bool) : cond b (some [D.bool x]) (some [D.bool false]) = some [D.bool (b && x)] := by cases b <;> rfl
theorem dTT {i : Decidable True} : @decide True i = true := by cases i with | isTrue _ => rfl | isFalse h => exact absurd trivial h
theorem qfv {α : Type} (l : List α) : [] ++ l = l := Eq.trans rfl rfl
theorem big0 : bigLen = 1099511627776 := Eq.trans rfl rfl
theorem qb8 {α : Type} {l : List α} {i : Nat} (h : i < l.length) (d : α) : l.drop i = l.getD i d :: l.drop (i + 1) := by
  rw [List.drop_eq_getElem_cons h]; simp [h]
theorem qg7 {α : Type} (l : List α) (i j : Nat) (x d : α) : (l.set i x).getD j d = if i = j ∧ i < l.length then x else l.getD j d := by
  simp only [List.getD_eq_getElem?_getD, List.getElem?_set]
  by_cases h : i = j
  · subst h
    by_cases h2 : i < l.length
    · simp [h2]
    · simp [h2]
  · simp [h]
theorem qds {α : Type} {l : List α} {i : Nat} (h : i < l.length) (d : α) : l.getD i d ∈ l := by simp [h]
end Go.Proofs.Ytcaapedadpnjoaa
end
section
namespace Go.Proofs.Ytcaapedadpnjoaa
open Go.Ev
theorem qda (k : Nat) (a b c : Int) : go (k + 1) spec_l01In [(.int .i64 (a)), (.int .i64 (b)), (.int .i64 (c))] =
 cond (decide (b ≤ a))
 (some [(.bool (decide (a ≤ c)))])
 (some [(.bool (false))]) := by kernel_rfl
theorem qct (k : Nat) (a b c : Int) : go (k + 1) impl_within [(.int .i64 (a)), (.int .i64 (b)), (.int .i64 (c))] =
 cond (decide (b ≤ a))
 (some [(.bool (decide (a ≤ c)))])
 (some [(.bool (false))]) := by kernel_rfl
theorem qcr (k : Nat) (a : Int) : go (k + 1) impl_isLevel [(.int .i64 (a))] =
 (go k impl_within [(.int .i64 (a)), (.int .i64 (0 : Int)), (.int .i64 ((4 : Int)))]).bind fun r0 =>
 some [(.bool (bit (nth r0 0)))] := by kernel_rfl
theorem qc4 (k : Nat) (a0 a1 a2 : Int) : go (k + 1) spec_IdOk [(.agg [(.int .i64 (a0)), (.int .i64 (a1)), (.int .i64 (a2))])] =
 (go k spec_l01In [(.int .i64 (a0)), (.int .i64 (0 : Int)), (.int .i64 ((7 : Int)))]).bind fun r0 =>
 cond (bit (nth r0 0))
 ((go k spec_l01In [(.int .i64 (a1)), (.int .i64 (0 : Int)), (.int .i64 ((4 : Int)))]).bind fun r1 =>
 cond (bit (nth r1 0))
 (cond (decide ((0 : Int) ≤ a2))
 (cond (decide ((0 : Int) ≤ IntKind.wrap IntKind.u64 a1))
 (some [(.bool (decide (a2 < IntKind.wrap .i64 ((1 : Int) * (2 : Int) ^ shiftN .i64 (IntKind.wrap IntKind.u64 a1)))))])
 (none))
 (some [(.bool (false))]))
 (some [(.bool (false))]))
 (some [(.bool (false))]) := by kernel_rfl
theorem qcc (k : Nat) (a0 a1 a2 : Int) : go (k + 1) impl_IdOk [(.agg [(.int .i64 (a0)), (.int .i64 (a1)), (.int .i64 (a2))])] =
 (go k impl_within [(.int .i64 (a0)), (.int .i64 (0 : Int)), (.int .i64 ((7 : Int)))]).bind fun r0 =>
 cond (bit (nth r0 0))
 ((go k impl_isLevel [(.int .i64 (a1))]).bind fun r1 =>
 cond (bit (nth r1 0))
 (cond (decide ((0 : Int) ≤ a1))
 ((go k impl_within [(.int .i64 (a2)), (.int .i64 (0 : Int)), (.int .i64 (IntKind.wrap .i64 (IntKind.wrap .i64 ((1 : Int) * (2 : Int) ^ shiftN .i64 a1) - (1 : Int))))]).bind fun r2 =>
 some [(.bool (bit (nth r2 0)))])
 (none))
 (some [(.bool (false))]))
 (some [(.bool (false))]) := by kernel_rfl
theorem qc7 (k : Nat) (a : Int) : go (k + 1) spec_WidthOf [(.int .i64 (a))] =
 (go k spec_l01In [(.int .i64 (a)), (.int .i64 (0 : Int)), (.int .i64 ((4 : Int)))]).bind fun r0 =>
 cond (!bit (nth r0 0))
 (some [(.int .i64 (0 : Int))])
 (cond (decide ((0 : Int) ≤ IntKind.wrap IntKind.u64 a))
 (some [(.int .i64 (Int.fdiv (16 : Int) ((2 : Int) ^ shiftN .i64 (IntKind.wrap IntKind.u64 a))))])
 (none)) := by kernel_rfl
theorem qcn (k : Nat) (a : Int) : go (k + 1) impl_WidthOf [(.int .i64 (a))] =
 (go k impl_isLevel [(.int .i64 (a))]).bind fun r0 =>
 cond (!bit (nth r0 0))
 (some [(.int .i64 (0 : Int))])
 (cond (decide ((0 : Int) ≤ a))
 (some [(.int .i64 (Int.fdiv (16 : Int) ((2 : Int) ^ shiftN .i64 a)))])
 (none)) := by kernel_rfl
theorem qc6 (k : Nat) (a0 a1 a2 : Int) : go (k + 1) spec_StartOf [(.agg [(.int .i64 (a0)), (.int .i64 (a1)), (.int .i64 (a2))])] =
 (go k spec_IdOk [(.agg [(.int .i64 (a0)), (.int .i64 (a1)), (.int .i64 (a2))])]).bind fun r0 =>
 cond (!bit (nth r0 0))
 (some [(.int .i64 ((-1 : Int)))])
 ((go k spec_WidthOf [(.int .i64 (a1))]).bind fun r1 =>
 some [(.int .i64 (IntKind.wrap .i64 (IntKind.wrap .i64 (a0 * (16 : Int)) + IntKind.wrap .i64 (a2 * D.toInt (nth r1 0)))))]) := by kernel_rfl
theorem qcj (k : Nat) (a0 a1 a2 : Int) : go (k + 1) impl_StartOf [(.agg [(.int .i64 (a0)), (.int .i64 (a1)), (.int .i64 (a2))])] =
 (go k impl_IdOk [(.agg [(.int .i64 (a0)), (.int .i64 (a1)), (.int .i64 (a2))])]).bind fun r0 =>
 cond (!bit (nth r0 0))
 (some [(.int .i64 ((-1 : Int)))])
 ((go k impl_WidthOf [(.int .i64 (a1))]).bind fun r1 =>
 some [(.int .i64 (IntKind.wrap .i64 (IntKind.wrap .i64 (a0 * (16 : Int)) + IntKind.wrap .i64 (a2 * D.toInt (nth r1 0)))))]) := by kernel_rfl
theorem qdd (k : Nat) (a0 a1 a2 : Int) : go (k + 1) spec_l04End [(.agg [(.int .i64 (a0)), (.int .i64 (a1)), (.int .i64 (a2))])] =
 (go k spec_StartOf [(.agg [(.int .i64 (a0)), (.int .i64 (a1)), (.int .i64 (a2))])]).bind fun r0 =>
 (go k spec_WidthOf [(.int .i64 (a1))]).bind fun r1 =>
 some [(.int .i64 (IntKind.wrap .i64 (D.toInt (nth r0 0) + D.toInt (nth r1 0))))] := by kernel_rfl
theorem qcp (k : Nat) (a0 a1 a2 : Int) : go (k + 1) impl_endOf [(.agg [(.int .i64 (a0)), (.int .i64 (a1)), (.int .i64 (a2))])] =
 (go k impl_StartOf [(.agg [(.int .i64 (a0)), (.int .i64 (a1)), (.int .i64 (a2))])]).bind fun r0 =>
 (go k impl_WidthOf [(.int .i64 (a1))]).bind fun r1 =>
 some [(.int .i64 (IntKind.wrap .i64 (D.toInt (nth r0 0) + D.toInt (nth r1 0))))] := by kernel_rfl
def qgz (x0 x1 : Int) (z2 : Bool) (l3 : List (Int × Int × Int)) (x4 : Int) : St := ⟨fill 45 [(1, (.ptr 1 (0) (0))), (3, (.int .i64 (x0))), (4, (.int .i64 (x1)))], [], [(.arr false (z2) (.r3 (l3))), (.box true [(.int .i64 (x4)), (.sl 0 none)])]⟩
theorem qc5 (k : Nat) (a0 : Int) (a1z : Bool) (a1 : List (Int × Int × Int)) : go (k + 1) spec_MeshOk [(.agg [(.int .i64 (a0)), (.arr false (a1z) (.r3 (a1)))])] =
 lp k spec_MeshOk [] [] 3 k (qgz (0 : Int) (0 : Int) a1z a1 a0) := by kernel_rfl
theorem qen (k n : Nat) (fu : List (Nat × Nat)) (x0 x1 : Int) (z2 : Bool) (l3 : List (Int × Int × Int)) (x4 : Int) : lp k spec_MeshOk [] fu 3 (n + 1) (qgz x0 x1 z2 l3 x4) =
 cond (decide (x1 < nI (List.length l3)))
 (cond (decide ((0 : Int) ≤ x1) && decide (x1 < nI (List.length l3)))
 ((go k spec_IdOk [(.agg [(.int .i64 (Prod.fst (List.getD l3 (Int.toNat x1) zz3))), (.int .i64 (Prod.fst (Prod.snd (List.getD l3 (Int.toNat x1) zz3)))), (.int .i64 (Prod.snd (Prod.snd (List.getD l3 (Int.toNat x1) zz3))))])]).bind fun r0 =>
 cond (!bit (nth r0 0))
 (some [(.bool (false))])
 (cond (decide ((0 : Int) ≤ x1) && decide (x1 < nI (List.length l3)))
 ((go k spec_StartOf [(.agg [(.int .i64 (Prod.fst (List.getD l3 (Int.toNat x1) zz3))), (.int .i64 (Prod.fst (Prod.snd (List.getD l3 (Int.toNat x1) zz3)))), (.int .i64 (Prod.snd (Prod.snd (List.getD l3 (Int.toNat x1) zz3))))])]).bind fun r1 =>
 cond (!decide (D.toInt (nth r1 0) = x0))
 (some [(.bool (false))])
 (cond (decide ((0 : Int) ≤ x1) && decide (x1 < nI (List.length l3)))
 ((go k spec_l04End [(.agg [(.int .i64 (Prod.fst (List.getD l3 (Int.toNat x1) zz3))), (.int .i64 (Prod.fst (Prod.snd (List.getD l3 (Int.toNat x1) zz3)))), (.int .i64 (Prod.snd (Prod.snd (List.getD l3 (Int.toNat x1) zz3))))])]).bind fun r2 =>
 lp k spec_MeshOk [] fu 3 n (qgz (D.toInt (nth r2 0)) (IntKind.wrap .i64 (x1 + (1 : Int))) z2 l3 x4))
 (none)))
 (none)))
 (none))
 ((go k spec_l01In [(.int .i64 (x4)), (.int .i64 ((1 : Int))), (.int .i64 ((8 : Int)))]).bind fun r3 =>
 cond (bit (nth r3 0))
 (some [(.bool (decide (x0 = IntKind.wrap .i64 (x4 * (16 : Int)))))])
 (some [(.bool (false))])) := by kernel_rfl
def qgk (x0 x1 x2 : Int) (z3 : Bool) (l4 : List (Int × Int × Int)) (x5 : Int) : St := ⟨fill 35 [(1, (.ptr 1 (0) (0))), (3, (.int .i64 (x0))), (7, (.sl 0 none)), (8, (.int .i64 (x1))), (9, (.int .i64 (x2)))], [], [(.arr false (z3) (.r3 (l4))), (.box true [(.int .i64 (x5)), (.sl 0 none)])]⟩
theorem qcf (k : Nat) (a0 : Int) (a1z : Bool) (a1 : List (Int × Int × Int)) : go (k + 1) impl_MeshOk [(.agg [(.int .i64 (a0)), (.arr false (a1z) (.r3 (a1)))])] =
 lp k impl_MeshOk [] [] 3 k (qgk (0 : Int) (nI (List.length a1)) (0 : Int) a1z a1 a0) := by kernel_rfl
theorem qd8 (k n : Nat) (fu : List (Nat × Nat)) (x0 x1 x2 : Int) (z3 : Bool) (l4 : List (Int × Int × Int)) (x5 : Int) : lp k impl_MeshOk [] fu 3 (n + 1) (qgk x0 x1 x2 z3 l4 x5) =
 cond (decide (x2 < x1))
 (cond (decide ((0 : Int) ≤ x2) && decide (x2 < nI (List.length l4)))
 ((go k impl_IdOk [(.agg [(.int .i64 (Prod.fst (List.getD l4 (Int.toNat x2) zz3))), (.int .i64 (Prod.fst (Prod.snd (List.getD l4 (Int.toNat x2) zz3)))), (.int .i64 (Prod.snd (Prod.snd (List.getD l4 (Int.toNat x2) zz3))))])]).bind fun r0 =>
 cond (!bit (nth r0 0))
 (some [(.bool (false))])
 ((go k impl_StartOf [(.agg [(.int .i64 (Prod.fst (List.getD l4 (Int.toNat x2) zz3))), (.int .i64 (Prod.fst (Prod.snd (List.getD l4 (Int.toNat x2) zz3)))), (.int .i64 (Prod.snd (Prod.snd (List.getD l4 (Int.toNat x2) zz3))))])]).bind fun r1 =>
 cond (!decide (D.toInt (nth r1 0) = x0))
 (some [(.bool (false))])
 ((go k impl_endOf [(.agg [(.int .i64 (Prod.fst (List.getD l4 (Int.toNat x2) zz3))), (.int .i64 (Prod.fst (Prod.snd (List.getD l4 (Int.toNat x2) zz3)))), (.int .i64 (Prod.snd (Prod.snd (List.getD l4 (Int.toNat x2) zz3))))])]).bind fun r2 =>
 lp k impl_MeshOk [] fu 3 n (qgk (D.toInt (nth r2 0)) x1 (IntKind.wrap .i64 (x2 + (1 : Int))) z3 l4 x5))))
 (none))
 ((go k impl_within [(.int .i64 (x5)), (.int .i64 ((1 : Int))), (.int .i64 ((8 : Int)))]).bind fun r3 =>
 cond (bit (nth r3 0))
 (some [(.bool (decide (x0 = IntKind.wrap .i64 (x5 * (16 : Int)))))])
 (some [(.bool (false))])) := by kernel_rfl
def qg2 (x0 : Int) (z1 : Bool) (l2 : List (Int × Int × Int)) (x3 : Int) : St := ⟨fill 34 [(1, (.ptr 1 (0) (0))), (3, (.int .i64 (x0)))], [], [(.arr false (z1) (.r3 (l2))), (.box true [(.int .i64 (x3)), (.sl 0 none)])]⟩
theorem qdh (k : Nat) (a0 : Int) (a1z : Bool) (a1 : List (Int × Int × Int)) : go (k + 1) spec_l05First [(.agg [(.int .i64 (a0)), (.arr false (a1z) (.r3 (a1)))])] =
 lp k spec_l05First [] [] 2 k (qg2 (0 : Int) a1z a1 a0) := by kernel_rfl
theorem qeq (k n : Nat) (fu : List (Nat × Nat)) (x0 : Int) (z1 : Bool) (l2 : List (Int × Int × Int)) (x3 : Int) : lp k spec_l05First [] fu 2 (n + 1) (qg2 x0 z1 l2 x3) =
 cond (decide (IntKind.wrap .i64 (x0 + (1 : Int)) < nI (List.length l2)))
 (cond (decide ((0 : Int) ≤ x0) && decide (x0 < nI (List.length l2)))
 (cond (decide ((0 : Int) ≤ IntKind.wrap .i64 (x0 + (1 : Int))) && decide (IntKind.wrap .i64 (x0 + (1 : Int)) < nI (List.length l2)))
 (cond (decide ((1 : Int) < IntKind.wrap .i64 (Prod.fst (Prod.snd (List.getD l2 (Int.toNat x0) zz3)) - Prod.fst (Prod.snd (List.getD l2 (Int.toNat (IntKind.wrap .i64 (x0 + (1 : Int)))) zz3)))))
 (some [(.int .i64 (x0))])
 (cond (decide (IntKind.wrap .i64 (Prod.fst (Prod.snd (List.getD l2 (Int.toNat x0) zz3)) - Prod.fst (Prod.snd (List.getD l2 (Int.toNat (IntKind.wrap .i64 (x0 + (1 : Int)))) zz3))) < (-1 : Int)))
 (some [(.int .i64 (x0))])
 (lp k spec_l05First [] fu 2 n (qg2 (IntKind.wrap .i64 (x0 + (1 : Int))) z1 l2 x3))))
 (none))
 (none))
 (some [(.int .i64 ((-1 : Int)))]) := by kernel_rfl
def qgl (x0 x1 : Int) (z2 : Bool) (l3 : List (Int × Int × Int)) (x4 : Int) : St := ⟨fill 29 [(1, (.ptr 1 (0) (0))), (7, (.int .i64 (x0))), (8, (.int .i64 (x1)))], [], [(.arr false (z2) (.r3 (l3))), (.box true [(.int .i64 (x4)), (.sl 0 none)])]⟩
theorem qcg (k : Nat) (a0 : Int) (a1z : Bool) (a1 : List (Int × Int × Int)) : go (k + 1) impl_Mesh_unbalanced [(.agg [(.int .i64 (a0)), (.arr false (a1z) (.r3 (a1)))])] =
 lp k impl_Mesh_unbalanced [] [] 2 k (qgl (IntKind.wrap .i64 (nI (List.length a1) - (1 : Int))) (0 : Int) a1z a1 a0) := by kernel_rfl
theorem qd9 (k n : Nat) (fu : List (Nat × Nat)) (x0 x1 : Int) (z2 : Bool) (l3 : List (Int × Int × Int)) (x4 : Int) : lp k impl_Mesh_unbalanced [] fu 2 (n + 1) (qgl x0 x1 z2 l3 x4) =
 cond (decide (x1 < x0))
 (cond (decide ((0 : Int) ≤ x1) && decide (x1 < nI (List.length l3)))
 (cond (decide ((0 : Int) ≤ IntKind.wrap .i64 (x1 + (1 : Int))) && decide (IntKind.wrap .i64 (x1 + (1 : Int)) < nI (List.length l3)))
 ((go k impl_absolute [(.int .i64 (IntKind.wrap .i64 (Prod.fst (Prod.snd (List.getD l3 (Int.toNat x1) zz3)) - Prod.fst (Prod.snd (List.getD l3 (Int.toNat (IntKind.wrap .i64 (x1 + (1 : Int)))) zz3)))))]).bind fun r0 =>
 cond (decide ((1 : Int) < D.toInt (nth r0 0)))
 (some [(.int .i64 (x1))])
 (lp k impl_Mesh_unbalanced [] fu 2 n (qgl x0 (IntKind.wrap .i64 (x1 + (1 : Int))) z2 l3 x4)))
 (none))
 (none))
 (some [(.int .i64 ((-1 : Int)))]) := by kernel_rfl
theorem qco (k : Nat) (a : Int) : go (k + 1) impl_absolute [(.int .i64 (a))] =
 some [(.int .i64 (if IntKind.wrap .i64 ((0 : Int) - a) > a then IntKind.wrap .i64 ((0 : Int) - a) else a))] := by kernel_rfl
theorem qce (k : Nat) (a0 : Int) (a1z : Bool) (a1 : List (Int × Int × Int)) : go (k + 1) impl_IsBalanced [(.agg [(.int .i64 (a0)), (.arr false (a1z) (.r3 (a1)))])] =
 (go k impl_MeshOk [(.agg [(.int .i64 (a0)), (.arr false (a1z) (.r3 (a1)))])]).bind fun r0 =>
 cond (bit (nth r0 0))
 ((go k impl_Mesh_unbalanced [(.agg [(.int .i64 (a0)), (.arr false (a1z) (.r3 (a1)))])]).bind fun r1 =>
 some [(.bool (decide (D.toInt (nth r1 0) < (0 : Int))))])
 (some [(.bool (false))]) := by kernel_rfl
theorem qch (k : Nat) (a0 : Int) (a1z : Bool) (a1 : List (Int × Int × Int)) (b0 : Int) (b1z : Bool) (b1 : List (Int × Int × Int)) : go (k + 1) impl_SameMesh [(.agg [(.int .i64 (a0)), (.arr false (a1z) (.r3 (a1)))]), (.agg [(.int .i64 (b0)), (.arr false (b1z) (.r3 (b1)))])] =
 cond (decide (a0 = b0))
 ((go k slices_Equal_impl_Id_impl_Id [(.arr false (a1z) (.r3 (a1))), (.arr false (b1z) (.r3 (b1)))]).bind fun r0 =>
 some [(.bool (bit (nth r0 0)))])
 (some [(.bool (false))]) := by kernel_rfl
def qgv (x0 x1 : Int) (z2 : Bool) (l3 : List (Int × Int × Int)) (z4 : Bool) (l5 : List (Int × Int × Int)) : St := ⟨fill 26 [(0, (.sl 0 none)), (1, (.sl 1 none)), (12, (.int .i64 (x0))), (13, (.int .i64 (x1)))], [], [(.arr false (z2) (.r3 (l3))), (.arr false (z4) (.r3 (l5)))]⟩
theorem qcz (k : Nat) (az : Bool) (a : List (Int × Int × Int)) (bz : Bool) (b : List (Int × Int × Int)) : go (k + 1) slices_Equal_impl_Id_impl_Id [(.arr false (az) (.r3 (a))), (.arr false (bz) (.r3 (b)))] =
 cond (!decide (nI (List.length a) = nI (List.length b)))
 (some [(.bool (false))])
 (lp k slices_Equal_impl_Id_impl_Id [] [] 4 k (qgv (nI (List.length a)) (0 : Int) az a bz b)) := by kernel_rfl
theorem qej (k n : Nat) (fu : List (Nat × Nat)) (x0 x1 : Int) (z2 : Bool) (l3 : List (Int × Int × Int)) (z4 : Bool) (l5 : List (Int × Int × Int)) : lp k slices_Equal_impl_Id_impl_Id [] fu 4 (n + 1) (qgv x0 x1 z2 l3 z4 l5) =
 cond (decide (x1 < x0))
 (cond (decide ((0 : Int) ≤ x1) && decide (x1 < nI (List.length l3)))
 (cond (decide ((0 : Int) ≤ x1) && decide (x1 < nI (List.length l5)))
 (cond (!(decide (Prod.fst (List.getD l3 (Int.toNat x1) zz3) = Prod.fst (List.getD l5 (Int.toNat x1) zz3)) && (decide (Prod.fst (Prod.snd (List.getD l3 (Int.toNat x1) zz3)) = Prod.fst (Prod.snd (List.getD l5 (Int.toNat x1) zz3))) && (decide (Prod.snd (Prod.snd (List.getD l3 (Int.toNat x1) zz3)) = Prod.snd (Prod.snd (List.getD l5 (Int.toNat x1) zz3))) && true))))
 (some [(.bool (false))])
 (lp k slices_Equal_impl_Id_impl_Id [] fu 4 n (qgv x0 (IntKind.wrap .i64 (x1 + (1 : Int))) z2 l3 z4 l5)))
 (none))
 (none))
 (some [(.bool (true))]) := by kernel_rfl
end Go.Proofs.Ytcaapedadpnjoaa
end
section
namespace Go.Proofs.Ytcaapedadpnjoaa
open Go.Ev
def inR (a b c : Int) : Bool := decide (b ≤ a) && decide (a ≤ c)
theorem qdy {a b c : Int} : inR a b c = true ↔ b ≤ a ∧ a ≤ c := by simp [inR]
theorem qbh (k : Nat) (hk : 2000000 ≤ k) (a : Int) (b : Int) (c : Int) : go (k + 1) spec_l01In [(.int .i64 (a)), (.int .i64 (b)), (.int .i64 (c))] = some [.bool (inR a b c)] := by
  rw [qda]; unfold inR; cases decide (b ≤ a) <;> rfl
theorem qa5 (k : Nat) (hk : 2000000 ≤ k) (a : Int) (b : Int) (c : Int) : go (k + 1) impl_within [(.int .i64 (a)), (.int .i64 (b)), (.int .i64 (c))] = some [.bool (inR a b c)] := by
  rw [qct]; unfold inR; cases decide (b ≤ a) <;> rfl
def pow2 (l : Int) : Int := 2 ^ l.toNat
def idOk (r l i : Int) : Bool := inR r 0 7 && (inR l 0 4 && (decide (0 ≤ i) && decide (i < pow2 l)))
theorem lev {l : Int} (h : inR l 0 4 = true) : l = 0 ∨ l = 1 ∨ l = 2 ∨ l = 3 ∨ l = 4 := by
  simp only [inR, Bool.and_eq_true, decide_eq_true_eq] at h; omega
theorem p20 : pow2 0 = 1 := rfl
theorem p21 : pow2 1 = 2 := rfl
theorem p22 : pow2 2 = 4 := rfl
theorem p23 : pow2 3 = 8 := rfl
theorem p24 : pow2 4 = 16 := rfl
theorem sh0 : shiftN .i64 0 = 0 := by decide
theorem sh1 : shiftN .i64 1 = 1 := by decide
theorem sh2 : shiftN .i64 2 = 2 := by decide
theorem sh3 : shiftN .i64 3 = 3 := by decide
theorem sh4 : shiftN .i64 4 = 4 := by decide
theorem pw {l : Int} (h : inR l 0 4 = true) : IntKind.wrap .i64 ((1 : Int) * (2 : Int) ^ shiftN .i64 l) = pow2 l := by
  rcases lev h with rfl | rfl | rfl | rfl | rfl <;> simp [sh0, sh1, sh2, sh3, sh4, qhs, p20, p21, p22, p23, p24]
theorem lev0 {l : Int} (h : inR l 0 4 = true) : 0 ≤ l ∧ l ≤ 4 := by
  simp only [inR, Bool.and_eq_true, decide_eq_true_eq] at h; omega
theorem qfz {l : Int} (h : inR l 0 4 = true) : 1 ≤ pow2 l ∧ pow2 l ≤ 16 := by
  rcases lev h with rfl | rfl | rfl | rfl | rfl <;> simp [p20, p21, p22, p23, p24]
theorem qbb (k : Nat) (hk : 2000000 ≤ k) (a0 : Int) (a1 : Int) (a2 : Int) : go (k + 2) spec_IdOk [(.agg [(.int .i64 (a0)), (.int .i64 (a1)), (.int .i64 (a2))])] = some [.bool (idOk a0 a1 a2)] := by
  rw [qc4]
  simp (disch := omega) only [qbh, bit, qai, nth0, qhj]
  unfold idOk
  cases h1 : inR a0 0 7 <;> cases h2 : inR a1 0 4 <;> simp only [qb4, qb3, Bool.true_and, Bool.false_and, Bool.and_false]
  have := lev0 h2
  rw [qht (x := a1) (by omega) (by omega), pw h2]
  by_cases h3 : (0 : Int) ≤ a2
  · simp [h3, this.1]
  · simp [h3]
theorem qa2 (k : Nat) (hk : 2000000 ≤ k) (a : Int) : go (k + 2) impl_isLevel [(.int .i64 (a))] = some [.bool (inR a 0 4)] := by
  rw [qcr]
  simp (disch := omega) only [qa5, bit, qai, nth0, qhj]
theorem qao (k : Nat) (hk : 2000000 ≤ k) (a0 : Int) (a1 : Int) (a2 : Int) : go (k + 3) impl_IdOk [(.agg [(.int .i64 (a0)), (.int .i64 (a1)), (.int .i64 (a2))])] = some [.bool (idOk a0 a1 a2)] := by
  rw [qcc]
  simp (disch := omega) only [qa5, bit, qa2, qai, nth0, qhj]
  unfold idOk
  cases h1 : inR a0 0 7 <;> cases h2 : inR a1 0 4 <;> simp only [qb4, qb3, Bool.true_and, Bool.false_and, Bool.and_false]
  have := lev0 h2
  have := qfz h2
  rw [pw h2, qhs (x := pow2 a1 - 1) (by omega) (by omega)]
  rw [show decide ((0 : Int) ≤ a1) = true by simp; omega, qb4]
  have e : inR a2 0 (pow2 a1 - 1) = (decide (0 ≤ a2) && decide (a2 < pow2 a1)) := by
    unfold inR; rw [Bool.eq_iff_iff]; simp only [Bool.and_eq_true, decide_eq_true_eq]; omega
  rw [e]
def qhp (l : Int) : Int := if inR l 0 4 then 16 / pow2 l else 0
theorem qbe (k : Nat) (hk : 2000000 ≤ k) (a : Int) : go (k + 2) spec_WidthOf [(.int .i64 (a))] = some [.int .i64 (qhp a)] := by
  rw [qc7]
  simp (disch := omega) only [qbh, bit, qai, nth0, qhj, qhp]
  cases h2 : inR a 0 4
  · simp
  · rcases lev h2 with rfl | rfl | rfl | rfl | rfl <;> simp [qht, sh0, sh1, sh2, sh3, sh4, p20, p21, p22, p23, p24] <;> decide
theorem qaw (k : Nat) (hk : 2000000 ≤ k) (a : Int) : go (k + 3) impl_WidthOf [(.int .i64 (a))] = some [.int .i64 (qhp a)] := by
  rw [qcn]
  simp (disch := omega) only [qa2, bit, qai, nth0, qhj, qhp]
  cases h2 : inR a 0 4
  · simp
  · rcases lev h2 with rfl | rfl | rfl | rfl | rfl <;> simp [qht, sh0, sh1, sh2, sh3, sh4, p20, p21, p22, p23, p24] <;> decide
def qhc (r l i : Int) : Int := if idOk r l i then r * 16 + i * qhp l else -1
theorem qhr (l : Int) : 0 ≤ qhp l ∧ qhp l ≤ 16 := by
  unfold qhp
  cases h : inR l 0 4
  · simp
  · rcases lev h with rfl | rfl | rfl | rfl | rfl <;> decide
theorem qdu {r l i : Int} (h : idOk r l i = true) : 0 ≤ r ∧ r ≤ 7 ∧ inR l 0 4 = true ∧ 0 ≤ i ∧ i < pow2 l := by
  simp only [idOk, Bool.and_eq_true, decide_eq_true_eq] at h
  obtain ⟨h1, h2, h3, h4⟩ := h
  simp only [inR, Bool.and_eq_true, decide_eq_true_eq] at h1
  exact ⟨h1.1, h1.2, h2, h3, h4⟩
theorem iw {r l i : Int} (h : idOk r l i = true) : 0 ≤ i * qhp l ∧ i * qhp l ≤ 256 := by
  obtain ⟨_, _, h2, h3, h4⟩ := qdu h
  have h5 := (qfz h2).2
  have h6 := qhr l
  have h7 : i ≤ 16 := by omega
  refine ⟨Int.mul_nonneg h3 h6.1, ?_⟩
  calc i * qhp l ≤ 16 * qhp l := Int.mul_le_mul_of_nonneg_right h7 h6.1
    _ ≤ 16 * 16 := Int.mul_le_mul_of_nonneg_left h6.2 (by omega)
theorem qhd (r l i : Int) : -1 ≤ qhc r l i ∧ qhc r l i ≤ 1000 := by
  unfold qhc
  cases h : idOk r l i
  · simp
  · have := iw h; have := qdu h
    simp; omega
theorem qhf {r l i : Int} (h : idOk r l i = true) : IntKind.wrap .i64 (IntKind.wrap .i64 (r * (16 : Int)) + IntKind.wrap .i64 (i * qhp l)) = qhc r l i := by
  have h1 := iw h; have h2 := qdu h
  rw [qhs (x := r * 16) (by omega) (by omega), qhs (x := i * qhp l) (by omega) (by omega), qhs (by omega) (by omega)]
  simp [qhc, h]
theorem qbd (k : Nat) (hk : 2000000 ≤ k) (a0 : Int) (a1 : Int) (a2 : Int) : go (k + 3) spec_StartOf [(.agg [(.int .i64 (a0)), (.int .i64 (a1)), (.int .i64 (a2))])] = some [.int .i64 (qhc a0 a1 a2)] := by
  rw [qc6]
  simp (disch := omega) only [qbb, bit, qbe, qai, nth0, qhk, qhj]
  cases h : idOk a0 a1 a2
  · simp [qhc, h]
  · rw [qhf h]; rfl
theorem qau (k : Nat) (hk : 2000000 ≤ k) (a0 : Int) (a1 : Int) (a2 : Int) : go (k + 4) impl_StartOf [(.agg [(.int .i64 (a0)), (.int .i64 (a1)), (.int .i64 (a2))])] = some [.int .i64 (qhc a0 a1 a2)] := by
  rw [qcj]
  simp (disch := omega) only [qao, bit, qaw, qai, nth0, qhk, qhj]
  cases h : idOk a0 a1 a2
  · simp [qhc, h]
  · rw [qhf h]; rfl
theorem qdn (r l i : Int) : IntKind.wrap .i64 (qhc r l i + qhp l) = qhc r l i + qhp l := by
  have h1 := qhd r l i; have h2 := qhr l
  exact qhs (by omega) (by omega)
theorem qbk (k : Nat) (hk : 2000000 ≤ k) (a0 : Int) (a1 : Int) (a2 : Int) : go (k + 4) spec_l04End [(.agg [(.int .i64 (a0)), (.int .i64 (a1)), (.int .i64 (a2))])] = some [.int .i64 (qhc a0 a1 a2 + qhp a1)] := by
  rw [qdd]
  simp (disch := omega) only [qbd, qbe, qai, nth0, qhk, qdn]
theorem qay (k : Nat) (hk : 2000000 ≤ k) (a0 : Int) (a1 : Int) (a2 : Int) : go (k + 5) impl_endOf [(.agg [(.int .i64 (a0)), (.int .i64 (a1)), (.int .i64 (a2))])] = some [.int .i64 (qhc a0 a1 a2 + qhp a1)] := by
  rw [qcp]
  simp (disch := omega) only [qau, qaw, qai, nth0, qhk, qdn]
abbrev Cell := Int × Int × Int
def qfn (roots : Int) : Int → List Cell → Bool
  | pos, [] => inR roots 1 8 && decide (pos = roots * 16)
  | pos, x :: rest => idOk x.1 x.2.1 x.2.2 && (decide (qhc x.1 x.2.1 x.2.2 = pos) && qfn roots (qhc x.1 x.2.1 x.2.2 + qhp x.2.1) rest)
theorem qfq (roots pos : Int) : cond (inR roots 1 8) (some [D.bool (decide (pos = IntKind.wrap .i64 (roots * (16 : Int))))]) (some [D.bool false]) = some [D.bool (qfn roots pos [])] := by
  unfold qfn
  cases h : inR roots 1 8
  · rfl
  · simp only [inR, Bool.and_eq_true, decide_eq_true_eq] at h
    rw [qhs (by omega) (by omega)]; rfl
theorem qfd (k : Nat) (hk : 2000000 ≤ k) (fu : List (Nat × Nat)) (z : Bool) (l : List Cell) (roots : Int) (hl : (l.length : Int) ≤ 1048576) : ∀ (n i : Nat) (pos : Int), i ≤ l.length → l.length - i < n →
    lp (k + 4) spec_MeshOk [] fu 3 (n) (qgz pos (i : Int) z l roots) = some [.bool (qfn roots pos (l.drop i))]
  | 0, i, pos, hi, hn => by omega
  | n + 1, i, pos, hi, hn => by
    rw [qen]
    by_cases h : i < l.length
    · rw [qb8 h zz3]
      simp (disch := omega) only [nI, dT, Bool.and_true, Int.toNat_natCast, qbb, bit, qbd, qbk, qbt, qhs, qai, nth0, qhk, qb4, qhj, qfn]
      rw [qfd k hk fu z l roots hl n (i + 1) _ (by omega) (by omega)]
      simp only [qb5, qb6, Bool.and_assoc]
    · rw [List.drop_of_length_le (by omega)]
      simp (disch := omega) only [nI, dF, dT, Bool.and_false, Int.toNat_natCast, bit, qbt, qhs, qb3, qbh, qai, nth0, qhj]
      exact qfq roots pos
theorem qbc (k : Nat) (hk : 2000000 ≤ k) (a0 : Int) (a1z : Bool) (a1 : List (Int × Int × Int)) (hl : (a1.length : Int) ≤ 1048576) : go (k + 5) spec_MeshOk [(.agg [(.int .i64 (a0)), (.arr false (a1z) (.r3 (a1)))])] = some [.bool (qfn a0 0 a1)] := by
  rw [qc5]
  exact qfd k hk _ _ a1 a0 hl _ 0 0 (by omega) (by omega)
theorem qe6 (k : Nat) (hk : 2000000 ≤ k) (fu : List (Nat × Nat)) (z : Bool) (l : List Cell) (roots : Int) (hl : (l.length : Int) ≤ 1048576) : ∀ (n i : Nat) (pos : Int), i ≤ l.length → l.length - i < n →
    lp (k + 5) impl_MeshOk [] fu 3 (n) (qgk pos (l.length : Int) (i : Int) z l roots) = some [.bool (qfn roots pos (l.drop i))]
  | 0, i, pos, hi, hn => by omega
  | n + 1, i, pos, hi, hn => by
    rw [qd8]
    by_cases h : i < l.length
    · rw [qb8 h zz3]
      simp (disch := omega) only [dT, nI, Bool.and_true, Int.toNat_natCast, qao, bit, qau, qay, qbt, qhs, qai, nth0, qhk, qhj, qb4, qfn]
      rw [qe6 k hk fu z l roots hl n (i + 1) _ (by omega) (by omega)]
      simp only [qb5, qb6, Bool.and_assoc]
    · rw [List.drop_of_length_le (by omega)]
      simp (disch := omega) only [dF, dT, nI, Bool.and_false, Int.toNat_natCast, bit, qbt, qhs, qb3, qa5, qai, nth0, qhj]
      exact qfq roots pos
theorem qar (k : Nat) (hk : 2000000 ≤ k) (a0 : Int) (a1z : Bool) (a1 : List (Int × Int × Int)) (hl : (a1.length : Int) ≤ 1048576) : go (k + 6) impl_MeshOk [(.agg [(.int .i64 (a0)), (.arr false (a1z) (.r3 (a1)))])] = some [.bool (qfn a0 0 a1)] := by
  rw [qcf]
  exact qe6 k hk _ _ a1 a0 hl _ 0 0 (by omega) (by omega)
theorem qdr (r n : Nat) (fu : List (Nat × Nat)) : fuelOf ((r, n) :: fu) r = n := by simp [fuelOf, find]
end Go.Proofs.Ytcaapedadpnjoaa
end
section
namespace Go.Proofs.Ytcaapedadpnjoaa
open Go.Ev
theorem qck (k : Nat) (a0 : Int) (a1z : Bool) (a1 : List (Int × Int × Int)) (a2z : Bool) (a2 : List Int) (a3z : Bool) (a3 : List Int) (a4z : Bool) (a4 : List Int) : go (k + 1) impl_StateOk [(.agg [(.int .i64 (a0)), (.arr false (a1z) (.r3 (a1))), (.arr false (a2z) (.ints .i64 (a2))), (.arr false (a3z) (.ints .i64 (a3))), (.arr false (a4z) (.ints .i64 (a4)))])] =
 (go k impl_IsBalanced [(.agg [(.int .i64 (a0)), (.arr false (a1z) (.r3 (a1)))])]).bind fun r0 =>
 cond (bit (nth r0 0))
 ((go k impl_State_hasCells [(.agg [(.int .i64 (a0)), (.arr false (a1z) (.r3 (a1))), (.arr false (a2z) (.ints .i64 (a2))), (.arr false (a3z) (.ints .i64 (a3))), (.arr false (a4z) (.ints .i64 (a4)))])]).bind fun r1 =>
 some [(.bool (bit (nth r1 0)))])
 (some [(.bool (false))]) := by kernel_rfl
def qgn (x0 x1 : Int) (z2 : Bool) (l3 : List (Int × Int × Int)) (z4 : Bool) (l5 : List Int) (z6 : Bool) (l7 : List Int) (z8 : Bool) (l9 : List Int) (x10 : Int) : St := ⟨fill 63 [(1, (.ptr 4 (0) (0))), (37, (.sl 1 none)), (38, (.int .i64 (x0))), (39, (.int .i64 (x1)))], [], [(.arr false (z2) (.r3 (l3))), (.arr false (z4) (.ints .i64 (l5))), (.arr false (z6) (.ints .i64 (l7))), (.arr false (z8) (.ints .i64 (l9))), (.box true [(.int .i64 (x10)), (.sl 0 none), (.sl 1 none), (.sl 2 none), (.sl 3 none)])]⟩
theorem qcl (k : Nat) (a0 : Int) (a1z : Bool) (a1 : List (Int × Int × Int)) (a2z : Bool) (a2 : List Int) (a3z : Bool) (a3 : List Int) (a4z : Bool) (a4 : List Int) : go (k + 1) impl_State_hasCells [(.agg [(.int .i64 (a0)), (.arr false (a1z) (.r3 (a1))), (.arr false (a2z) (.ints .i64 (a2))), (.arr false (a3z) (.ints .i64 (a3))), (.arr false (a4z) (.ints .i64 (a4)))])] =
 cond (!decide (nI (List.length a2) = nI (List.length a1)))
 (some [(.bool (false))])
 (cond (!decide (nI (List.length a3) = nI (List.length a1)))
 (some [(.bool (false))])
 (cond (!decide (nI (List.length a4) = a0))
 (some [(.bool (false))])
 ((go k slices_ContainsFunc_int_int [(.arr false (a4z) (.ints .i64 (a4))), (.fn impl_State_hasCells_1 [])]).bind fun r0 =>
 cond (bit (nth r0 0))
 (some [(.bool (false))])
 (lp k impl_State_hasCells [] [] 5 k (qgn (nI (List.length a2)) (0 : Int) a1z a1 a2z a2 a3z a3 a4z a4 a0))))) := by kernel_rfl
theorem qeb (k n : Nat) (fu : List (Nat × Nat)) (x0 x1 : Int) (z2 : Bool) (l3 : List (Int × Int × Int)) (z4 : Bool) (l5 : List Int) (z6 : Bool) (l7 : List Int) (z8 : Bool) (l9 : List Int) (x10 : Int) : lp k impl_State_hasCells [] fu 5 (n + 1) (qgn x0 x1 z2 l3 z4 l5 z6 l7 z8 l9 x10) =
 cond (decide (x1 < x0))
 (cond (decide ((0 : Int) ≤ x1) && decide (x1 < nI (List.length l5)))
 ((go k impl_within [(.int .i64 (List.getD l5 (Int.toNat x1) (0 : Int))), (.int .i64 (0 : Int)), (.int .i64 ((10000000 : Int)))]).bind fun r0 =>
 cond (!bit (nth r0 0))
 (some [(.bool (false))])
 (cond (decide ((0 : Int) ≤ x1) && decide (x1 < nI (List.length l7)))
 ((go k impl_within [(.int .i64 (List.getD l7 (Int.toNat x1) (0 : Int))), (.int .i64 (0 : Int)), (.int .i64 (IntKind.wrap .i64 ((1000 : Int) * List.getD l5 (Int.toNat x1) (0 : Int))))]).bind fun r1 =>
 cond (!bit (nth r1 0))
 (some [(.bool (false))])
 (lp k impl_State_hasCells [] fu 5 n (qgn x0 (IntKind.wrap .i64 (x1 + (1 : Int))) z2 l3 z4 l5 z6 l7 z8 l9 x10)))
 (none)))
 (none))
 ((go k impl_sum [(.arr false (z4) (.ints .i64 (l5)))]).bind fun r2 =>
 some [(.bool (decide (D.toInt (nth r2 0) ≤ (10000000 : Int))))]) := by kernel_rfl
theorem qcm (k : Nat) (a : Int) : go (k + 1) impl_State_hasCells_1 [(.int .i64 (a))] =
 (go k impl_isBed [(.int .i64 (a))]).bind fun r0 =>
 some [(.bool (!bit (nth r0 0)))] := by kernel_rfl
theorem qcq (k : Nat) (a : Int) : go (k + 1) impl_isBed [(.int .i64 (a))] =
 (go k impl_within [(.int .i64 (a)), (.int .i64 (0 : Int)), (.int .i64 ((1000000 : Int)))]).bind fun r0 =>
 some [(.bool (bit (nth r0 0)))] := by kernel_rfl
def qgo (x0 x1 x2 : Int) (z3 : Bool) (l4 : List Int) : St := ⟨fill 17 [(3, (.int .i64 (x0))), (6, (.sl 0 none)), (7, (.int .i64 (x1))), (8, (.int .i64 (x2)))], [], [(.arr false (z3) (.ints .i64 (l4)))]⟩
theorem qcs (k : Nat) (az : Bool) (a : List Int) : go (k + 1) impl_sum [(.arr false (az) (.ints .i64 (a)))] =
 lp k impl_sum [] [] 3 k (qgo (0 : Int) (nI (List.length a)) (0 : Int) az a) := by kernel_rfl
theorem qec (k n : Nat) (fu : List (Nat × Nat)) (x0 x1 x2 : Int) (z3 : Bool) (l4 : List Int) : lp k impl_sum [] fu 3 (n + 1) (qgo x0 x1 x2 z3 l4) =
 cond (decide (x2 < x1))
 (cond (decide ((0 : Int) ≤ x2) && decide (x2 < nI (List.length l4)))
 (lp k impl_sum [] fu 3 n (qgo (IntKind.wrap .i64 (x0 + List.getD l4 (Int.toNat x2) (0 : Int))) x1 (IntKind.wrap .i64 (x2 + (1 : Int))) z3 l4))
 (none))
 (some [(.int .i64 (x0))]) := by kernel_rfl
def qgx (x0 x1 : Int) (z2 : Bool) (l3 : List Int) : St := ⟨fill 19 [(0, (.sl 0 none)), (1, (.fn impl_State_hasCells_1 [])), (7, (.int .i64 (x0))), (8, (.int .i64 (x1)))], [], [(.arr false (z2) (.ints .i64 (l3)))]⟩
theorem qc1 (k : Nat) (v0 : Bool) (v1 : List Int) : go (k + 1) slices_IndexFunc_int_int [(.arr false (v0) (.ints .i64 (v1))), (.fn impl_State_hasCells_1 [])] =
 lp k slices_IndexFunc_int_int [] [] 2 k (qgx (nI (List.length v1)) (0 : Int) v0 v1) := by kernel_rfl
theorem qel (k n : Nat) (fu : List (Nat × Nat)) (x0 x1 : Int) (z2 : Bool) (l3 : List Int) : lp k slices_IndexFunc_int_int [] fu 2 (n + 1) (qgx x0 x1 z2 l3) =
 cond (decide (x1 < x0))
 (cond (decide ((0 : Int) ≤ x1) && decide (x1 < nI (List.length l3)))
 ((go k impl_State_hasCells_1 [(.int .i64 (List.getD l3 (Int.toNat x1) (0 : Int)))]).bind fun r0 =>
 cond (bit (nth r0 0))
 (some [(.int .i64 (x1))])
 (lp k slices_IndexFunc_int_int [] fu 2 n (qgx x0 (IntKind.wrap .i64 (x1 + (1 : Int))) z2 l3)))
 (none))
 (some [(.int .i64 ((-1 : Int)))]) := by kernel_rfl
theorem qcy (k : Nat) (v0 : Bool) (v1 : List Int) : go (k + 1) slices_ContainsFunc_int_int [(.arr false (v0) (.ints .i64 (v1))), (.fn impl_State_hasCells_1 [])] =
 (go k slices_IndexFunc_int_int [(.arr false (v0) (.ints .i64 (v1))), (.fn impl_State_hasCells_1 [])]).bind fun r0 =>
 some [(.bool (decide ((0 : Int) ≤ D.toInt (nth r0 0))))] := by kernel_rfl
theorem qdc (k : Nat) (a0 : Int) (a1z : Bool) (a1 : List (Int × Int × Int)) : go (k + 1) spec_l04Copy [(.agg [(.int .i64 (a0)), (.arr false (a1z) (.r3 (a1)))])] =
 cond (decide (List.length ([] ++ a1) ≤ bigLen))
 (some [(.agg [(.int .i64 (a0)), (.arr true (false && decide (List.length ([] ++ a1) = 0)) (.r3 ([] ++ a1)))])])
 (none) := by kernel_rfl
theorem qdk (k : Nat) (a0 : Int) (a1z : Bool) (a1 : List (Int × Int × Int)) (a2z : Bool) (a2 : List Int) (a3z : Bool) (a3 : List Int) (a4z : Bool) (a4 : List Int) : go (k + 1) spec_l07Copy [(.agg [(.int .i64 (a0)), (.arr false (a1z) (.r3 (a1))), (.arr false (a2z) (.ints .i64 (a2))), (.arr false (a3z) (.ints .i64 (a3))), (.arr false (a4z) (.ints .i64 (a4)))])] =
 (go k spec_l04Copy [(.agg [(.int .i64 (a0)), (.arr false (a1z) (.r3 (a1)))])]).bind fun r0 =>
 cond (decide (List.length ([] ++ a2) ≤ bigLen))
 (cond (decide (List.length ([] ++ a3) ≤ bigLen))
 (cond (decide (List.length ([] ++ a4) ≤ bigLen))
 (some [(.agg [(.int .i64 (D.toInt (D.cell 0 (nth r0 0)))), (.arr true (D.nil (D.cell 1 (nth r0 0))) (.r3 (D.r3 (D.cell 1 (nth r0 0))))), (.arr true (false && decide (List.length ([] ++ a2) = 0)) (.ints .i64 ([] ++ a2))), (.arr true (false && decide (List.length ([] ++ a3) = 0)) (.ints .i64 ([] ++ a3))), (.arr true (false && decide (List.length ([] ++ a4) = 0)) (.ints .i64 ([] ++ a4)))])])
 (none))
 (none))
 (none) := by kernel_rfl
theorem qcw (k : Nat) (az : Bool) (a : List Int) : go (k + 1) slices_Clone_int_int [(.arr false (az) (.ints .i64 (a)))] =
 cond (az)
 (some [(.arr true (true) (.ints .i64 ([])))])
 (cond (decide (List.length ([] ++ a) ≤ bigLen))
 (some [(.arr true (false && decide (List.length ([] ++ a) = 0)) (.ints .i64 ([] ++ a)))])
 (none)) := by kernel_rfl
end Go.Proofs.Ytcaapedadpnjoaa
end
section
namespace Go.Proofs.Ytcaapedadpnjoaa
open Go.Ev
abbrev qeu (l : List Cell) (i : Nat) : Int := (l.getD i zz3).2.1
def qaa (l : List Cell) : Prop := ∀ i, 0 ≤ qeu l i ∧ qeu l i ≤ 4
theorem qft : ∀ (l : List Cell) (r p : Int), qfn r p l = true → ∀ i, 0 ≤ qeu l i ∧ qeu l i ≤ 4
  | [], r, p, h, i => by simp [qeu]
  | x :: l, r, p, h, i => by
    simp only [qfn, Bool.and_eq_true] at h
    cases i with
    | zero => have := lev0 (qdu h.1).2.2.1; simpa [qeu] using this
    | succ i => have := qft l r _ h.2.2 i; simpa [qeu] using this
def qhl (l : List Cell) : Nat → Nat → Int
  | 0, _ => -1
  | n + 1, i => if 1 < qeu l i - qeu l (i + 1) ∨ qeu l i - qeu l (i + 1) < -1 then (i : Int) else qhl l n (i + 1)
def unb (l : List Cell) : Int := qhl l (l.length - 1) 0
theorem qax (k : Nat) (hk : 2000000 ≤ k) (a : Int) (h : -9223372036854775807 ≤ a) (h' : a ≤ 9223372036854775807) : go (k + 1) impl_absolute [(.int .i64 (a))] = some [.int .i64 (max (0 - a) a)] := by
  rw [qco]; simp (disch := omega) only [qhs, imax]
theorem qff (k : Nat) (hk : 2000000 ≤ k) (fu : List (Nat × Nat)) (z : Bool) (l : List Cell) (r : Int) (hl : (l.length : Int) ≤ 1048576) (hv : qaa l) : ∀ (n i : Nat), i ≤ l.length → l.length - 1 - i < n →
    lp k spec_l05First [] fu 2 (n) (qg2 (i : Int) z l r) = some [.int .i64 (qhl l (l.length - 1 - i) i)]
  | 0, i, hi, hn => by omega
  | n + 1, i, hi, hn => by
    rw [qeq]
    by_cases h : i + 1 < l.length
    · have e := qff k hk fu z l r hl hv n (i + 1) (by omega) (by omega)
      have h1 := hv i; have h2 := hv (i + 1)
      simp only [qeu] at h1 h2
      simp (disch := omega) only [qbt, qhs, nI, dT, Bool.and_true, Int.toNat_natCast, e, qb4]
      rw [show l.length - 1 - i = (l.length - 1 - (i + 1)) + 1 by omega, qhl]
      simp only [qeu]
      by_cases g : 1 < (l.getD i zz3).2.1 - (l.getD (i + 1) zz3).2.1
      · simp (disch := omega) only [dT, dF, qb3, qb4]; rw [if_pos (Or.inl g)]
      · by_cases g2 : (l.getD i zz3).2.1 - (l.getD (i + 1) zz3).2.1 < -1
        · simp (disch := omega) only [dF, dT, qb4, qb3]; rw [if_pos (Or.inr g2)]
        · simp (disch := omega) only [dF, qb3]; rw [if_neg (not_or.2 ⟨g, g2⟩)]
    · simp (disch := omega) only [qbt, qhs, nI, dF, dT, Bool.true_and, Bool.and_false, Int.toNat_natCast, qb3]
      rw [show l.length - 1 - i = 0 by omega]; rfl
theorem qbo (k : Nat) (hk : 2000000 ≤ k) (a0 : Int) (a1z : Bool) (a1 : List (Int × Int × Int)) (hl : (a1.length : Int) ≤ 1048576) (hv : qaa a1) : go (k + 1) spec_l05First [(.agg [(.int .i64 (a0)), (.arr false (a1z) (.r3 (a1)))])] = some [.int .i64 (unb a1)] := by
  rw [qdh]
  exact qff k hk [] a1z a1 a0 hl hv _ 0 (by omega) (by omega)
theorem qe9 (k : Nat) (hk : 2000000 ≤ k) (fu : List (Nat × Nat)) (z : Bool) (l : List Cell) (r : Int) (hl : (l.length : Int) ≤ 1048576) (hv : qaa l) : ∀ (n i : Nat), i ≤ l.length → l.length - 1 - i < n →
    lp (k + 1) impl_Mesh_unbalanced [] fu 2 (n) (qgl ((l.length : Int) - 1) (i : Int) z l r) = some [.int .i64 (qhl l (l.length - 1 - i) i)]
  | 0, i, hi, hn => by omega
  | n + 1, i, hi, hn => by
    rw [qd9]
    by_cases h : i + 1 < l.length
    · have e := qe9 k hk fu z l r hl hv n (i + 1) (by omega) (by omega)
      have h1 := hv i; have h2 := hv (i + 1)
      simp only [qeu] at h1 h2
      simp (disch := omega) only [dT, nI, Bool.and_true, qbt, qhs, Int.toNat_natCast, qax, e, qai, nth0, qhk, qb4]
      rw [show l.length - 1 - i = (l.length - 1 - (i + 1)) + 1 by omega, qhl]
      simp only [qeu]
      by_cases g : 1 < (l.getD i zz3).2.1 - (l.getD (i + 1) zz3).2.1
      · simp (disch := omega) only [dT, qb4]; rw [if_pos (Or.inl g)]
      · by_cases g2 : (l.getD i zz3).2.1 - (l.getD (i + 1) zz3).2.1 < -1
        · simp (disch := omega) only [dT, qb4]; rw [if_pos (Or.inr g2)]
        · simp (disch := omega) only [dF, qb3]; rw [if_neg (not_or.2 ⟨g, g2⟩)]
    · simp (disch := omega) only [dF, dT, nI, Bool.true_and, qbt, qhs, Bool.and_false, Int.toNat_natCast, qb3]
      rw [show l.length - 1 - i = 0 by omega]; rfl
theorem qa4 (k : Nat) (hk : 2000000 ≤ k) (a0 : Int) (a1z : Bool) (a1 : List (Int × Int × Int)) (hl : (a1.length : Int) ≤ 1048576) (hv : qaa a1) : go (k + 2) impl_Mesh_unbalanced [(.agg [(.int .i64 (a0)), (.arr false (a1z) (.r3 (a1)))])] = some [.int .i64 (unb a1)] := by
  rw [qcg]
  simp (disch := omega) only [nI, qhs]
  exact qe9 k hk [] a1z a1 a0 hl hv _ 0 (by omega) (by omega)
def qad (r : Int) (l : List Cell) : Bool := qfn r 0 l && decide (unb l < 0)
theorem qaq (k : Nat) (hk : 2000000 ≤ k) (a0 : Int) (a1z : Bool) (a1 : List (Int × Int × Int)) (hl : (a1.length : Int) ≤ 1048576) : go (k + 7) impl_IsBalanced [(.agg [(.int .i64 (a0)), (.arr false (a1z) (.r3 (a1)))])] = some [.bool (qad a0 a1)] := by
  rw [qce]
  simp (disch := omega) only [qar, bit, qai, nth0, qhj]
  unfold qad
  cases h : qfn a0 0 a1
  · rfl
  · have hv : qaa a1 := qft _ _ _ h
    rw [qb4, qa4 _ (by omega) _ _ _ hl hv]; simp (disch := omega) only [qai, nth0, qhk, Bool.true_and]
def isum : List Int → Int
  | [] => 0
  | x :: l => x + isum l
theorem qd2 {B : Int} : ∀ (l : List Int), (∀ x ∈ l, 0 ≤ x ∧ x ≤ B) → 0 ≤ isum l ∧ isum l ≤ B * l.length
  | [], h => by simp [isum]
  | x :: l, h => by
    have := qd2 l fun y hy => h y (by simp [hy])
    have h2 := h x (by simp)
    simp only [isum, List.length_cons, Int.natCast_add, Int.natCast_one, Int.mul_add, Int.mul_one]; omega
theorem qd1 {B : Int} (hB : 0 ≤ B) : ∀ (l : List Int) (i : Nat), (∀ x ∈ l, 0 ≤ x ∧ x ≤ B) → 0 ≤ isum (l.drop i) ∧ isum (l.drop i) ≤ isum l
  | [], i, h => by simp [isum]
  | x :: l, 0, h => by have := qd2 (x :: l) h; simp only [List.drop_zero]; omega
  | x :: l, i + 1, h => by
    have := qd1 hB l i fun y hy => h y (by simp [hy])
    have h2 := h x (by simp)
    simp only [isum, List.drop_succ_cons]; omega
theorem qe8 (k : Nat) (hk : 2000000 ≤ k) (fu : List (Nat × Nat)) (z : Bool) (l : List Int) (hl : (l.length : Int) ≤ 1048576) (hb : ∀ x ∈ l, 0 ≤ x ∧ x ≤ 1000000000000) : ∀ (n i : Nat) (s : Int), i ≤ l.length → l.length - i < n → s + isum (l.drop i) = isum l → 0 ≤ s →
    lp k impl_sum [] fu 3 (n) (qgo s (l.length : Int) (i : Int) z l) = some [.int .i64 (isum l)]
  | 0, i, s, hi, hn, hs, h0 => by omega
  | n + 1, i, s, hi, hn, hs, h0 => by
    rw [qec]
    by_cases h : i < l.length
    · rw [qb8 h 0] at hs
      simp only [isum] at hs
      have h1 := qd2 l hb
      have h2 := qd1 (by omega) l (i + 1) hb
      have h3 := hb _ (qds h 0)
      simp (disch := omega) only [dT, nI, Bool.and_true, Int.toNat_natCast, qhs, qbt, qb4]
      exact qe8 k hk fu z l hl hb n (i + 1) _ (by omega) (by omega) (by omega) (by omega)
    · rw [List.drop_of_length_le (by omega)] at hs
      simp only [isum] at hs
      simp (disch := omega) only [dF, dT, nI, Bool.and_false, Int.toNat_natCast, qbt, qhs, qb3]
      rw [show s = isum l by omega]
theorem qa3 (k : Nat) (hk : 2000000 ≤ k) (az : Bool) (a : List Int) (hl : (a.length : Int) ≤ 1048576) (hb : ∀ x ∈ a, 0 ≤ x ∧ x ≤ 1000000000000) : go (k + 1) impl_sum [(.arr false (az) (.ints .i64 (a)))] = some [.int .i64 (isum a)] := by
  rw [qcs]
  exact qe8 k hk [] az a hl hb _ 0 0 (by omega) (by omega) (by simp) (by omega)
def qfi : List Int → List Int → Bool
  | m :: ms, t :: ts => inR m 0 10000000 && (inR t 0 (1000 * m) && qfi ms ts)
  | _, _ => true
theorem qfk : ∀ (ms ts : List Int), ms.length = ts.length → qfi ms ts = true → (∀ x ∈ ms, 0 ≤ x ∧ x ≤ 10000000) ∧ (∀ x ∈ ts, 0 ≤ x ∧ x ≤ 10000000000)
  | [], ts, hl, h => by cases ts <;> simp_all
  | m :: ms, [], hl, h => by simp at hl
  | m :: ms, t :: ts, hl, h => by
    simp only [qfi, Bool.and_eq_true, qdy] at h
    have := qfk ms ts (by simpa using hl) h.2.2
    refine ⟨fun x hx => ?_, fun x hx => ?_⟩
    · rcases List.mem_cons.1 hx with rfl | hx
      · exact h.1
      · exact this.1 x hx
    · rcases List.mem_cons.1 hx with rfl | hx
      · omega
      · exact this.2 x hx
theorem qfj : ∀ (ms ts : List Int), ms.length = ts.length → qfi ms ts = true → ∀ i, 0 ≤ ms.getD i 0 ∧ ms.getD i 0 ≤ 10000000 ∧ 0 ≤ ts.getD i 0 ∧ ts.getD i 0 ≤ 1000 * ms.getD i 0
  | [], ts, hl, h, i => by cases ts <;> simp_all
  | m :: ms, [], hl, h, i => by simp at hl
  | m :: ms, t :: ts, hl, h, i => by
    simp only [qfi, Bool.and_eq_true, qdy] at h
    cases i with
    | zero => simp; omega
    | succ i => have := qfj ms ts (by simpa using hl) h.2.2 i; simpa using this
def qag : List Int → Bool
  | [] => true
  | b :: l => inR b 0 1000000 && qag l
def stOk (r : Int) (l : List Cell) (m t b : List Int) : Bool :=
  qad r l && (decide (m.length = l.length) && (decide (t.length = l.length) && (decide ((b.length : Int) = r) && (qfi m t && (qag b && decide (isum m ≤ 10000000))))))
theorem qa1 (k : Nat) (hk : 2000000 ≤ k) (a : Int) : go (k + 2) impl_isBed [(.int .i64 (a))] = some [.bool (inR a 0 1000000)] := by
  rw [qcq]; simp (disch := omega) only [qa5, bit, qai, nth0, qhj]
theorem qa0 (k : Nat) (hk : 2000000 ≤ k) (a : Int) : go (k + 3) impl_State_hasCells_1 [(.int .i64 (a))] = some [.bool (!inR a 0 1000000)] := by
  rw [qcm]; simp (disch := omega) only [qa1, bit, qai, nth0, qhj]
theorem qfa (k : Nat) (hk : 2000000 ≤ k) (fu : List (Nat × Nat)) (z : Bool) (l : List Int) (hl : (l.length : Int) ≤ 1048576) : ∀ (n i : Nat), i ≤ l.length → l.length - i < n →
    ∃ j : Int, lp (k + 3) slices_IndexFunc_int_int [] fu 2 (n) (qgx (l.length : Int) (i : Int) z l) = some [.int .i64 j] ∧ decide (0 ≤ j) = !qag (l.drop i)
  | 0, i, hi, hn => by omega
  | n + 1, i, hi, hn => by
    rw [qel]
    by_cases h : i < l.length
    · rw [qb8 h 0]
      obtain ⟨j, e1, e2⟩ := qfa k hk fu z l hl n (i + 1) (by omega) (by omega)
      simp (disch := omega) only [dT, nI, Bool.and_true, Int.toNat_natCast, qa0, bit, qbt, qhs, e1, qai, nth0, qhj, qb4, qag]
      cases inR (l.getD i 0) 0 1000000
      · exact ⟨i, rfl, by rw [dT (by omega)]; rfl⟩
      · exact ⟨j, rfl, by rw [e2]; rfl⟩
    · rw [List.drop_of_length_le (by omega)]
      simp (disch := omega) only [dF, dT, nI, Bool.and_false, Int.toNat_natCast, bit, qbt, qhs, qb3, qag, Bool.not_true]
      exact ⟨-1, rfl, rfl⟩
theorem qak (k : Nat) (hk : 2000000 ≤ k) (z : Bool) (l : List Int) (hl : (l.length : Int) ≤ 1048576) : go (k + 5) slices_ContainsFunc_int_int [.arr false z (.ints .i64 l), .fn impl_State_hasCells_1 []] = some [.bool (!qag l)] := by
  rw [qcy, qc1]
  obtain ⟨j, e1, e2⟩ := qfa k hk [] z l hl (k + 3) 0 (by omega) (by omega)
  have e1' := e1
  simp only [nI] at *
  rw [show ((0 : Nat) : Int) = 0 from rfl] at e1'
  rw [e1']
  simp (disch := omega) only [qai, nth0, qhk]
  rw [show decide ((0 : Int) ≤ j) = !qag l from e2]
theorem qe4 (k : Nat) (hk : 2000000 ≤ k) (fu : List (Nat × Nat)) (r : Int) (z1 z2 z3 z4 : Bool) (l : List Cell) (m t b : List Int) (hm : (m.length : Int) ≤ 1048576) (ht : t.length = m.length) (s : List D)
    (hs : qfi m t = true → go (k + 5) impl_sum [.arr false z2 (.ints .i64 m)] = some [.int .i64 (isum m)]) (P : Bool) : ∀ (n i : Nat), i ≤ m.length → m.length - i < n → (qfi (m.drop i) (t.drop i) = true → qfi m t = true) →
    lp (k + 5) impl_State_hasCells [] fu 5 (n) (qgn (m.length : Int) (i : Int) z1 l z2 m z3 t z4 b r) = some [.bool (qfi (m.drop i) (t.drop i) && decide (isum m ≤ 10000000))]
  | 0, i, hi, hn, hq => by omega
  | n + 1, i, hi, hn, hq => by
    rw [qeb]
    by_cases h : i < m.length
    · rw [qb8 h 0, qb8 (l := t) (by omega : i < t.length) 0] at hq ⊢
      by_cases h1 : inR (m.getD i 0) 0 10000000 = true
      · have h2 := qdy.1 h1
        by_cases h3 : inR (t.getD i 0) 0 (1000 * m.getD i 0) = true
        · have e := qe4 k hk fu r z1 z2 z3 z4 l m t b hm ht s hs P n (i + 1) (by omega) (by omega) (fun hh => hq (by simp only [qfi, h1, h3, hh, Bool.and_self]))
          simp (disch := omega) only [dT, nI, Bool.and_true, Int.toNat_natCast, qa5, h1, bit, qhs, h3, qbt, e, qai, nth0, qhj, Bool.not_true, qb3, qb4, qfi, Bool.true_and]
        · have h3 : inR (t.getD i 0) 0 (1000 * m.getD i 0) = false := by simpa using h3
          simp (disch := omega) only [dT, nI, Bool.and_true, Int.toNat_natCast, qa5, h1, bit, qhs, h3, qbt, qai, nth0, qhj, Bool.not_false, qb4, Bool.not_true, qb3, qfi, Bool.false_and, Bool.and_false]
      · have h1 : inR (m.getD i 0) 0 10000000 = false := by simpa using h1
        simp (disch := omega) only [dT, nI, Bool.and_true, Int.toNat_natCast, qa5, h1, bit, qbt, qhs, qai, nth0, qhj, qb4, Bool.not_false, qfi, Bool.false_and]
    · rw [List.drop_of_length_le (by omega), List.drop_of_length_le (by omega)] at hq ⊢
      have e := hs (hq rfl)
      simp (disch := omega) only [dF, dT, nI, Bool.and_false, Int.toNat_natCast, bit, qbt, qhs, qb3, e, qai, nth0, qhk, qfi, Bool.true_and]
theorem qaz (k : Nat) (hk : 2000000 ≤ k) (a0 : Int) (a1z : Bool) (a1 : List (Int × Int × Int)) (a2z : Bool) (a2 : List Int) (a3z : Bool) (a3 : List Int) (a4z : Bool) (a4 : List Int) (hl : (a1.length : Int) ≤ 1048576) (hb : (a4.length : Int) ≤ 1048576) : go (k + 6) impl_State_hasCells [(.agg [(.int .i64 (a0)), (.arr false (a1z) (.r3 (a1))), (.arr false (a2z) (.ints .i64 (a2))), (.arr false (a3z) (.ints .i64 (a3))), (.arr false (a4z) (.ints .i64 (a4)))])] = some [.bool (decide (a2.length = a1.length) && (decide (a3.length = a1.length) && (decide ((a4.length : Int) = a0) && (qfi a2 a3 && (qag a4 && decide (isum a2 ≤ 10000000))))))] := by
  rw [qcl]
  by_cases h1 : a2.length = a1.length
  case neg => simp (disch := omega) only [nI, dF, Bool.not_false, bit, qb4, Bool.false_and]
  by_cases h2 : a3.length = a1.length
  case neg => simp (disch := omega) only [nI, dT, Bool.not_true, dF, Bool.not_false, bit, qb4, qb3, Bool.false_and, Bool.and_false]
  by_cases h3 : (a4.length : Int) = a0
  case neg => simp (disch := omega) only [nI, dT, Bool.not_true, dF, Bool.not_false, bit, qb4, qb3, Bool.false_and, Bool.and_false]
  simp (disch := omega) only [nI, dT, Bool.not_true, qak, bit, qai, nth0, qhj, qb3, Bool.true_and]
  cases h5 : qag a4
  · cases qfi a2 a3 <;> rfl
  have e := qe4 k hk [] a0 a1z a2z a3z a4z a1 a2 a3 a4 (by omega) (by omega) [] (fun hm => by
    have hx := (qfk a2 a3 (by omega) hm).1
    exact qa3 _ (by omega) _ _ (by omega) (fun x hh => by have := hx x hh; omega)) true (k + 5) 0 (by omega) (by omega) (fun h => h)
  simp only [List.drop_zero] at e
  simp only [Bool.not_true, qb3, Bool.true_and]
  exact e
theorem qav (k : Nat) (hk : 2000000 ≤ k) (a0 : Int) (a1z : Bool) (a1 : List (Int × Int × Int)) (a2z : Bool) (a2 : List Int) (a3z : Bool) (a3 : List Int) (a4z : Bool) (a4 : List Int) (hl : (a1.length : Int) ≤ 1048576) (hb : (a4.length : Int) ≤ 1048576) : go (k + 8) impl_StateOk [(.agg [(.int .i64 (a0)), (.arr false (a1z) (.r3 (a1))), (.arr false (a2z) (.ints .i64 (a2))), (.arr false (a3z) (.ints .i64 (a3))), (.arr false (a4z) (.ints .i64 (a4)))])] = some [.bool (stOk a0 a1 a2 a3 a4)] := by
  rw [qck]
  simp (disch := omega) only [qaq, bit, qaz, qai, nth0, qhj]
  unfold stOk
  cases qad a0 a1 <;> rfl
end Go.Proofs.Ytcaapedadpnjoaa
end
section
namespace Go.Proofs.Ytcaapedadpnjoaa
open Go.Ev
theorem qhq {l : Int} (h : inR l 0 4 = true) : 1 ≤ qhp l ∧ qhp l ≤ 16 := by
  rcases lev h with rfl | rfl | rfl | rfl | rfl <;> decide
theorem qho {x : Cell} (h : idOk x.1 x.2.1 x.2.2 = true) : qhc x.1 x.2.1 x.2.2 = x.1 * 16 + x.2.2 * qhp x.2.1 ∧ 0 ≤ x.2.2 * qhp x.2.1 ∧ 1 ≤ qhp x.2.1 := by
  have := qdu h
  exact ⟨by simp [qhc, h], (iw h).1, (qhq this.2.2.1).1⟩
theorem qfr : ∀ (l : List Cell) (r p : Int), qfn r p l = true → 1 ≤ r ∧ r ≤ 8 ∧ p + l.length ≤ 16 * r ∧ (∀ i, i < l.length → 0 ≤ (l.getD i zz3).1 ∧ (l.getD i zz3).1 < r ∧ idOk (l.getD i zz3).1 (l.getD i zz3).2.1 (l.getD i zz3).2.2 = true) ∧ (l = [] → p = 16 * r)
  | [], r, p, h => by
    simp only [qfn, Bool.and_eq_true, qdy, decide_eq_true_eq] at h
    simp; omega
  | x :: l, r, p, h => by
    simp only [qfn, Bool.and_eq_true, decide_eq_true_eq] at h
    obtain ⟨h1, h2, h3⟩ := h
    have w := qho h1
    have ih := qfr l r _ h3
    have ds := qdu h1
    refine ⟨ih.1, ih.2.1, by simp only [List.length_cons]; omega, fun i hi => ?_, by simp⟩
    cases i with
    | zero => simp only [List.getD_cons_zero]; refine ⟨by omega, by omega, h1⟩
    | succ i => simp only [List.getD_cons_succ]; exact ih.2.2.2.1 i (by simpa using hi)
theorem qfs {l : List Cell} {r : Int} (h : qfn r 0 l = true) : 1 ≤ l.length ∧ l.length ≤ 128 := by
  have f := qfr l r 0 h
  cases l with
  | nil => have := f.2.2.2.2 rfl; omega
  | cons x l => simp only [List.length_cons] at f ⊢; omega
structure StF (r : Int) (l : List Cell) (m t b : List Int) : Prop where
  mesh : qfn r 0 l = true
  bal : unb l < 0
  ml : m.length = l.length
  tl : t.length = l.length
  bl : (b.length : Int) = r
  mt : qfi m t = true
  bed : qag b = true
  sum : isum m ≤ 10000000
theorem stF {r : Int} {l : List Cell} {m t b : List Int} : stOk r l m t b = true ↔ StF r l m t b := by
  unfold stOk qad
  simp only [Bool.and_eq_true, decide_eq_true_eq]
  exact ⟨fun h => ⟨h.1.1, h.1.2, h.2.1, h.2.2.1, h.2.2.2.1, h.2.2.2.2.1, h.2.2.2.2.2.1, h.2.2.2.2.2.2⟩, fun h => ⟨⟨h.mesh, h.bal⟩, h.ml, h.tl, h.bl, h.mt, h.bed, h.sum⟩⟩
section
variable {r : Int} {l : List Cell} {m t b : List Int}
theorem StF.len (F : StF r l m t b) : 1 ≤ l.length ∧ l.length ≤ 128 := qfs F.mesh
theorem StF.rr (F : StF r l m t b) : 1 ≤ r ∧ r ≤ 8 := ⟨(qfr l r 0 F.mesh).1, (qfr l r 0 F.mesh).2.1⟩
theorem StF.lev (F : StF r l m t b) (i : Nat) : inR (l.getD i zz3).2.1 0 4 = true := by
  have := qft l r 0 F.mesh i
  simp only [qeu] at this
  rw [qdy]; exact this
theorem StF.at (F : StF r l m t b) (i : Nat) : 0 ≤ m.getD i 0 ∧ m.getD i 0 ≤ 10000000 ∧ 0 ≤ t.getD i 0 ∧ t.getD i 0 ≤ 1000 * m.getD i 0 := qfj m t (by rw [F.ml, F.tl]) F.mt i
end
end Go.Proofs.Ytcaapedadpnjoaa
end
section
namespace Go.Proofs.Ytcaapedadpnjoaa
open Go.Ev
theorem qbj (k : Nat) (hk : 2000000 ≤ k) (a0 : Int) (a1z : Bool) (a1 : List (Int × Int × Int)) (h1 : (a1.length : Int) ≤ 1048576) : go (k + 1) spec_l04Copy [(.agg [(.int .i64 (a0)), (.arr false (a1z) (.r3 (a1)))])] = some [.agg [.int .i64 a0, .arr true false (.r3 a1)]] := by
  rw [qdc]
  simp (disch := omega) only [qfv, big0, dT, Bool.false_and, qb4]
theorem qbr (k : Nat) (hk : 2000000 ≤ k) (a0 : Int) (a1z : Bool) (a1 : List (Int × Int × Int)) (a2z : Bool) (a2 : List Int) (a3z : Bool) (a3 : List Int) (a4z : Bool) (a4 : List Int) (h1 : (a1.length : Int) ≤ 1048576) (h2 : (a2.length : Int) ≤ 1048576) (h3 : (a3.length : Int) ≤ 1048576) (h4 : (a4.length : Int) ≤ 1048576) : go (k + 2) spec_l07Copy [(.agg [(.int .i64 (a0)), (.arr false (a1z) (.r3 (a1))), (.arr false (a2z) (.ints .i64 (a2))), (.arr false (a3z) (.ints .i64 (a3))), (.arr false (a4z) (.ints .i64 (a4)))])] = some [.agg [.int .i64 a0, .arr true false (.r3 a1), .arr true false (.ints .i64 a2), .arr true false (.ints .i64 a3), .arr true false (.ints .i64 a4)]] := by
  rw [qdk]
  simp (disch := omega) only [qbj, qfv, big0, dT, Bool.false_and, qb4, qai, nth0, qbu, qhk, qbv, qfw, qf3]
theorem qa7 (k : Nat) (hk : 2000000 ≤ k) (a : List Int) (hl : (a.length : Int) ≤ 1048576) : go (k + 1) slices_Clone_int_int [.arr false false (.ints .i64 a)] = some [.arr true false (.ints .i64 a)] := by
  rw [qcw]
  simp (disch := omega) only [qfv, big0, dT, Bool.false_and, qb4, qb3]
end Go.Proofs.Ytcaapedadpnjoaa
end
section
namespace Go.Proofs.Ytcaapedadpnjoaa
open Go.Ev
theorem qb9 {α : Type} {l l' : List α} {i : Nat} (h : i < l.length) (h' : i < l'.length) (d : α) : l.drop i = l'.drop i ↔ l.getD i d = l'.getD i d ∧ l.drop (i + 1) = l'.drop (i + 1) := by
  rw [qb8 h d, qb8 h' d]; simp
theorem qet {α : Type} {l l' : List α} (h : ¬ l.length = l'.length) : ¬ l = l' := fun e => h (by rw [e])
theorem qbz (x y : Cell) : (decide (x.1 = y.1) && (decide (x.2.1 = y.2.1) && decide (x.2.2 = y.2.2))) = decide (x = y) := by
  obtain ⟨a, b, c⟩ := x; obtain ⟨a', b', c'⟩ := y
  rw [Bool.eq_iff_iff]; simp
theorem qfb (k : Nat) (hk : 2000000 ≤ k) (fu : List (Nat × Nat)) (z z' : Bool) (l l' : List Cell) (hl : (l.length : Int) ≤ 1048576) (he : l'.length = l.length) : ∀ (n i : Nat), i ≤ l.length → l.length - i < n →
    lp k slices_Equal_impl_Id_impl_Id [] fu 4 (n) (qgv (l.length : Int) (i : Int) z l z' l') = some [.bool (decide (l.drop i = l'.drop i))]
  | 0, i, hi, hn => by omega
  | n + 1, i, hi, hn => by
    rw [qej]
    by_cases h : i < l.length
    · have e := qfb k hk fu z z' l l' hl he n (i + 1) (by omega) (by omega)
      by_cases g : l.getD i zz3 = l'.getD i zz3
      · simp (disch := omega) only [dT, nI, Bool.and_true, Int.toNat_natCast, g, dTT, Bool.not_true, qbt, qhs, e, qb3, qb4]
        exact congrArg (fun b => some [D.bool b]) (by simp only [qb9 h (by omega : i < l'.length) zz3, g, true_and])
      · simp (disch := omega) only [dT, nI, Bool.and_true, Int.toNat_natCast, qbz, dF, Bool.not_false, qbt, qhs, e, qb4]
        exact congrArg (fun b => some [D.bool b]) (by rw [dF]; rw [qb9 h (by omega : i < l'.length) zz3]; exact fun hh => g hh.1)
    · simp (disch := omega) only [dF, dT, nI, Bool.and_false, Int.toNat_natCast, Bool.and_true, qbt, qhs, qb3]
      rw [List.drop_of_length_le (by omega), List.drop_of_length_le (by omega)]; rfl
theorem qa8 (k : Nat) (hk : 2000000 ≤ k) (az : Bool) (a : List (Int × Int × Int)) (bz : Bool) (b : List (Int × Int × Int)) (hl : (a.length : Int) ≤ 1048576) : go (k + 1) slices_Equal_impl_Id_impl_Id [(.arr false (az) (.r3 (a))), (.arr false (bz) (.r3 (b)))] = some [.bool (decide (a = b))] := by
  rw [qcz]
  by_cases h : a.length = b.length
  · simp (disch := omega) only [nI, dT, Bool.not_true, qb3]
    have e := qfb k hk [] az bz a b hl (by omega) (k + 0) 0 (by omega) (by omega)
    simp only [List.drop_zero] at e; exact e
  · simp (disch := omega) only [nI, dF, Bool.not_false, qb4]
    rw [dF (qet h)]
def qg5 (r r' : Int) (l l' : List Cell) : Bool := decide (r = r') && decide (l = l')
theorem qas (k : Nat) (hk : 2000000 ≤ k) (a0 : Int) (a1z : Bool) (a1 : List (Int × Int × Int)) (b0 : Int) (b1z : Bool) (b1 : List (Int × Int × Int)) (hl : (a1.length : Int) ≤ 1048576) : go (k + 2) impl_SameMesh [(.agg [(.int .i64 (a0)), (.arr false (a1z) (.r3 (a1)))]), (.agg [(.int .i64 (b0)), (.arr false (b1z) (.r3 (b1)))])] = some [.bool (qg5 a0 b0 a1 b1)] := by
  rw [qch]
  simp (disch := omega) only [qa8, bit, qai, nth0, qhj]
  unfold qg5
  cases decide (a0 = b0) <;> rfl
end Go.Proofs.Ytcaapedadpnjoaa
end
section
namespace Go.Proofs.Ytcaapedadpnjoaa
open Go.Ev
def qgj (x0 x1 : Int) (z2 : Bool) (l3 : List Int) (z4 : Bool) (l5 : List Int) (z6 : Bool) (l7 : List Int) : St := ⟨fill 48 [(1, (.sl 0 none)), (2, (.sl 1 none)), (29, (.sl 2 none)), (30, (.int .i64 (x0))), (31, (.int .i64 (x1)))], [], [(.arr false (z2) (.ints .i64 (l3))), (.arr false (z4) (.ints .i64 (l5))), (.arr false (z6) (.ints .i64 (l7)))]⟩
theorem qcd (k : Nat) (a0 : Int) (a1z : Bool) (a1 : List (Int × Int × Int)) (a2z : Bool) (a2 : List Int) (a3z : Bool) (a3 : List Int) (a4z : Bool) (a4 : List Int) (bz : Bool) (b : List Int) (cz : Bool) (c : List Int) : go (k + 1) impl_InEnvelope [(.agg [(.int .i64 (a0)), (.arr false (a1z) (.r3 (a1))), (.arr false (a2z) (.ints .i64 (a2))), (.arr false (a3z) (.ints .i64 (a3))), (.arr false (a4z) (.ints .i64 (a4)))]), (.arr false (bz) (.ints .i64 (b))), (.arr false (cz) (.ints .i64 (c)))] =
 (go k impl_StateOk [(.agg [(.int .i64 (a0)), (.arr false (a1z) (.r3 (a1))), (.arr false (a2z) (.ints .i64 (a2))), (.arr false (a3z) (.ints .i64 (a3))), (.arr false (a4z) (.ints .i64 (a4)))])]).bind fun r0 =>
 cond (!bit (nth r0 0))
 (some [(.bool (false))])
 (cond (!decide (nI (List.length b) = nI (List.length a2)))
 (some [(.bool (false))])
 (cond (!decide (nI (List.length c) = nI (List.length a2)))
 (some [(.bool (false))])
 (lp k impl_InEnvelope [] [] 4 k (qgj (nI (List.length a2)) (0 : Int) bz b cz c a2z a2)))) := by kernel_rfl
theorem qd7 (k n : Nat) (fu : List (Nat × Nat)) (x0 x1 : Int) (z2 : Bool) (l3 : List Int) (z4 : Bool) (l5 : List Int) (z6 : Bool) (l7 : List Int) : lp k impl_InEnvelope [] fu 4 (n + 1) (qgj x0 x1 z2 l3 z4 l5 z6 l7) =
 cond (decide (x1 < x0))
 (cond (decide ((0 : Int) ≤ x1) && decide (x1 < nI (List.length l7)))
 (cond (decide ((0 : Int) ≤ x1) && decide (x1 < nI (List.length l3)))
 (cond (decide ((0 : Int) ≤ x1) && decide (x1 < nI (List.length l5)))
 ((go k impl_within [(.int .i64 (List.getD l7 (Int.toNat x1) (0 : Int))), (.int .i64 (List.getD l3 (Int.toNat x1) (0 : Int))), (.int .i64 (List.getD l5 (Int.toNat x1) (0 : Int)))]).bind fun r0 =>
 cond (!bit (nth r0 0))
 (some [(.bool (false))])
 (lp k impl_InEnvelope [] fu 4 n (qgj x0 (IntKind.wrap .i64 (x1 + (1 : Int))) z2 l3 z4 l5 z6 l7)))
 (none))
 (none))
 (none))
 (some [(.bool (true))]) := by kernel_rfl

end Go.Proofs.Ytcaapedadpnjoaa
end
section
namespace Go.Proofs.Ytcaapedadpnjoaa
open Go.Ev
def qdv : List Int → List Int → List Int → Bool
  | x :: m, lo :: l, hi :: h => inR x lo hi && qdv m l h
  | _, _, _ => true
theorem qe5 (k : Nat) (hk : 2000000 ≤ k) (fu : List (Nat × Nat)) (z1 z2 z3 : Bool) (m lo hi : List Int) (hm : (m.length : Int) ≤ 1048576) (h1 : lo.length = m.length) (h2 : hi.length = m.length) : ∀ (n i : Nat), i ≤ m.length → m.length - i < n →
    lp (k + 8) impl_InEnvelope [] fu 4 (n) (qgj (m.length : Int) (i : Int) z1 lo z2 hi z3 m) = some [.bool (qdv (m.drop i) (lo.drop i) (hi.drop i))]
  | 0, i, hi_, hn => by omega
  | n + 1, i, hi_, hn => by
    rw [qd7]
    by_cases h : i < m.length
    · rw [qb8 h 0, qb8 (l := lo) (by omega : i < lo.length) 0, qb8 (l := hi) (by omega : i < hi.length) 0]
      have e := qe5 k hk fu z1 z2 z3 m lo hi hm h1 h2 n (i + 1) (by omega) (by omega)
      simp (disch := omega) only [dT, nI, Bool.and_true, Int.toNat_natCast, qa5, bit, qbt, qhs, e, qb5, qai, nth0, qhj, qb4, qdv]
    · rw [List.drop_of_length_le (by omega)]
      simp (disch := omega) only [dF, dT, nI, Bool.and_false, Int.toNat_natCast, bit, qbt, qhs, qb3, qdv]
def qdx (r : Int) (l : List Cell) (m t b lo hi : List Int) : Bool := stOk r l m t b && (decide (lo.length = m.length) && (decide (hi.length = m.length) && qdv m lo hi))
theorem qap (k : Nat) (hk : 2000000 ≤ k) (a0 : Int) (a1z : Bool) (a1 : List (Int × Int × Int)) (a2z : Bool) (a2 : List Int) (a3z : Bool) (a3 : List Int) (a4z : Bool) (a4 : List Int) (bz : Bool) (b : List Int) (cz : Bool) (c : List Int) (h1 : (a1.length : Int) ≤ 1048576) (h2 : (a4.length : Int) ≤ 1048576) : go (k + 9) impl_InEnvelope [(.agg [(.int .i64 (a0)), (.arr false (a1z) (.r3 (a1))), (.arr false (a2z) (.ints .i64 (a2))), (.arr false (a3z) (.ints .i64 (a3))), (.arr false (a4z) (.ints .i64 (a4)))]), (.arr false (bz) (.ints .i64 (b))), (.arr false (cz) (.ints .i64 (c)))] = some [.bool (qdx a0 a1 a2 a3 a4 b c)] := by
  rw [qcd]
  simp (disch := omega) only [qav, bit, nI, qai, nth0, qhj]
  unfold qdx
  cases g1 : stOk a0 a1 a2 a3 a4
  · rfl
  have F := stF.1 g1; have := F.ml
  by_cases q1 : b.length = a2.length
  case neg => simp (disch := omega) only [Bool.not_true, dF, Bool.not_false, qb4, qb3, Bool.false_and, Bool.and_false]
  by_cases q2 : c.length = a2.length
  case neg => simp (disch := omega) only [Bool.not_true, dT, dF, Bool.not_false, qb4, qb3, Bool.false_and, Bool.and_false]
  have e := qe5 k hk [] bz cz a2z a2 b c (by omega) q1 q2 (k + 8) 0 (by omega) (by omega)
  simp (disch := omega) only [Bool.not_true, dT, qb3, Bool.true_and]
  exact e
end Go.Proofs.Ytcaapedadpnjoaa
end
section
namespace Go.Proofs.Ytcaapedadpnjoaa
open Go.Ev
def okp : Int → List Cell → Bool
  | _, [] => true
  | p, x :: l => idOk x.1 x.2.1 x.2.2 && (decide (qhc x.1 x.2.1 x.2.2 = p) && okp (p + qhp x.2.1) l)
def endp : Int → List Cell → Int
  | p, [] => p
  | p, x :: l => endp (p + qhp x.2.1) l
theorem qfo : ∀ (l : List Cell) (r p : Int), qfn r p l = (okp p l && (inR r 1 8 && decide (endp p l = r * 16)))
  | [], r, p => rfl
  | x :: l, r, p => by
    simp only [qfn, okp, endp]
    by_cases h : qhc x.1 x.2.1 x.2.2 = p
    · rw [h, qfo l r]; simp only [Bool.and_assoc]; rfl
    · rw [dF h]; simp
theorem qfp {l : List Cell} {r p : Int} : qfn r p l = true ↔ okp p l = true ∧ (1 ≤ r ∧ r ≤ 8) ∧ endp p l = r * 16 := by
  rw [qfo]; simp only [Bool.and_eq_true, qdy, decide_eq_true_eq]
theorem qfy {x : Cell} {l : List Cell} {p : Int} : okp p (x :: l) = true ↔ idOk x.1 x.2.1 x.2.2 = true ∧ qhc x.1 x.2.1 x.2.2 = p ∧ okp (p + qhp x.2.1) l = true := by
  simp only [okp, Bool.and_eq_true, decide_eq_true_eq]
theorem qdp (x : Cell) (l : List Cell) (p : Int) : endp p (x :: l) = endp (p + qhp x.2.1) l := rfl
theorem qfx : ∀ (a b : List Cell) (p : Int), okp p (a ++ b) = (okp p a && okp (endp p a) b)
  | [], b, p => by simp [okp, endp]
  | x :: a, b, p => by simp only [List.cons_append, okp, endp, qfx a b, Bool.and_assoc]
theorem qdo : ∀ (a b : List Cell) (p : Int), endp p (a ++ b) = endp (endp p a) b
  | [], b, p => by simp [endp]
  | x :: a, b, p => by simp only [List.cons_append, endp, qdo a b]
theorem qhm (l : List Cell) : ∀ n i, (qhl l n i < 0 ↔ ∀ j, i ≤ j → j < i + n → ¬ (1 < qeu l j - qeu l (j + 1) ∨ qeu l j - qeu l (j + 1) < -1)) ∧ (0 ≤ qhl l n i → ∃ j : Nat, qhl l n i = j ∧ i ≤ j ∧ j < i + n ∧ (1 < qeu l j - qeu l (j + 1) ∨ qeu l j - qeu l (j + 1) < -1))
  | 0, i => by refine ⟨⟨fun _ j h1 h2 => by omega, fun _ => by simp [qhl]⟩, fun h => by simp [qhl] at h⟩
  | n + 1, i => by
    have ih := qhm l n (i + 1)
    unfold qhl
    by_cases g : 1 < qeu l i - qeu l (i + 1) ∨ qeu l i - qeu l (i + 1) < -1
    · rw [if_pos g]
      refine ⟨⟨fun h => by omega, fun h => absurd g (h i (Nat.le_refl _) (by omega))⟩, fun _ => ⟨i, rfl, Nat.le_refl _, by omega, g⟩⟩
    · rw [if_neg g]
      refine ⟨⟨fun h j h1 h2 => ?_, fun h => ih.1.2 fun j h1 h2 => h j (by omega) (by omega)⟩, fun h => ?_⟩
      · by_cases e : j = i
        · subst e; exact g
        · exact ih.1.1 h j (by omega) (by omega)
      · obtain ⟨j, e, h1, h2, h3⟩ := ih.2 h
        exact ⟨j, e, by omega, by omega, h3⟩
theorem qhn {l : List Cell} (h : 0 ≤ unb l) : ∃ j : Nat, unb l = j ∧ j + 1 < l.length ∧ (1 < qeu l j - qeu l (j + 1) ∨ qeu l j - qeu l (j + 1) < -1) := by
  unfold unb at *
  obtain ⟨j, e, h1, h2, h3⟩ := (qhm l _ _).2 h
  exact ⟨j, e, by omega, h3⟩
end Go.Proofs.Ytcaapedadpnjoaa
end
section
namespace Go.Proofs.Ytcaapedadpnjoaa
open Go.Ev
theorem w0 : qhp 0 = 16 := by decide
theorem w1_ : qhp 1 = 8 := by decide
theorem w2_ : qhp 2 = 4 := by decide
theorem w3_ : qhp 3 = 2 := by decide
theorem w4_ : qhp 4 = 1 := by decide
theorem qdt {r l i : Int} : idOk r l i = true ↔ (0 ≤ r ∧ r ≤ 7) ∧ (0 ≤ l ∧ l ≤ 4) ∧ 0 ≤ i ∧ i < pow2 l := by
  simp only [idOk, Bool.and_eq_true, qdy, decide_eq_true_eq]
theorem qhe {r l i : Int} (h : idOk r l i = true) : qhc r l i = r * 16 + i * qhp l := by simp [qhc, h]
abbrev ch0 (x : Cell) : Cell := (x.1, x.2.1 + 1, 2 * x.2.2)
abbrev ch1 (x : Cell) : Cell := (x.1, x.2.1 + 1, 2 * x.2.2 + 1)
theorem qb0 {r l i : Int} (h : idOk r l i = true) (hl : l < 4) : idOk r (l + 1) (2 * i) = true ∧ idOk r (l + 1) (2 * i + 1) = true ∧ qhc r (l + 1) (2 * i) = qhc r l i ∧ qhc r (l + 1) (2 * i + 1) = qhc r l i + qhp (l + 1) ∧ qhp (l + 1) + qhp (l + 1) = qhp l := by
  have h' := qdt.1 h
  rcases lev (qdy.2 h'.2.1) with rfl | rfl | rfl | rfl | rfl
  · have p := h'.2.2; simp only [p20] at p
    have a : idOk r 1 (2 * i) = true := qdt.2 ⟨h'.1, by omega, by rw [p21]; omega⟩
    have b : idOk r 1 (2 * i + 1) = true := qdt.2 ⟨h'.1, by omega, by rw [p21]; omega⟩
    refine ⟨a, b, ?_, ?_, rfl⟩
    · show qhc r 1 (2 * i) = _; rw [qhe a, qhe h, w0, w1_]; omega
    · show qhc r 1 (2 * i + 1) = _ + qhp 1; rw [qhe b, qhe h, w0, w1_]; omega
  · have p := h'.2.2; simp only [p21] at p
    have a : idOk r 2 (2 * i) = true := qdt.2 ⟨h'.1, by omega, by rw [p22]; omega⟩
    have b : idOk r 2 (2 * i + 1) = true := qdt.2 ⟨h'.1, by omega, by rw [p22]; omega⟩
    refine ⟨a, b, ?_, ?_, rfl⟩
    · show qhc r 2 (2 * i) = _; rw [qhe a, qhe h, w1_, w2_]; omega
    · show qhc r 2 (2 * i + 1) = _ + qhp 2; rw [qhe b, qhe h, w1_, w2_]; omega
  · have p := h'.2.2; simp only [p22] at p
    have a : idOk r 3 (2 * i) = true := qdt.2 ⟨h'.1, by omega, by rw [p23]; omega⟩
    have b : idOk r 3 (2 * i + 1) = true := qdt.2 ⟨h'.1, by omega, by rw [p23]; omega⟩
    refine ⟨a, b, ?_, ?_, rfl⟩
    · show qhc r 3 (2 * i) = _; rw [qhe a, qhe h, w2_, w3_]; omega
    · show qhc r 3 (2 * i + 1) = _ + qhp 3; rw [qhe b, qhe h, w2_, w3_]; omega
  · have p := h'.2.2; simp only [p23] at p
    have a : idOk r 4 (2 * i) = true := qdt.2 ⟨h'.1, by omega, by rw [p24]; omega⟩
    have b : idOk r 4 (2 * i + 1) = true := qdt.2 ⟨h'.1, by omega, by rw [p24]; omega⟩
    refine ⟨a, b, ?_, ?_, rfl⟩
    · show qhc r 4 (2 * i) = _; rw [qhe a, qhe h, w3_, w4_]; omega
    · show qhc r 4 (2 * i + 1) = _ + qhp 4; rw [qhe b, qhe h, w3_, w4_]; omega
  · omega
def qg9 (l : List Cell) (i : Nat) : List Cell := l.take i ++ ch0 (l.getD i zz3) :: ch1 (l.getD i zz3) :: l.drop (i + 1)
theorem qha {l : List Cell} {i : Nat} (h : i < l.length) : (qg9 l i).length = l.length + 1 := by
  simp only [qg9, List.length_append, List.length_take, List.length_cons, List.length_drop]; omega
theorem qb7 {α : Type} {l : List α} {i : Nat} (h : i < l.length) (d : α) : l = l.take i ++ l.getD i d :: l.drop (i + 1) := by
  rw [← qb8 h d, List.take_append_drop]
theorem qhb {l : List Cell} {r p : Int} {i : Nat} (h : qfn r p l = true) (hi : i < l.length) (hl : (l.getD i zz3).2.1 < 4) : qfn r p (qg9 l i) = true := by
  rw [qfp] at *
  have e := qb7 hi zz3
  have h1 := h
  rw [e, qfx, qdo] at h1
  unfold qg9
  rw [qfx, qdo]
  simp only [qfy, qdp, Bool.and_eq_true] at h1 ⊢
  have c := qb0 h1.1.2.1 hl
  refine ⟨⟨h1.1.1, c.1, ?_, c.2.1, ?_, ?_⟩, h1.2.1, ?_⟩
  · rw [c.2.2.1]; exact h1.1.2.2.1
  · rw [c.2.2.2.1, h1.1.2.2.1]
  · rw [Int.add_assoc, c.2.2.2.2]; exact h1.1.2.2.2
  · rw [Int.add_assoc, c.2.2.2.2]; exact h1.2.2
def qb1 (l : List Cell) (i : Nat) : Nat := if qeu l (i + 1) < qeu l i then i + 1 else i
theorem qb2 {l : List Cell} {r p : Int} {i : Nat} (h : qfn r p l = true) (hi : i + 1 < l.length) (hu : 1 < qeu l i - qeu l (i + 1) ∨ qeu l i - qeu l (i + 1) < -1) : qb1 l i < l.length ∧ qeu l (qb1 l i) < 4 := by
  have h1 := qft _ _ _ h i; have h2 := qft _ _ _ h (i + 1)
  unfold qb1
  by_cases g : qeu l (i + 1) < qeu l i
  · rw [if_pos g]; exact ⟨hi, by omega⟩
  · rw [if_neg g]; exact ⟨by omega, by omega⟩
def balN : Nat → List Cell → List Cell
  | 0, l => l
  | n + 1, l => if unb l < 0 then l else balN n (qg9 l (qb1 l (unb l).toNat))
theorem qac : ∀ (n : Nat) (l : List Cell) (r : Int), qfn r 0 l = true → 129 ≤ n + l.length → qfn r 0 (balN n l) = true ∧ unb (balN n l) < 0
  | 0, l, r, h, hn => by have := qfs h; omega
  | n + 1, l, r, h, hn => by
    unfold balN
    by_cases g : unb l < 0
    · rw [if_pos g]; exact ⟨h, g⟩
    · rw [if_neg g]
      obtain ⟨j, e, h1, h2⟩ := qhn (by omega : 0 ≤ unb l)
      have c := qb2 h h1 h2
      rw [e, Int.toNat_natCast]
      exact qac n _ r (qhb h c.1 c.2) (by rw [qha c.1]; omega)
def bal (l : List Cell) : List Cell := balN (129 - l.length) l
theorem qae {l : List Cell} {r : Int} (h : qfn r 0 l = true) : qfn r 0 (bal l) = true ∧ unb (bal l) < 0 := qac _ l r h (by have := qfs h; omega)
end Go.Proofs.Ytcaapedadpnjoaa
end
section
namespace Go.Proofs.Ytcaapedadpnjoaa
open Go.Ev
def qhg (g : Nat → Int) : Nat → Int
  | 0 => 0
  | n + 1 => qhg g n + g n
theorem qd0 : ∀ (a b : List Int), isum (a ++ b) = isum a + isum b
  | [], b => by simp [isum]
  | x :: a, b => by simp only [List.cons_append, isum, qd0 a b]; omega
section
variable {r : Int} {l : List Cell} {m t b : List Int}
end
end Go.Proofs.Ytcaapedadpnjoaa
end
section
namespace Go.Proofs.Ytcaapedadpnjoaa
open Go.Ev
theorem qc9 (k : Nat) (v0 : Bool) (v1 : List Int) (v2 v3 : Int) : go (k + 1) spec_l01Byte [(.ptr true [(.arr false (v0) (.ints IntKind.u8 (v1))), (.int .i64 (v2)), (.int .i64 (v3))])] =
 cond (decide (v2 < nI (List.length v1)))
 (cond (decide ((0 : Int) ≤ v2) && decide (v2 < nI (List.length v1)))
 (some [(.int .i64 (bitN BinOp.and .i64 (IntKind.wrap .i64 (bitN BinOp.and .i64 (bitN BinOp.xor .i64 (Int.fdiv (IntKind.wrap .i64 (IntKind.wrap .i64 (v3 * (6364136223846793005 : Int)) + (1442695040888963407 : Int))) ((2 : Int) ^ shiftN .i64 (33 : Int))) (Int.fdiv (IntKind.wrap .i64 (IntKind.wrap .i64 (v3 * (6364136223846793005 : Int)) + (1442695040888963407 : Int))) ((2 : Int) ^ shiftN .i64 (45 : Int)))) (255 : Int) + IntKind.wrap .i64 (List.getD v1 (Int.toNat v2) (0 : Int)))) (255 : Int))), (.ptr true [(.arr false (v0) (.ints IntKind.u8 (v1))), (.int .i64 (IntKind.wrap .i64 (v2 + (1 : Int)))), (.int .i64 (IntKind.wrap .i64 (IntKind.wrap .i64 (v3 * (6364136223846793005 : Int)) + (1442695040888963407 : Int))))])])
 (none))
 (some [(.int .i64 (bitN BinOp.and .i64 (bitN BinOp.xor .i64 (Int.fdiv (IntKind.wrap .i64 (IntKind.wrap .i64 (v3 * (6364136223846793005 : Int)) + (1442695040888963407 : Int))) ((2 : Int) ^ shiftN .i64 (33 : Int))) (Int.fdiv (IntKind.wrap .i64 (IntKind.wrap .i64 (v3 * (6364136223846793005 : Int)) + (1442695040888963407 : Int))) ((2 : Int) ^ shiftN .i64 (45 : Int)))) (255 : Int))), (.ptr true [(.arr false (v0) (.ints IntKind.u8 (v1))), (.int .i64 (v2)), (.int .i64 (IntKind.wrap .i64 (IntKind.wrap .i64 (v3 * (6364136223846793005 : Int)) + (1442695040888963407 : Int))))])]) := by kernel_rfl
theorem qc8 (k : Nat) (v0 : Bool) (v1 : List Int) (v2 v3 v4 : Int) : go (k + 1) spec_l01Below [(.ptr true [(.arr false (v0) (.ints IntKind.u8 (v1))), (.int .i64 (v2)), (.int .i64 (v3))]), (.int .i64 (v4))] =
 cond (decide (v4 ≤ (0 : Int)))
 (some [(.int .i64 (0 : Int)), (.ptr true [(.arr false (v0) (.ints IntKind.u8 (v1))), (.int .i64 (v2)), (.int .i64 (v3))])])
 (cond (decide (v4 ≤ (256 : Int)))
 ((go k spec_l01Byte [(.ptr true [(.arr false (v0) (.ints IntKind.u8 (v1))), (.int .i64 (v2)), (.int .i64 (v3))])]).bind fun r0 =>
 cond (!decide (v4 = (0 : Int)))
 (some [(.int .i64 (Int.tmod (D.toInt (nth r0 0)) v4)), (.ptr true [(.arr false (v0) (.ints IntKind.u8 (v1))), (.int .i64 (D.toInt (D.cell 1 (nth r0 1)))), (.int .i64 (D.toInt (D.cell 2 (nth r0 1))))])])
 (none))
 ((go k spec_l01Byte [(.ptr true [(.arr false (v0) (.ints IntKind.u8 (v1))), (.int .i64 (v2)), (.int .i64 (v3))])]).bind fun r1 =>
 (go k spec_l01Byte [(.ptr true [(.arr false (v0) (.ints IntKind.u8 (v1))), (.int .i64 (D.toInt (D.cell 1 (nth r1 1)))), (.int .i64 (D.toInt (D.cell 2 (nth r1 1))))])]).bind fun r2 =>
 (go k spec_l01Byte [(.ptr true [(.arr false (v0) (.ints IntKind.u8 (v1))), (.int .i64 (D.toInt (D.cell 1 (nth r2 1)))), (.int .i64 (D.toInt (D.cell 2 (nth r2 1))))])]).bind fun r3 =>
 (go k spec_l01Byte [(.ptr true [(.arr false (v0) (.ints IntKind.u8 (v1))), (.int .i64 (D.toInt (D.cell 1 (nth r3 1)))), (.int .i64 (D.toInt (D.cell 2 (nth r3 1))))])]).bind fun r4 =>
 cond (!decide (v4 = (0 : Int)))
 (some [(.int .i64 (Int.tmod (IntKind.wrap .i64 (IntKind.wrap .i64 (IntKind.wrap .i64 (IntKind.wrap .i64 (D.toInt (nth r1 0) * (16777216 : Int)) + IntKind.wrap .i64 (D.toInt (nth r2 0) * (65536 : Int))) + IntKind.wrap .i64 (D.toInt (nth r3 0) * (256 : Int))) + D.toInt (nth r4 0))) v4)), (.ptr true [(.arr false (v0) (.ints IntKind.u8 (v1))), (.int .i64 (D.toInt (D.cell 1 (nth r4 1)))), (.int .i64 (D.toInt (D.cell 2 (nth r4 1))))])])
 (none))) := by kernel_rfl
theorem qdb (k : Nat) (v0 : Bool) (v1 : List Int) (v2 v3 v4 : Int) : go (k + 1) spec_l01Once [(.ptr true [(.arr false (v0) (.ints IntKind.u8 (v1))), (.int .i64 (v2)), (.int .i64 (v3))]), (.int .i64 (v4))] =
 (go k spec_l01Below [(.ptr true [(.arr false (v0) (.ints IntKind.u8 (v1))), (.int .i64 (v2)), (.int .i64 (v3))]), (.int .i64 (v4))]).bind fun r0 =>
 some [(.bool (decide (D.toInt (nth r0 0) = (0 : Int)))), (.ptr true [(.arr false (v0) (.ints IntKind.u8 (v1))), (.int .i64 (D.toInt (D.cell 1 (nth r0 1)))), (.int .i64 (D.toInt (D.cell 2 (nth r0 1))))])] := by kernel_rfl
theorem qc3 (k : Nat) (a0 a1 a2 b : Int) : go (k + 1) spec_ChildOf [(.agg [(.int .i64 (a0)), (.int .i64 (a1)), (.int .i64 (a2))]), (.int .i64 (b))] =
 (go k spec_IdOk [(.agg [(.int .i64 (a0)), (.int .i64 (a1)), (.int .i64 (a2))])]).bind fun r0 =>
 cond (!bit (nth r0 0))
 (some [(.agg [(.int .i64 (0 : Int)), (.int .i64 (0 : Int)), (.int .i64 (0 : Int))]), (.bool (false))])
 (cond (decide (a1 = (4 : Int)))
 (some [(.agg [(.int .i64 (0 : Int)), (.int .i64 (0 : Int)), (.int .i64 (0 : Int))]), (.bool (false))])
 ((go k spec_l01In [(.int .i64 (b)), (.int .i64 (0 : Int)), (.int .i64 ((1 : Int)))]).bind fun r1 =>
 cond (!bit (nth r1 0))
 (some [(.agg [(.int .i64 (0 : Int)), (.int .i64 (0 : Int)), (.int .i64 (0 : Int))]), (.bool (false))])
 (some [(.agg [(.int .i64 (a0)), (.int .i64 (IntKind.wrap .i64 (a1 + (1 : Int)))), (.int .i64 (IntKind.wrap .i64 (IntKind.wrap .i64 ((2 : Int) * a2) + b)))]), (.bool (true))]))) := by kernel_rfl
def qg1 (x0 x1 : Int) (z2 : Bool) (l3 : List Int) (x4 x5 : Int) (z6 : Bool) (l7 : List (Int × Int × Int)) (x8 x9 x10 : Int) : St := ⟨fill 44 [(0, (.ptr 1 (0) (0))), (2, (.int .i64 (x0))), (3, (.ptr 3 (0) (0))), (5, (.ptr 4 (0) (0))), (8, (.int .i64 (x1)))], [(.ptr 1 (0) (0)), (.ptr 3 (0) (0)), (.sl 0 none)], [(.arr false (z2) (.ints IntKind.u8 (l3))), (.box true [(.sl 0 none), (.int .i64 (x4)), (.int .i64 (x5))]), (.arr true (z6) (.r3 (l7))), (.box true [(.sl 2 none)]), (.box true [(.int .i64 (x8)), (.int .i64 (x9)), (.int .i64 (x10))])]⟩
theorem qdf (k : Nat) (v0 : Bool) (v1 : List Int) (v2 v3 v4 v5 v6 v7 : Int) (v8 : Bool) (v9 : List (Int × Int × Int)) : go (k + 1) spec_l04Root [(.ptr true [(.arr false (v0) (.ints IntKind.u8 (v1))), (.int .i64 (v2)), (.int .i64 (v3))]), (.agg [(.int .i64 (v4)), (.int .i64 (v5)), (.int .i64 (v6))]), (.int .i64 (v7)), (.ptr true [(.arr true (v8) (.r3 (v9)))])] =
 cond (decide (v5 = (4 : Int)))
 (cond (decide (List.length (v9 ++ [(v4, v5, v6)]) ≤ bigLen))
 (some [(.ptr true [(.arr false (v0) (.ints IntKind.u8 (v1))), (.int .i64 (v2)), (.int .i64 (v3))]), (.ptr true [(.arr true (v8 && decide (List.length (v9 ++ [(v4, v5, v6)]) = 0)) (.r3 (v9 ++ [(v4, v5, v6)])))])])
 (none))
 ((go k spec_l01Once [(.ptr true [(.arr false (v0) (.ints IntKind.u8 (v1))), (.int .i64 (v2)), (.int .i64 (v3))]), (.int .i64 (v7))]).bind fun r0 =>
 cond (!bit (nth r0 0))
 (cond (decide (List.length (v9 ++ [(v4, v5, v6)]) ≤ bigLen))
 (some [(.ptr true [(.arr false (v0) (.ints IntKind.u8 (v1))), (.int .i64 (D.toInt (D.cell 1 (nth r0 1)))), (.int .i64 (D.toInt (D.cell 2 (nth r0 1))))]), (.ptr true [(.arr true (v8 && decide (List.length (v9 ++ [(v4, v5, v6)]) = 0)) (.r3 (v9 ++ [(v4, v5, v6)])))])])
 (none))
 (lp k spec_l04Root [(.ptr true [(.arr false (v0) (.ints IntKind.u8 (v1))), (.int .i64 (v2)), (.int .i64 (v3))]), (.ptr true [(.arr true (v8) (.r3 (v9)))])] [] 4 k (qg1 v7 (0 : Int) v0 v1 (D.toInt (D.cell 1 (nth r0 1))) (D.toInt (D.cell 2 (nth r0 1))) v8 v9 v4 v5 v6))) := by kernel_rfl
theorem qep (k n : Nat) (fu : List (Nat × Nat)) (v0 : Bool) (v1 : List Int) (v2 v3 : Int) (v8 : Bool) (v9 : List (Int × Int × Int)) (x0 x1 : Int) (z2 : Bool) (l3 : List Int) (x4 x5 : Int) (z6 : Bool) (l7 : List (Int × Int × Int)) (x8 x9 x10 : Int) : lp k spec_l04Root [(.ptr true [(.arr false (v0) (.ints IntKind.u8 (v1))), (.int .i64 (v2)), (.int .i64 (v3))]), (.ptr true [(.arr true (v8) (.r3 (v9)))])] fu 4 (n + 1) (qg1 x0 x1 z2 l3 x4 x5 z6 l7 x8 x9 x10) =
 cond (decide (x1 < (2 : Int)))
 ((go k spec_ChildOf [(.agg [(.int .i64 (x8)), (.int .i64 (x9)), (.int .i64 (x10))]), (.int .i64 (x1))]).bind fun r0 =>
 (go k spec_l04Root [(.ptr true [(.arr false (z2) (.ints IntKind.u8 (l3))), (.int .i64 (x4)), (.int .i64 (x5))]), (.agg [(.int .i64 (D.toInt (D.cell 0 (nth r0 0)))), (.int .i64 (D.toInt (D.cell 1 (nth r0 0)))), (.int .i64 (D.toInt (D.cell 2 (nth r0 0))))]), (.int .i64 (IntKind.wrap .i64 (x0 + (1 : Int)))), (.ptr true [(.arr true (z6) (.r3 (l7)))])]).bind fun r1 =>
 lp k spec_l04Root [(.ptr true [(.arr false (v0) (.ints IntKind.u8 (v1))), (.int .i64 (v2)), (.int .i64 (v3))]), (.ptr true [(.arr true (v8) (.r3 (v9)))])] fu 4 n (qg1 x0 (IntKind.wrap .i64 (x1 + (1 : Int))) z2 l3 (D.toInt (D.cell 1 (nth r1 0))) (D.toInt (D.cell 2 (nth r1 0))) (D.nil (D.cell 0 (nth r1 1))) (D.r3 (D.cell 0 (nth r1 1))) x8 x9 x10))
 (some [(.ptr true [(.arr false (z2) (.ints IntKind.u8 (l3))), (.int .i64 (x4)), (.int .i64 (x5))]), (.ptr true [(.arr true (z6) (.r3 (l7)))])]) := by kernel_rfl
def qg0 (x0 : Int) (z1 : Bool) (l2 : List Int) (x3 x4 : Int) (z5 : Bool) (l6 : List (Int × Int × Int)) (x7 : Int) (z8 : Bool) (l9 : List (Int × Int × Int)) (x10 : Int) : St := ⟨fill 24 [(0, (.ptr 1 (0) (0))), (2, (.ptr 3 (0) (0))), (3, (.ptr 5 (0) (0))), (4, (.int .i64 (x0)))], [(.ptr 1 (0) (0)), (.sl 0 none)], [(.arr false (z1) (.ints IntKind.u8 (l2))), (.box true [(.sl 0 none), (.int .i64 (x3)), (.int .i64 (x4))]), (.arr true (z5) (.r3 (l6))), (.box true [(.int .i64 (x7)), (.sl 2 none)]), (.arr true (z8) (.r3 (l9))), (.box true [(.int .i64 (x10)), (.sl 4 none)])]⟩
theorem qde (k : Nat) (v0 : Bool) (v1 : List Int) (v2 v3 : Int) : go (k + 1) spec_l04Mesh [(.ptr true [(.arr false (v0) (.ints IntKind.u8 (v1))), (.int .i64 (v2)), (.int .i64 (v3))])] =
 (go k spec_l01Below [(.ptr true [(.arr false (v0) (.ints IntKind.u8 (v1))), (.int .i64 (v2)), (.int .i64 (v3))]), (.int .i64 ((3 : Int)))]).bind fun r0 =>
 lp k spec_l04Mesh [(.ptr true [(.arr false (v0) (.ints IntKind.u8 (v1))), (.int .i64 (v2)), (.int .i64 (v3))])] [] 3 k (qg0 (0 : Int) v0 v1 (D.toInt (D.cell 1 (nth r0 1))) (D.toInt (D.cell 2 (nth r0 1))) true ([]) (0 : Int) true ([]) (IntKind.wrap .i64 ((1 : Int) + D.toInt (nth r0 0)))) := by kernel_rfl
theorem qeo (k n : Nat) (fu : List (Nat × Nat)) (v0 : Bool) (v1 : List Int) (v2 v3 x0 : Int) (z1 : Bool) (l2 : List Int) (x3 x4 : Int) (z5 : Bool) (l6 : List (Int × Int × Int)) (x7 : Int) (z8 : Bool) (l9 : List (Int × Int × Int)) (x10 : Int) : lp k spec_l04Mesh [(.ptr true [(.arr false (v0) (.ints IntKind.u8 (v1))), (.int .i64 (v2)), (.int .i64 (v3))])] fu 3 (n + 1) (qg0 x0 z1 l2 x3 x4 z5 l6 x7 z8 l9 x10) =
 cond (decide (x0 < x10))
 ((go k spec_l01Below [(.ptr true [(.arr false (z1) (.ints IntKind.u8 (l2))), (.int .i64 (x3)), (.int .i64 (x4))]), (.int .i64 ((2 : Int)))]).bind fun r0 =>
 (go k spec_l04Root [(.ptr true [(.arr false (z1) (.ints IntKind.u8 (l2))), (.int .i64 (D.toInt (D.cell 1 (nth r0 1)))), (.int .i64 (D.toInt (D.cell 2 (nth r0 1))))]), (.agg [(.int .i64 (x0)), (.int .i64 (0 : Int)), (.int .i64 (0 : Int))]), (.int .i64 (IntKind.wrap .i64 ((1 : Int) + D.toInt (nth r0 0)))), (.ptr true [(.arr true (z8) (.r3 (l9)))])]).bind fun r1 =>
 lp k spec_l04Mesh [(.ptr true [(.arr false (v0) (.ints IntKind.u8 (v1))), (.int .i64 (v2)), (.int .i64 (v3))])] fu 3 n (qg0 (IntKind.wrap .i64 (x0 + (1 : Int))) z1 l2 (D.toInt (D.cell 1 (nth r1 0))) (D.toInt (D.cell 2 (nth r1 0))) z5 l6 x7 (D.nil (D.cell 0 (nth r1 1))) (D.r3 (D.cell 0 (nth r1 1))) x10))
 (some [(.agg [(.int .i64 (x10)), (.arr true (z8) (.r3 (l9)))]), (.ptr true [(.arr false (z1) (.ints IntKind.u8 (l2))), (.int .i64 (x3)), (.int .i64 (x4))])]) := by kernel_rfl
def qgy (x0 : Int) (z1 : Bool) (l2 : List (Int × Int × Int)) (x3 : Int) (z4 : Bool) (l5 : List (Int × Int × Int)) (x6 : Int) : St := ⟨fill 23 [(2, (.ptr 1 (0) (0))), (3, (.ptr 3 (0) (0))), (4, (.int .i64 (x0)))], [], [(.arr true (z1) (.r3 (l2))), (.box true [(.int .i64 (x3)), (.sl 0 none)]), (.arr true (z4) (.r3 (l5))), (.box true [(.int .i64 (x6)), (.sl 2 none)])]⟩
theorem qc2 (k : Nat) (a0 : Int) (a1z : Bool) (a1 : List (Int × Int × Int)) : go (k + 1) spec_Balance [(.agg [(.int .i64 (a0)), (.arr false (a1z) (.r3 (a1)))])] =
 (go k spec_l04Copy [(.agg [(.int .i64 (a0)), (.arr false (a1z) (.r3 (a1)))])]).bind fun r0 =>
 (go k spec_MeshOk [(.agg [(.int .i64 (a0)), (.arr false (a1z) (.r3 (a1)))])]).bind fun r1 =>
 cond (!bit (nth r1 0))
 (some [(.agg [(.int .i64 (D.toInt (D.cell 0 (nth r0 0)))), (.arr true (D.nil (D.cell 1 (nth r0 0))) (.r3 (D.r3 (D.cell 1 (nth r0 0)))))])])
 ((go k spec_l05First [(.agg [(.int .i64 (D.toInt (D.cell 0 (nth r0 0)))), (.arr false (D.nil (D.cell 1 (nth r0 0))) (.r3 (D.r3 (D.cell 1 (nth r0 0)))))])]).bind fun r2 =>
 lp k spec_Balance [] [] 5 k (qgy (D.toInt (nth r2 0)) true ([]) (0 : Int) (D.nil (D.cell 1 (nth r0 0))) (D.r3 (D.cell 1 (nth r0 0))) (D.toInt (D.cell 0 (nth r0 0))))) := by kernel_rfl
theorem qem (k n : Nat) (fu : List (Nat × Nat)) (x0 : Int) (z1 : Bool) (l2 : List (Int × Int × Int)) (x3 : Int) (z4 : Bool) (l5 : List (Int × Int × Int)) (x6 : Int) : lp k spec_Balance [] fu 5 (n + 1) (qgy x0 z1 l2 x3 z4 l5 x6) =
 cond (decide ((0 : Int) ≤ x0))
 ((go k spec_l05Coarser [(.agg [(.int .i64 (x6)), (.arr false (z4) (.r3 (l5)))]), (.int .i64 (x0))]).bind fun r0 =>
 (go k spec_l05Split [(.agg [(.int .i64 (x6)), (.arr false (z4) (.r3 (l5)))]), (.int .i64 (D.toInt (nth r0 0)))]).bind fun r1 =>
 (go k spec_l05First [(.agg [(.int .i64 (D.toInt (D.cell 0 (nth r1 0)))), (.arr false (D.nil (D.cell 1 (nth r1 0))) (.r3 (D.r3 (D.cell 1 (nth r1 0)))))])]).bind fun r2 =>
 lp k spec_Balance [] fu 5 n (qgy (D.toInt (nth r2 0)) z1 l2 x3 (D.nil (D.cell 1 (nth r1 0))) (D.r3 (D.cell 1 (nth r1 0))) (D.toInt (D.cell 0 (nth r1 0)))))
 (some [(.agg [(.int .i64 (x6)), (.arr true (z4) (.r3 (l5)))])]) := by kernel_rfl
theorem qdg (k : Nat) (a0 : Int) (a1z : Bool) (a1 : List (Int × Int × Int)) (b : Int) : go (k + 1) spec_l05Coarser [(.agg [(.int .i64 (a0)), (.arr false (a1z) (.r3 (a1)))]), (.int .i64 (b))] =
 cond (decide ((0 : Int) ≤ b) && decide (b < nI (List.length a1)))
 (cond (decide ((0 : Int) ≤ IntKind.wrap .i64 (b + (1 : Int))) && decide (IntKind.wrap .i64 (b + (1 : Int)) < nI (List.length a1)))
 (cond (decide (Prod.fst (Prod.snd (List.getD a1 (Int.toNat (IntKind.wrap .i64 (b + (1 : Int)))) zz3)) < Prod.fst (Prod.snd (List.getD a1 (Int.toNat b) zz3))))
 (some [(.int .i64 (IntKind.wrap .i64 (b + (1 : Int))))])
 (some [(.int .i64 (b))]))
 (none))
 (none) := by kernel_rfl
theorem qdj (k : Nat) (a0 : Int) (a1z : Bool) (a1 : List (Int × Int × Int)) (b : Int) : go (k + 1) spec_l05Split [(.agg [(.int .i64 (a0)), (.arr false (a1z) (.r3 (a1)))]), (.int .i64 (b))] =
 cond (decide ((0 : Int) ≤ b) && decide (b < nI (List.length a1)))
 ((go k spec_ChildOf [(.agg [(.int .i64 (Prod.fst (List.getD a1 (Int.toNat b) zz3))), (.int .i64 (Prod.fst (Prod.snd (List.getD a1 (Int.toNat b) zz3)))), (.int .i64 (Prod.snd (Prod.snd (List.getD a1 (Int.toNat b) zz3))))]), (.int .i64 (0 : Int))]).bind fun r0 =>
 cond (decide ((0 : Int) ≤ b) && decide (b < nI (List.length a1)))
 ((go k spec_ChildOf [(.agg [(.int .i64 (Prod.fst (List.getD a1 (Int.toNat b) zz3))), (.int .i64 (Prod.fst (Prod.snd (List.getD a1 (Int.toNat b) zz3)))), (.int .i64 (Prod.snd (Prod.snd (List.getD a1 (Int.toNat b) zz3))))]), (.int .i64 ((1 : Int)))]).bind fun r1 =>
 cond (decide ((0 : Int) ≤ (0 : Int)) && decide ((0 : Int) ≤ b) && decide (b ≤ nI (List.length a1)))
 (cond (decide (List.length ([] ++ List.take (Int.toNat b - Int.toNat (0 : Int)) (List.drop (0 + Int.toNat (0 : Int)) a1)) ≤ bigLen))
 (cond (decide (List.length ([] ++ List.take (Int.toNat b - Int.toNat (0 : Int)) (List.drop (0 + Int.toNat (0 : Int)) a1) ++ [(D.toInt (D.cell 0 (nth r0 0)), D.toInt (D.cell 1 (nth r0 0)), D.toInt (D.cell 2 (nth r0 0))), (D.toInt (D.cell 0 (nth r1 0)), D.toInt (D.cell 1 (nth r1 0)), D.toInt (D.cell 2 (nth r1 0)))]) ≤ bigLen))
 (cond (decide ((0 : Int) ≤ IntKind.wrap .i64 (b + (1 : Int))) && decide (IntKind.wrap .i64 (b + (1 : Int)) ≤ nI (List.length a1)) && decide (nI (List.length a1) ≤ nI (List.length a1)))
 (cond (decide (List.length ([] ++ List.take (Int.toNat b - Int.toNat (0 : Int)) (List.drop (0 + Int.toNat (0 : Int)) a1) ++ [(D.toInt (D.cell 0 (nth r0 0)), D.toInt (D.cell 1 (nth r0 0)), D.toInt (D.cell 2 (nth r0 0))), (D.toInt (D.cell 0 (nth r1 0)), D.toInt (D.cell 1 (nth r1 0)), D.toInt (D.cell 2 (nth r1 0)))] ++ List.take (Int.toNat (nI (List.length a1)) - Int.toNat (IntKind.wrap .i64 (b + (1 : Int)))) (List.drop (0 + Int.toNat (IntKind.wrap .i64 (b + (1 : Int)))) a1)) ≤ bigLen))
 (some [(.agg [(.int .i64 (a0)), (.arr true (false && decide (List.length ([] ++ List.take (Int.toNat b - Int.toNat (0 : Int)) (List.drop (0 + Int.toNat (0 : Int)) a1)) = 0) && decide (List.length ([] ++ List.take (Int.toNat b - Int.toNat (0 : Int)) (List.drop (0 + Int.toNat (0 : Int)) a1) ++ [(D.toInt (D.cell 0 (nth r0 0)), D.toInt (D.cell 1 (nth r0 0)), D.toInt (D.cell 2 (nth r0 0))), (D.toInt (D.cell 0 (nth r1 0)), D.toInt (D.cell 1 (nth r1 0)), D.toInt (D.cell 2 (nth r1 0)))]) = 0) && decide (List.length ([] ++ List.take (Int.toNat b - Int.toNat (0 : Int)) (List.drop (0 + Int.toNat (0 : Int)) a1) ++ [(D.toInt (D.cell 0 (nth r0 0)), D.toInt (D.cell 1 (nth r0 0)), D.toInt (D.cell 2 (nth r0 0))), (D.toInt (D.cell 0 (nth r1 0)), D.toInt (D.cell 1 (nth r1 0)), D.toInt (D.cell 2 (nth r1 0)))] ++ List.take (Int.toNat (nI (List.length a1)) - Int.toNat (IntKind.wrap .i64 (b + (1 : Int)))) (List.drop (0 + Int.toNat (IntKind.wrap .i64 (b + (1 : Int)))) a1)) = 0)) (.r3 ([] ++ List.take (Int.toNat b - Int.toNat (0 : Int)) (List.drop (0 + Int.toNat (0 : Int)) a1) ++ [(D.toInt (D.cell 0 (nth r0 0)), D.toInt (D.cell 1 (nth r0 0)), D.toInt (D.cell 2 (nth r0 0))), (D.toInt (D.cell 0 (nth r1 0)), D.toInt (D.cell 1 (nth r1 0)), D.toInt (D.cell 2 (nth r1 0)))] ++ List.take (Int.toNat (nI (List.length a1)) - Int.toNat (IntKind.wrap .i64 (b + (1 : Int)))) (List.drop (0 + Int.toNat (IntKind.wrap .i64 (b + (1 : Int)))) a1))))])])
 (none))
 (none))
 (none))
 (none))
 (none))
 (none))
 (none) := by kernel_rfl
theorem qdi (k : Nat) (v0 : Bool) (v1 : List Int) (v2 v3 : Int) : go (k + 1) spec_l05Mesh [(.ptr true [(.arr false (v0) (.ints IntKind.u8 (v1))), (.int .i64 (v2)), (.int .i64 (v3))])] =
 (go k spec_l04Mesh [(.ptr true [(.arr false (v0) (.ints IntKind.u8 (v1))), (.int .i64 (v2)), (.int .i64 (v3))])]).bind fun r0 =>
 (go k spec_Balance [(.agg [(.int .i64 (D.toInt (D.cell 0 (nth r0 0)))), (.arr false (D.nil (D.cell 1 (nth r0 0))) (.r3 (D.r3 (D.cell 1 (nth r0 0)))))])]).bind fun r1 =>
 some [(.agg [(.int .i64 (D.toInt (D.cell 0 (nth r1 0)))), (.arr true (D.nil (D.cell 1 (nth r1 0))) (.r3 (D.r3 (D.cell 1 (nth r1 0)))))]), (.ptr true [(.arr false (v0) (.ints IntKind.u8 (v1))), (.int .i64 (D.toInt (D.cell 1 (nth r0 1)))), (.int .i64 (D.toInt (D.cell 2 (nth r0 1))))])] := by kernel_rfl
def qg3 (x0 : Int) (z1 : Bool) (l2 : List Int) (x3 x4 : Int) (z5 : Bool) (l6 : List (Int × Int × Int)) (z7 : Bool) (l8 : List Int) (z9 : Bool) (l10 : List Int) (z11 : Bool) (l12 : List Int) (x13 : Int) (z14 : Bool) (l15 : List (Int × Int × Int)) (x16 : Int) (z17 : Bool) (l18 : List Int) (z19 : Bool) (l20 : List Int) (z21 : Bool) (l22 : List Int) (x23 : Int) : St := ⟨fill 67 [(0, (.ptr 1 (0) (0))), (2, (.ptr 6 (0) (0))), (3, (.ptr 8 (0) (0))), (4, (.ptr 12 (0) (0))), (5, (.int .i64 (x0)))], [(.ptr 1 (0) (0)), (.sl 0 none)], [(.arr false (z1) (.ints IntKind.u8 (l2))), (.box true [(.sl 0 none), (.int .i64 (x3)), (.int .i64 (x4))]), (.arr true (z5) (.r3 (l6))), (.arr true (z7) (.ints .i64 (l8))), (.arr true (z9) (.ints .i64 (l10))), (.arr true (z11) (.ints .i64 (l12))), (.box true [(.int .i64 (x13)), (.sl 2 none), (.sl 3 none), (.sl 4 none), (.sl 5 none)]), (.arr true (z14) (.r3 (l15))), (.box true [(.int .i64 (x16)), (.sl 7 none)]), (.arr true (z17) (.ints .i64 (l18))), (.arr true (z19) (.ints .i64 (l20))), (.arr true (z21) (.ints .i64 (l22))), (.box true [(.int .i64 (x23)), (.sl 7 none), (.sl 9 none), (.sl 10 none), (.sl 11 none)])]⟩
def qg4 (x0 x1 : Int) (z2 : Bool) (l3 : List Int) (x4 x5 : Int) (z6 : Bool) (l7 : List (Int × Int × Int)) (z8 : Bool) (l9 : List Int) (z10 : Bool) (l11 : List Int) (z12 : Bool) (l13 : List Int) (x14 : Int) (z15 : Bool) (l16 : List (Int × Int × Int)) (x17 : Int) (z18 : Bool) (l19 : List Int) (z20 : Bool) (l21 : List Int) (z22 : Bool) (l23 : List Int) (x24 : Int) : St := ⟨fill 67 [(0, (.ptr 1 (0) (0))), (2, (.ptr 6 (0) (0))), (3, (.ptr 8 (0) (0))), (4, (.ptr 12 (0) (0))), (6, (.int .i64 (x0))), (7, (.int .i64 (x1)))], [(.ptr 1 (0) (0)), (.sl 0 none)], [(.arr false (z2) (.ints IntKind.u8 (l3))), (.box true [(.sl 0 none), (.int .i64 (x4)), (.int .i64 (x5))]), (.arr true (z6) (.r3 (l7))), (.arr true (z8) (.ints .i64 (l9))), (.arr true (z10) (.ints .i64 (l11))), (.arr true (z12) (.ints .i64 (l13))), (.box true [(.int .i64 (x14)), (.sl 2 none), (.sl 3 none), (.sl 4 none), (.sl 5 none)]), (.arr true (z15) (.r3 (l16))), (.box true [(.int .i64 (x17)), (.sl 7 none)]), (.arr true (z18) (.ints .i64 (l19))), (.arr true (z20) (.ints .i64 (l21))), (.arr true (z22) (.ints .i64 (l23))), (.box true [(.int .i64 (x24)), (.sl 7 none), (.sl 9 none), (.sl 10 none), (.sl 11 none)])]⟩
theorem qdl (k : Nat) (v0 : Bool) (v1 : List Int) (v2 v3 : Int) : go (k + 1) spec_l07State [(.ptr true [(.arr false (v0) (.ints IntKind.u8 (v1))), (.int .i64 (v2)), (.int .i64 (v3))])] =
 (go k spec_l05Mesh [(.ptr true [(.arr false (v0) (.ints IntKind.u8 (v1))), (.int .i64 (v2)), (.int .i64 (v3))])]).bind fun r0 =>
 lp k spec_l07State [(.ptr true [(.arr false (v0) (.ints IntKind.u8 (v1))), (.int .i64 (v2)), (.int .i64 (v3))])] [] 4 k (qg3 (0 : Int) v0 v1 (D.toInt (D.cell 1 (nth r0 1))) (D.toInt (D.cell 2 (nth r0 1))) true ([]) true ([]) true ([]) true ([]) (0 : Int) (D.nil (D.cell 1 (nth r0 0))) (D.r3 (D.cell 1 (nth r0 0))) (D.toInt (D.cell 0 (nth r0 0))) true ([]) true ([]) true ([]) (D.toInt (D.cell 0 (nth r0 0)))) := by kernel_rfl
theorem qer (k n : Nat) (fu : List (Nat × Nat)) (v0 : Bool) (v1 : List Int) (v2 v3 x0 : Int) (z1 : Bool) (l2 : List Int) (x3 x4 : Int) (z5 : Bool) (l6 : List (Int × Int × Int)) (z7 : Bool) (l8 : List Int) (z9 : Bool) (l10 : List Int) (z11 : Bool) (l12 : List Int) (x13 : Int) (z14 : Bool) (l15 : List (Int × Int × Int)) (x16 : Int) (z17 : Bool) (l18 : List Int) (z19 : Bool) (l20 : List Int) (z21 : Bool) (l22 : List Int) (x23 : Int) : lp k spec_l07State [(.ptr true [(.arr false (v0) (.ints IntKind.u8 (v1))), (.int .i64 (v2)), (.int .i64 (v3))])] fu 4 (n + 1) (qg3 x0 z1 l2 x3 x4 z5 l6 z7 l8 z9 l10 z11 l12 x13 z14 l15 x16 z17 l18 z19 l20 z21 l22 x23) =
 cond (decide (x0 < x16))
 ((go k spec_l01Below [(.ptr true [(.arr false (z1) (.ints IntKind.u8 (l2))), (.int .i64 (x3)), (.int .i64 (x4))]), (.int .i64 ((4 : Int)))]).bind fun r0 =>
 (go k spec_l01Below [(.ptr true [(.arr false (z1) (.ints IntKind.u8 (l2))), (.int .i64 (D.toInt (D.cell 1 (nth r0 1)))), (.int .i64 (D.toInt (D.cell 2 (nth r0 1))))]), (.int .i64 ((5000 : Int)))]).bind fun r1 =>
 cond (decide (List.length (l22 ++ [IntKind.wrap .i64 (D.toInt (nth r0 0) * D.toInt (nth r1 0))]) ≤ bigLen))
 (lp k spec_l07State [(.ptr true [(.arr false (v0) (.ints IntKind.u8 (v1))), (.int .i64 (v2)), (.int .i64 (v3))])] fu 4 n (qg3 (IntKind.wrap .i64 (x0 + (1 : Int))) z1 l2 (D.toInt (D.cell 1 (nth r1 1))) (D.toInt (D.cell 2 (nth r1 1))) z5 l6 z7 l8 z9 l10 z11 l12 x13 z14 l15 x16 z17 l18 z19 l20 (z21 && decide (List.length (l22 ++ [IntKind.wrap .i64 (D.toInt (nth r0 0) * D.toInt (nth r1 0))]) = 0)) (l22 ++ [IntKind.wrap .i64 (D.toInt (nth r0 0) * D.toInt (nth r1 0))]) x23))
 (none))
 ((go k spec_l01Below [(.ptr true [(.arr false (z1) (.ints IntKind.u8 (l2))), (.int .i64 (x3)), (.int .i64 (x4))]), (.int .i64 ((20000 : Int)))]).bind fun r2 =>
 lp k spec_l07State [(.ptr true [(.arr false (v0) (.ints IntKind.u8 (v1))), (.int .i64 (v2)), (.int .i64 (v3))])] fu 9 k (qg4 (IntKind.wrap .i64 ((1 : Int) + D.toInt (nth r2 0))) (0 : Int) z1 l2 (D.toInt (D.cell 1 (nth r2 1))) (D.toInt (D.cell 2 (nth r2 1))) z5 l6 z7 l8 z9 l10 z11 l12 x13 z14 l15 x16 z17 l18 z19 l20 z21 l22 x23)) := by kernel_rfl
theorem qes (k n : Nat) (fu : List (Nat × Nat)) (v0 : Bool) (v1 : List Int) (v2 v3 x0 x1 : Int) (z2 : Bool) (l3 : List Int) (x4 x5 : Int) (z6 : Bool) (l7 : List (Int × Int × Int)) (z8 : Bool) (l9 : List Int) (z10 : Bool) (l11 : List Int) (z12 : Bool) (l13 : List Int) (x14 : Int) (z15 : Bool) (l16 : List (Int × Int × Int)) (x17 : Int) (z18 : Bool) (l19 : List Int) (z20 : Bool) (l21 : List Int) (z22 : Bool) (l23 : List Int) (x24 : Int) : lp k spec_l07State [(.ptr true [(.arr false (v0) (.ints IntKind.u8 (v1))), (.int .i64 (v2)), (.int .i64 (v3))])] fu 9 (n + 1) (qg4 x0 x1 z2 l3 x4 x5 z6 l7 z8 l9 z10 l11 z12 l13 x14 z15 l16 x17 z18 l19 z20 l21 z22 l23 x24) =
 cond (decide (x1 < nI (List.length l16)))
 ((go k spec_l01Below [(.ptr true [(.arr false (z2) (.ints IntKind.u8 (l3))), (.int .i64 (x4)), (.int .i64 (x5))]), (.int .i64 (x0))]).bind fun r0 =>
 (go k spec_l01Once [(.ptr true [(.arr false (z2) (.ints IntKind.u8 (l3))), (.int .i64 (D.toInt (D.cell 1 (nth r0 1)))), (.int .i64 (D.toInt (D.cell 2 (nth r0 1))))]), (.int .i64 ((6 : Int)))]).bind fun r1 =>
 cond (bit (nth r1 0))
 ((go k spec_l01Below [(.ptr true [(.arr false (z2) (.ints IntKind.u8 (l3))), (.int .i64 (D.toInt (D.cell 1 (nth r1 1)))), (.int .i64 (D.toInt (D.cell 2 (nth r1 1))))]), (.int .i64 ((3 : Int)))]).bind fun r2 =>
 cond (decide (List.length (l19 ++ [D.toInt (nth r2 0)]) ≤ bigLen))
 ((go k spec_l01Below [(.ptr true [(.arr false (z2) (.ints IntKind.u8 (l3))), (.int .i64 (D.toInt (D.cell 1 (nth r2 1)))), (.int .i64 (D.toInt (D.cell 2 (nth r2 1))))]), (.int .i64 ((200 : Int)))]).bind fun r3 =>
 (go k spec_l01Below [(.ptr true [(.arr false (z2) (.ints IntKind.u8 (l3))), (.int .i64 (D.toInt (D.cell 1 (nth r3 1)))), (.int .i64 (D.toInt (D.cell 2 (nth r3 1))))]), (.int .i64 (IntKind.wrap .i64 (D.toInt (nth r2 0) + (1 : Int))))]).bind fun r4 =>
 cond (decide (List.length (l21 ++ [IntKind.wrap .i64 (IntKind.wrap .i64 (D.toInt (nth r2 0) * D.toInt (nth r3 0)) + D.toInt (nth r4 0))]) ≤ bigLen))
 (lp k spec_l07State [(.ptr true [(.arr false (v0) (.ints IntKind.u8 (v1))), (.int .i64 (v2)), (.int .i64 (v3))])] fu 9 n (qg4 x0 (IntKind.wrap .i64 (x1 + (1 : Int))) z2 l3 (D.toInt (D.cell 1 (nth r4 1))) (D.toInt (D.cell 2 (nth r4 1))) z6 l7 z8 l9 z10 l11 z12 l13 x14 z15 l16 x17 (z18 && decide (List.length (l19 ++ [D.toInt (nth r2 0)]) = 0)) (l19 ++ [D.toInt (nth r2 0)]) (z20 && decide (List.length (l21 ++ [IntKind.wrap .i64 (IntKind.wrap .i64 (D.toInt (nth r2 0) * D.toInt (nth r3 0)) + D.toInt (nth r4 0))]) = 0)) (l21 ++ [IntKind.wrap .i64 (IntKind.wrap .i64 (D.toInt (nth r2 0) * D.toInt (nth r3 0)) + D.toInt (nth r4 0))]) z22 l23 x24))
 (none))
 (none))
 (cond (decide (List.length (l19 ++ [D.toInt (nth r0 0)]) ≤ bigLen))
 ((go k spec_l01Below [(.ptr true [(.arr false (z2) (.ints IntKind.u8 (l3))), (.int .i64 (D.toInt (D.cell 1 (nth r1 1)))), (.int .i64 (D.toInt (D.cell 2 (nth r1 1))))]), (.int .i64 ((200 : Int)))]).bind fun r5 =>
 (go k spec_l01Below [(.ptr true [(.arr false (z2) (.ints IntKind.u8 (l3))), (.int .i64 (D.toInt (D.cell 1 (nth r5 1)))), (.int .i64 (D.toInt (D.cell 2 (nth r5 1))))]), (.int .i64 (IntKind.wrap .i64 (D.toInt (nth r0 0) + (1 : Int))))]).bind fun r6 =>
 cond (decide (List.length (l21 ++ [IntKind.wrap .i64 (IntKind.wrap .i64 (D.toInt (nth r0 0) * D.toInt (nth r5 0)) + D.toInt (nth r6 0))]) ≤ bigLen))
 (lp k spec_l07State [(.ptr true [(.arr false (v0) (.ints IntKind.u8 (v1))), (.int .i64 (v2)), (.int .i64 (v3))])] fu 9 n (qg4 x0 (IntKind.wrap .i64 (x1 + (1 : Int))) z2 l3 (D.toInt (D.cell 1 (nth r6 1))) (D.toInt (D.cell 2 (nth r6 1))) z6 l7 z8 l9 z10 l11 z12 l13 x14 z15 l16 x17 (z18 && decide (List.length (l19 ++ [D.toInt (nth r0 0)]) = 0)) (l19 ++ [D.toInt (nth r0 0)]) (z20 && decide (List.length (l21 ++ [IntKind.wrap .i64 (IntKind.wrap .i64 (D.toInt (nth r0 0) * D.toInt (nth r5 0)) + D.toInt (nth r6 0))]) = 0)) (l21 ++ [IntKind.wrap .i64 (IntKind.wrap .i64 (D.toInt (nth r0 0) * D.toInt (nth r5 0)) + D.toInt (nth r6 0))]) z22 l23 x24))
 (none))
 (none)))
 (some [(.agg [(.int .i64 (x24)), (.arr true (z15) (.r3 (l16))), (.arr true (z18) (.ints .i64 (l19))), (.arr true (z20) (.ints .i64 (l21))), (.arr true (z22) (.ints .i64 (l23)))]), (.ptr true [(.arr false (z2) (.ints IntKind.u8 (l3))), (.int .i64 (x4)), (.int .i64 (x5))])]) := by kernel_rfl
end Go.Proofs.Ytcaapedadpnjoaa
end
section
namespace Go.Proofs.Ytcaapedadpnjoaa
open Go.Ev
set_option maxRecDepth 20000
theorem qf0 (o : Bool) (d0 : D) (l : List D) : (D.ptr o (d0 :: l)).cell 0 = d0 := Eq.trans rfl rfl
theorem qf1 (o : Bool) (d0 d1 : D) (l : List D) : (D.ptr o (d0 :: d1 :: l)).cell 1 = d1 := Eq.trans rfl rfl
theorem qf2 (o : Bool) (d0 d1 d2 : D) (l : List D) : (D.ptr o (d0 :: d1 :: d2 :: l)).cell 2 = d2 := Eq.trans rfl rfl
theorem qaj (x : Int) : 0 ≤ bitN .and .i64 x 255 ∧ bitN .and .i64 x 255 ≤ 255 := by
  have h : (BitVec.ofInt IntKind.i64.bits x &&& BitVec.ofInt IntKind.i64.bits 255).toNat ≤ 255 := by
    rw [BitVec.toNat_and]; exact Nat.le_trans Nat.and_le_right (by decide)
  show 0 ≤ IntKind.wrap .i64 _ ∧ IntKind.wrap .i64 _ ≤ 255
  rw [qhs (by omega) (by omega)]; omega
theorem qbg (k : Nat) (hk : 2000000 ≤ k) (z : Bool) (l : List Int) (i h : Int) (hl : (l.length : Int) ≤ 1048576) (h0 : 0 ≤ i) (h1 : i ≤ l.length) : ∃ v i' h' : Int, go (k + 1) spec_l01Byte [.ptr true [.arr false (z) (.ints .u8 (l)), .int .i64 (i), .int .i64 (h)]] = some [.int .i64 v, .ptr true [.arr false (z) (.ints .u8 (l)), .int .i64 (i'), .int .i64 (h')]] ∧ (0 ≤ v ∧ v ≤ 255) ∧ 0 ≤ i' ∧ i' ≤ l.length := by
  have e := qc9 (k + 0) z l i h
  by_cases g : i < l.length
  · simp (disch := omega) only [nI, dT, Bool.and_true, qhs, qb4] at e; exact ⟨_, _, _, e, qaj _, by omega, by omega⟩
  · simp (disch := omega) only [nI, dF, dT, Bool.and_false, qhs, qb3] at e; exact ⟨_, _, _, e, qaj _, by omega, by omega⟩
theorem qhi {v b : Int} (h : 0 ≤ v) (hb : 1 ≤ b) : 0 ≤ Int.tmod v b ∧ Int.tmod v b < b := ⟨Int.tmod_nonneg b h, Int.tmod_lt_of_pos v (by omega)⟩
theorem qbf (k : Nat) (hk : 2000000 ≤ k) (z : Bool) (l : List Int) (i h b : Int) (hl : (l.length : Int) ≤ 1048576) (h0 : 0 ≤ i) (h1 : i ≤ l.length) (hb : 1 ≤ b) (hb' : b ≤ 1000000) : ∃ v i' h' : Int, go (k + 2) spec_l01Below [.ptr true [.arr false (z) (.ints .u8 (l)), .int .i64 (i), .int .i64 (h)], .int .i64 b] = some [.int .i64 v, .ptr true [.arr false (z) (.ints .u8 (l)), .int .i64 (i'), .int .i64 (h')]] ∧ (0 ≤ v ∧ v < b) ∧ 0 ≤ i' ∧ i' ≤ l.length := by
  have e := qc8 (k + 1) z l i h b
  obtain ⟨v1, i1, k1, e1, b1, q1, r1⟩ := qbg k (by omega) z l i h hl h0 h1
  by_cases g : b ≤ 256
  · simp (disch := omega) only [dF, dT, e1, Bool.not_false, qb4, qai, nth0, qhk, nth1, qf1, qf2, qhs, qb3] at e
    exact ⟨_, _, _, e, qhi b1.1 hb, q1, r1⟩
  · obtain ⟨v2, i2, k2, e2, b2, q2, r2⟩ := qbg k (by omega) z l i1 k1 hl q1 r1
    obtain ⟨v3, i3, k3, e3, b3, q3, r3⟩ := qbg k (by omega) z l i2 k2 hl q2 r2
    obtain ⟨v4, i4, k4, e4, b4, q4, r4⟩ := qbg k (by omega) z l i3 k3 hl q3 r3
    simp (disch := omega) only [dF, e1, Bool.not_false, qb4, qai, nth0, qhk, nth1, qf1, qf2, e2, qhs, e3, e4, qb3] at e
    exact ⟨_, _, _, e, qhi (by omega) hb, q4, r4⟩
theorem qbi (k : Nat) (hk : 2000000 ≤ k) (z : Bool) (l : List Int) (i h b : Int) (hl : (l.length : Int) ≤ 1048576) (h0 : 0 ≤ i) (h1 : i ≤ l.length) (hb : 1 ≤ b) (hb' : b ≤ 1000000) : ∃ (v : Bool) (i' h' : Int), go (k + 3) spec_l01Once [.ptr true [.arr false (z) (.ints .u8 (l)), .int .i64 (i), .int .i64 (h)], .int .i64 b] = some [.bool v, .ptr true [.arr false (z) (.ints .u8 (l)), .int .i64 (i'), .int .i64 (h')]] ∧ 0 ≤ i' ∧ i' ≤ l.length := by
  have e := qdb (k + 2) z l i h b
  obtain ⟨v1, i1, k1, e1, b1, q1, r1⟩ := qbf k (by omega) z l i h b hl h0 h1 hb hb'
  simp (disch := omega) only [e1, qai, nth0, qhk, nth1, qf1, qf2] at e
  exact ⟨_, _, _, e, q1, r1⟩
theorem qba (k : Nat) (hk : 2000000 ≤ k) (r v ix b : Int) (hid : idOk r v ix = true) (hv : v < 4) (hb : b = 0 ∨ b = 1) : go (k + 3) spec_ChildOf [.agg [.int .i64 r, .int .i64 v, .int .i64 ix], .int .i64 b] = some [.agg [.int .i64 r, .int .i64 (v + 1), .int .i64 (2 * ix + b)], .bool true] := by
  rw [qc3]
  have h := qdt.1 hid
  have hp : pow2 v ≤ 16 := by
    rcases lev (qdy.2 h.2.1) with rfl | rfl | rfl | rfl | rfl <;> decide
  have hi : inR b 0 1 = true := qdy.2 (by omega)
  simp (disch := omega) only [qbb, hid, bit, dF, qbh, hi, qhs, qai, nth0, qhj, Bool.not_true, qb3]
def qab (K : Nat) (z : Bool) (l : List Int) (v : Int) (N : Nat) : Prop := ∀ (r ix c i h : Int) (q : Bool) (out : List Cell), idOk r v ix = true → 1 ≤ c → c ≤ 90 + v → 0 ≤ i → i ≤ l.length → out.length + N ≤ 4096 →
    ∃ (new : List Cell) (i' h' : Int), go K spec_l04Root [.ptr true [.arr false (z) (.ints .u8 (l)), .int .i64 (i), .int .i64 (h)], .agg [.int .i64 r, .int .i64 v, .int .i64 ix], .int .i64 c, .ptr true [.arr true q (.r3 out)]] = some [.ptr true [.arr false (z) (.ints .u8 (l)), .int .i64 (i'), .int .i64 (h')], .ptr true [.arr true false (.r3 (out ++ new))]] ∧ (0 ≤ i' ∧ i' ≤ l.length) ∧ (1 ≤ new.length ∧ new.length ≤ N) ∧ okp (qhc r v ix) new = true ∧ endp (qhc r v ix) new = qhc r v ix + qhp v
theorem qga {r v ix : Int} (hid : idOk r v ix = true) : okp (qhc r v ix) [(r, v, ix)] = true ∧ endp (qhc r v ix) [(r, v, ix)] = qhc r v ix + qhp v :=
  ⟨qfy.2 ⟨hid, rfl, rfl⟩, rfl⟩
theorem qf9 (k : Nat) (hk : 2000000 ≤ k) (z : Bool) (l : List Int) (hl : (l.length : Int) ≤ 1048576) : qab (k + 4) z l 4 1 := by
  intro r ix c i h q out hid hc hc' h0 h1 ho
  have e := qdf (k + 3) z l i h r 4 ix c q out
  have lo : (out ++ [(r, (4 : Int), ix)]).length = out.length + 1 := by simp
  simp (disch := omega) only [dTT, big0, dT, dF, Bool.and_false, qb4, bit] at e
  exact ⟨[(r, 4, ix)], i, h, e, ⟨h0, h1⟩, by simp, qga hid⟩
theorem qgb (k : Nat) (hk : 2000000 ≤ k) (z : Bool) (l : List Int) (hl : (l.length : Int) ≤ 1048576) (v : Int) (h0v : 0 ≤ v) (hv : v < 4) (N : Nat) (hN : 1 ≤ N) (H : qab (k + 4) z l (v + 1) N) : qab (k + 4 + 1) z l v (2 * N) := by
  intro r ix c i h q out hid hc hc' h0 h1 ho
  have e := qdf (k + 4) z l i h r v ix c q out
  have lo : (out ++ [(r, v, ix)]).length = out.length + 1 := by simp
  obtain ⟨b, i1, k1, e1, q1, r1⟩ := qbi (k + 1) (by omega) z l i h c hl h0 h1 hc (by omega)
  cases b
  · simp (disch := omega) only [dF, big0, dT, Bool.and_false, qb4, e1, bit, qai, nth0, qhj, Bool.not_false, nth1, qf1, qhk, qf2, qb3] at e
    exact ⟨[(r, v, ix)], i1, k1, e, ⟨q1, r1⟩, ⟨by simp, by simp; omega⟩, qga hid⟩
  · simp (disch := omega) only [dF, big0, dT, Bool.and_false, qb4, e1, bit, qai, nth0, qhj, Bool.not_true, nth1, qf1, qhk, qf2, qb3] at e
    have ch := qb0 hid hv
    obtain ⟨n1, i2, k2, e2, p2, s2, o2, d2⟩ := H r (2 * ix) (c + 1) i1 k1 q out ch.1 (by omega) (by omega) q1 r1 (by omega)
    have l2 : (out ++ n1).length = out.length + n1.length := List.length_append ..
    obtain ⟨n2, i3, k3, e3, p3, s3, o3, d3⟩ := H r (2 * ix + 1) (c + 1) i2 k2 false (out ++ n1) ch.2.1 (by omega) (by omega) p2.1 p2.2 (by omega)
    have cA := qba (k + 1) (by omega) r v ix 0 hid hv (Or.inl rfl)
    have cB := qba (k + 1) (by omega) r v ix 1 hid hv (Or.inr rfl)
    rw [Int.add_zero] at cA
    have f0 := qep (k + 4) (k + 3) [] z l i h q out c 0 z l i1 k1 q out r v ix
    have f1 := qep (k + 4) (k + 2) [] z l i h q out c 1 z l i2 k2 false (out ++ n1) r v ix
    have f2 := qep (k + 4) (k + 1) [] z l i h q out c 2 z l i3 k3 false (out ++ n1 ++ n2) r v ix
    have w1 : IntKind.wrap .i64 (c + 1) = c + 1 := qhs (by omega) (by omega)
    have w2 : IntKind.wrap .i64 ((0 : Int) + 1) = 1 := by rw [qhs (by omega) (by omega)]; rfl
    have w3 : IntKind.wrap .i64 ((1 : Int) + 1) = 2 := by rw [qhs (by omega) (by omega)]; rfl
    simp (disch := omega) only [dF, qhs, qb3] at f2
    simp (disch := omega) only [dT, cB, w1, w3, qai, nth0, qbu, qhk, qbv, qbw, e3, qf1, qf2, nth1, qf0, qfw, qf3, f2, qb4] at f1
    simp (disch := omega) only [dT, cA, w1, w2, qai, nth0, qbu, qhk, qbv, qbw, e2, qf1, qf2, nth1, qf0, qfw, qf3, f1, qb4] at f0
    rw [f0, List.append_assoc] at e
    refine ⟨n1 ++ n2, i3, k3, e, p3, ?_, ?_, ?_⟩
    · rw [List.length_append]; omega
    · rw [qfx, Bool.and_eq_true]
      rw [ch.2.2.1] at o2 d2
      rw [ch.2.2.2.1] at o3
      exact ⟨o2, by rw [d2]; exact o3⟩
    · rw [qdo]
      rw [ch.2.2.1] at d2
      rw [ch.2.2.2.1] at d3
      rw [d2, d3, Int.add_assoc, ch.2.2.2.2]
theorem qbm (k : Nat) (hk : 2000000 ≤ k) (z : Bool) (l : List Int) (hl : (l.length : Int) ≤ 1048576) : qab (k + 8) z l 0 16 :=
  qgb (k + 3) (by omega) z l hl 0 (by omega) (by omega) 8 (by omega) (qgb (k + 2) (by omega) z l hl 1 (by omega) (by omega) 4 (by omega) (qgb (k + 1) (by omega) z l hl 2 (by omega) (by omega) 2 (by omega) (qgb k hk z l hl 3 (by omega) (by omega) 1 (by omega) (qf9 k hk z l hl))))
end Go.Proofs.Ytcaapedadpnjoaa
end
section
namespace Go.Proofs.Ytcaapedadpnjoaa
open Go.Ev
set_option maxRecDepth 20000
theorem qfe (k : Nat) (hk : 2000000 ≤ k) (fu : List (Nat × Nat)) (v0 : Bool) (v1 : List Int) (v2 v3 : Int) (z : Bool) (l : List Int) (hl : (l.length : Int) ≤ 1048576) (z5 : Bool) (l6 : List Cell) (x7 : Int) (R : Nat) (hR : 1 ≤ R) (hR' : R ≤ 3) : ∀ (n t : Nat) (i h : Int) (q : Bool) (out : List Cell), t ≤ R → R - t < n → 0 ≤ i → i ≤ l.length → (q = false ∨ t = 0) → out.length ≤ 16 * t → okp 0 out = true → endp 0 out = 16 * t →
    ∃ (out' : List Cell) (i' h' : Int), lp (k + 8) spec_l04Mesh [(.ptr true [(.arr false (v0) (.ints IntKind.u8 (v1))), (.int .i64 (v2)), (.int .i64 (v3))])] fu 3 (n) (qg0 (t : Int) z l i h z5 l6 x7 q out (R : Int)) = some [.agg [.int .i64 (R : Int), .arr true false (.r3 out')], .ptr true [.arr false (z) (.ints .u8 (l)), .int .i64 (i'), .int .i64 (h')]] ∧ (0 ≤ i' ∧ i' ≤ l.length) ∧ qfn R 0 out' = true
  | 0, t, i, h, q, out, ht, hn, h0, h1, hq, ho, o, d => by omega
  | n + 1, t, i, h, q, out, ht, hn, h0, h1, hq, ho, o, d => by
    have e := qeo (k + 8) n fu v0 v1 v2 v3 (t : Int) z l i h z5 l6 x7 q out (R : Int)
    by_cases g : t < R
    · obtain ⟨v, i1, k1, e1, b1, q1, r1⟩ := qbf (k + 6) (by omega) z l i h 2 hl h0 h1 (by omega) (by omega)
      have id : idOk (t : Int) 0 0 = true := qdt.2 ⟨by omega, by omega, by omega, by decide⟩
      obtain ⟨n1, i2, k2, e2, p2, s2, o2, d2⟩ := qbm k (by omega) z l hl (t : Int) 0 (1 + v) i1 k1 q out id (by omega) (by omega) q1 r1 (by omega)
      have st : qhc (t : Int) 0 0 = 16 * t := by rw [qhe id]; omega
      rw [st] at o2 d2
      have lo : (out ++ n1).length = out.length + n1.length := List.length_append ..
      obtain ⟨out', i', h', e3, p3, o3⟩ := qfe k hk fu v0 v1 v2 v3 z l hl z5 l6 x7 R hR hR' n (t + 1) i2 k2 false (out ++ n1) (by omega) (by omega) p2.1 p2.2 (Or.inl rfl) (by omega) (by rw [qfx, d, Bool.and_eq_true]; exact ⟨o, o2⟩) (by rw [qdo, d, d2, w0]; omega)
      simp (disch := omega) only [dT, e1, qbt, qhs, qai, nth1, qf1, qhk, qf2, nth0, e2, qf0, qfw, qf3, e3, qb4] at e
      exact ⟨out', i', h', e, p3, o3⟩
    · have : t = R := by omega
      subst this
      rcases hq with rfl | h
      · simp (disch := omega) only [dF, qbt, qhs, qb3] at e
        exact ⟨out, i, h, e, ⟨h0, h1⟩, qfp.2 ⟨o, by omega, by rw [d]; omega⟩⟩
      · omega
theorem qbl (k : Nat) (hk : 2000000 ≤ k) (z : Bool) (l : List Int) (i h : Int) (hl : (l.length : Int) ≤ 1048576) (h0 : 0 ≤ i) (h1 : i ≤ l.length) :
    ∃ (r : Int) (out : List Cell) (i' h' : Int), go (k + 9) spec_l04Mesh [.ptr true [.arr false (z) (.ints .u8 (l)), .int .i64 (i), .int .i64 (h)]] = some [.agg [.int .i64 r, .arr true false (.r3 out)], .ptr true [.arr false (z) (.ints .u8 (l)), .int .i64 (i'), .int .i64 (h')]] ∧ (0 ≤ i' ∧ i' ≤ l.length) ∧ qfn r 0 out = true ∧ r ≤ 3 := by
  have e := qde (k + 8) z l i h
  obtain ⟨v, i1, k1, e1, b1, q1, r1⟩ := qbf (k + 6) (by omega) z l i h 3 hl h0 h1 (by omega) (by omega)
  obtain ⟨w, rfl⟩ : ∃ w : Nat, v = (w : Int) := ⟨v.toNat, by omega⟩
  obtain ⟨out, i2, k2, e2, p2, o2⟩ := qfe k hk [] z l i h z l hl true [] 0 (1 + w) (by omega) (by omega) (k + 8) 0 i1 k1 true [] (by omega) (by omega) q1 r1 (Or.inr rfl) (by simp) rfl rfl
  rw [show ((1 + w : Nat) : Int) = 1 + (w : Int) by omega, show ((0 : Nat) : Int) = 0 from rfl] at e2
  rw [show ((1 + w : Nat) : Int) = 1 + (w : Int) by omega] at o2
  simp (disch := omega) only [e1, qai, nth1, qf1, qhk, qf2, nth0, qhs, e2] at e
  exact ⟨_, _, _, _, e, p2, o2, by omega⟩
theorem qbn (k : Nat) (hk : 2000000 ≤ k) (a0 : Int) (a1z : Bool) (a1 : List Cell) (i : Nat) (hl : (a1.length : Int) ≤ 1048576) (hi : i + 1 < a1.length) : go (k + 1) spec_l05Coarser [.agg [.int .i64 a0, .arr false a1z (.r3 a1)], .int .i64 (i : Int)] = some [.int .i64 ((qb1 a1 i : Nat) : Int)] := by
  rw [qdg]
  unfold qb1
  simp (disch := omega) only [dT, nI, Bool.and_true, qbt, qhs, Int.toNat_natCast, qb4]
  by_cases g : qeu a1 (i + 1) < qeu a1 i
  · rw [if_pos g]; simp only [qeu] at g; simp (disch := omega) only [dT, qb4]
  · rw [if_neg g]; simp only [qeu] at g; simp (disch := omega) only [dF, qb3]
theorem qhh {α : Type} (l : List α) (i : Nat) : List.take (l.length - i) (List.drop i l) = l.drop i := by
  apply List.take_of_length_le; rw [List.length_drop]; omega
theorem ton0 : Int.toNat 0 = 0 := Eq.trans rfl rfl
theorem qbq (k : Nat) (hk : 2000000 ≤ k) (a0 : Int) (a1z : Bool) (a1 : List Cell) (i : Nat) (hl : (a1.length : Int) ≤ 1000000) (hi : i < a1.length) (hid : idOk (a1.getD i zz3).1 (a1.getD i zz3).2.1 (a1.getD i zz3).2.2 = true) (hv : (a1.getD i zz3).2.1 < 4) : go (k + 4) spec_l05Split [.agg [.int .i64 a0, .arr false a1z (.r3 a1)], .int .i64 (i : Int)] = some [.agg [.int .i64 a0, .arr true false (.r3 (qg9 a1 i))]] := by
  rw [qdj]
  have cA := qba k (by omega) _ _ _ 0 hid hv (Or.inl rfl)
  have cB := qba k (by omega) _ _ _ 1 hid hv (Or.inr rfl)
  rw [Int.add_zero] at cA
  have l1 : (a1.take i).length = i := by rw [List.length_take]; omega
  have l2 : ∀ x y : Cell, (a1.take i ++ [x, y]).length = i + 2 := fun x y => by rw [List.length_append, l1]; rfl
  have l3 : ∀ x y : Cell, (a1.take i ++ [x, y] ++ a1.drop (i + 1)).length = a1.length + 1 := fun x y => by rw [List.length_append, l2, List.length_drop]; omega
  simp (disch := omega) only [dT, nI, Bool.and_true, Int.toNat_natCast, cA, cB, ton0, Nat.sub_zero, Nat.zero_add, List.drop_zero, qfv, l1, big0, l2, qbt, qhs, qhh, l3, Bool.false_and, dF, Bool.and_false, qb4, qai, nth0, qbu, qhk, qbv, qbw]
  rw [List.append_assoc]; rfl
theorem qfc (k : Nat) (hk : 2000000 ≤ k) (fu : List (Nat × Nat)) (z1 : Bool) (l2 : List Cell) (x3 r : Int) : ∀ (N n : Nat) (l : List Cell), N < n → qfn r 0 l = true → 129 ≤ N + l.length →
    lp (k + 5) spec_Balance [] fu 5 (n) (qgy (unb l) z1 l2 x3 false l r) = some [.agg [.int .i64 r, .arr true false (.r3 (balN N l))]]
  | N, 0, l, hn, h, hN => by omega
  | 0, n + 1, l, hn, h, hN => by have := qfs h; omega
  | N + 1, n + 1, l, hn, h, hN => by
    have ml := qfs h
    have e := qem (k + 5) n fu (unb l) z1 l2 x3 false l r
    unfold balN
    by_cases g : unb l < 0
    · rw [if_pos g]; simp (disch := omega) only [dF, qb3] at e; exact e
    · rw [if_neg g]
      obtain ⟨j, ej, h1, h2⟩ := qhn (by omega : 0 ≤ unb l)
      have c := qb2 h h1 h2
      have sm := qhb h c.1 c.2
      have sl := qha c.1
      have id := ((qfr _ _ _ h).2.2.2.1 _ c.1).2.2
      have IH := qfc k hk fu z1 l2 x3 r N n _ (by omega) sm (by omega)
      rw [ej, Int.toNat_natCast]
      rw [ej] at e
      have mv := qft _ _ _ sm
      have mm := qfs sm
      simp (disch := omega) only [dT, qbn, qai, nth0, qhk, qb4] at e
      rw [qbq (k + 1) (by omega) _ _ _ _ (by omega) c.1 id c.2] at e
      simp (disch := omega) only [qai, nth0, qbu, qhk, qbv, qfw, qf3] at e
      rw [qbo (k + 4) (by omega) _ _ _ (by omega) mv] at e
      simp (disch := omega) only [qai, nth0, qhk, IH] at e
      exact e
theorem qa9 (k : Nat) (hk : 2000000 ≤ k) (a0 : Int) (a1z : Bool) (a1 : List Cell) (h : qfn a0 0 a1 = true) : go (k + 6) spec_Balance [.agg [.int .i64 a0, .arr false a1z (.r3 a1)]] = some [.agg [.int .i64 a0, .arr true false (.r3 (bal a1))]] := by
  rw [qc2]
  have ml := qfs h
  have mv := qft _ _ _ h
  simp (disch := omega) only [qbj, qbc, h, bit, qai, nth0, qhj, Bool.not_true, qb3, qbu, qhk, qbv, qfw, qf3]
  rw [qbo (k + 4) (by omega) _ _ _ (by omega) mv]
  simp (disch := omega) only [qai, nth0, qhk]
  exact qfc k hk [] true [] 0 a0 _ _ a1 (by omega) h (by omega)
theorem qbp (k : Nat) (hk : 2000000 ≤ k) (z : Bool) (l : List Int) (i h : Int) (hl : (l.length : Int) ≤ 1048576) (h0 : 0 ≤ i) (h1 : i ≤ l.length) :
    ∃ (r : Int) (out : List Cell) (i' h' : Int), go (k + 10) spec_l05Mesh [.ptr true [.arr false (z) (.ints .u8 (l)), .int .i64 (i), .int .i64 (h)]] = some [.agg [.int .i64 r, .arr true false (.r3 out)], .ptr true [.arr false (z) (.ints .u8 (l)), .int .i64 (i'), .int .i64 (h')]] ∧ (0 ≤ i' ∧ i' ≤ l.length) ∧ qfn r 0 out = true ∧ unb out < 0 ∧ r ≤ 3 := by
  have e := qdi (k + 9) z l i h
  obtain ⟨r, out, i1, k1, e1, q1, m1, r1⟩ := qbl k (by omega) z l i h hl h0 h1
  have e2 := qa9 (k + 3) (by omega) r false out m1
  simp (disch := omega) only [e1, qai, nth0, qbu, qhk, qbv, qfw, qf3, e2, nth1, qf1, qf2] at e
  exact ⟨_, _, _, _, e, q1, (qae m1).1, (qae m1).2, r1⟩
end Go.Proofs.Ytcaapedadpnjoaa
end
section
namespace Go.Proofs.Ytcaapedadpnjoaa
open Go.Ev
set_option maxRecDepth 20000
theorem qfm : ∀ (m t : List Int) (x y : Int), m.length = t.length → qfi m t = true → 0 ≤ x → x ≤ 10000000 → 0 ≤ y → y ≤ 1000 * x → qfi (m ++ [x]) (t ++ [y]) = true
  | [], [], x, y, _, _, h1, h2, h3, h4 => by simp only [List.nil_append, qfi, Bool.and_eq_true, qdy]; exact ⟨⟨h1, h2⟩, ⟨h3, h4⟩, trivial⟩
  | [], _ :: _, _, _, h, _, _, _, _, _ => by simp at h
  | _ :: _, [], _, _, h, _, _, _, _, _ => by simp at h
  | a :: m, b :: t, x, y, hl, h, h1, h2, h3, h4 => by
    simp only [List.cons_append, qfi, Bool.and_eq_true] at h ⊢
    exact ⟨h.1, h.2.1, qfm m t x y (by simpa using hl) h.2.2 h1 h2 h3 h4⟩
theorem qah : ∀ (a : List Int) (x : Int), qag a = true → 0 ≤ x → x ≤ 1000000 → qag (a ++ [x]) = true
  | [], x, _, h1, h2 => by simp only [List.nil_append, qag, Bool.and_eq_true, qdy]; exact ⟨⟨h1, h2⟩, trivial⟩
  | a :: l, x, h, h1, h2 => by
    simp only [List.cons_append, qag, Bool.and_eq_true] at h ⊢
    exact ⟨h.1, qah l x h.2 h1 h2⟩
theorem qfh (k : Nat) (hk : 2000000 ≤ k) (fu : List (Nat × Nat)) (v0 : Bool) (v1 : List Int) (v2 v3 : Int) (x0 : Int) (hx : 1 ≤ x0) (hx' : x0 ≤ 20000) (z : Bool) (l : List Int) (hl : (l.length : Int) ≤ 1048576) (z6 : Bool) (l7 : List Cell) (z8 : Bool) (l9 : List Int) (z10 : Bool) (l11 : List Int) (z12 : Bool) (l13 : List Int) (x14 : Int) (c : List Cell) (hc : 1 ≤ c.length) (hc' : c.length ≤ 128) (x17 : Int) (bd : List Int) (r : Int) :
    ∀ (n t : Nat) (i h : Int) (zm zt : Bool) (m tr : List Int), t ≤ c.length → c.length - t < n → 0 ≤ i → i ≤ l.length → (zm = false ∨ t = 0) → (zt = false ∨ t = 0) → m.length = t → tr.length = t → qfi m tr = true → isum m ≤ 20000 * t →
    ∃ (m' t' : List Int) (i' h' : Int), lp (k + 10) spec_l07State [(.ptr true [(.arr false (v0) (.ints IntKind.u8 (v1))), (.int .i64 (v2)), (.int .i64 (v3))])] fu 9 (n) (qg4 x0 (t : Int) z l i h z6 l7 z8 l9 z10 l11 z12 l13 x14 false c x17 zm m zt tr false bd r) = some [.agg [.int .i64 (r), .arr true (false) (.r3 (c)), .arr true (false) (.ints .i64 (m')), .arr true (false) (.ints .i64 (t')), .arr true (false) (.ints .i64 (bd))], .ptr true [.arr false (z) (.ints .u8 (l)), .int .i64 (i'), .int .i64 (h')]] ∧ (0 ≤ i' ∧ i' ≤ l.length) ∧ m'.length = c.length ∧ t'.length = c.length ∧ qfi m' t' = true ∧ isum m' ≤ 2560000
  | 0, t, i, h, zm, zt, m, tr, ht, hn, h0, h1, hzm, hzt, lm, lt, ok, sm => by omega
  | n + 1, t, i, h, zm, zt, m, tr, ht, hn, h0, h1, hzm, hzt, lm, lt, ok, sm => by
    have e := qes (k + 10) n fu v0 v1 v2 v3 x0 (t : Int) z l i h z6 l7 z8 l9 z10 l11 z12 l13 x14 false c x17 zm m zt tr false bd r
    by_cases g : t < c.length
    · have la : ∀ x : Int, (m ++ [x]).length = t + 1 := fun x => by rw [List.length_append, lm]; rfl
      have lb : ∀ x : Int, (tr ++ [x]).length = t + 1 := fun x => by rw [List.length_append, lt]; rfl
      have step : ∀ (x y : Int), 0 ≤ x → x < 20000 → 0 ≤ y → y ≤ 1000 * x → ∀ (i2 k2 : Int), 0 ≤ i2 → i2 ≤ l.length → _ := fun x y hx0 hx1 hy0 hy1 i2 k2 hi0 hi1 =>
        qfh k hk fu v0 v1 v2 v3 x0 hx hx' z l hl z6 l7 z8 l9 z10 l11 z12 l13 x14 c hc hc' x17 bd r n (t + 1) i2 k2 false false (m ++ [x]) (tr ++ [y]) (by omega) (by omega) hi0 hi1 (Or.inl rfl) (Or.inl rfl) (la x) (lb y) (qfm m tr x y (by omega) ok (by omega) (by omega) hy0 hy1) (by rw [qd0]; simp only [isum]; omega)
      obtain ⟨u1, i1, k1, e1, b1, q1, r1⟩ := qbf (k + 8) (by omega) z l i h x0 hl h0 h1 hx (by omega)
      obtain ⟨u2, i2, k2, e2, q2, r2⟩ := qbi (k + 7) (by omega) z l i1 k1 6 hl q1 r1 (by omega) (by omega)
      cases u2
      · obtain ⟨u3, i3, k3, e3, b3, q3, r3⟩ := qbf (k + 8) (by omega) z l i2 k2 200 hl q2 r2 (by omega) (by omega)
        obtain ⟨u4, i4, k4, e4, b4, q4, r4⟩ := qbf (k + 8) (by omega) z l i3 k3 (u1 + 1) hl q3 r3 (by omega) (by omega)
        have p0 : 0 ≤ u1 * u3 := Int.mul_nonneg b1.1 b3.1
        have p1 : u1 * u3 ≤ u1 * 199 := Int.mul_le_mul_of_nonneg_left (by omega) b1.1
        obtain ⟨m', t', i', h', e5, p5⟩ := step u1 (u1 * u3 + u4) (by omega) (by omega) (by omega) (by omega) i4 k4 q4 r4
        simp (disch := omega) only [nI, dT, e1, bit, la, big0, lb, qbt, qhs, dF, Bool.and_false, qb4, qai, nth1, qf1, qhk, qf2, e2, nth0, qhj, e3, e4, e5, qb3] at e
        exact ⟨m', t', i', h', e, p5⟩
      · obtain ⟨u0, i0, k0, e0, b0, q0, r0⟩ := qbf (k + 8) (by omega) z l i2 k2 3 hl q2 r2 (by omega) (by omega)
        obtain ⟨u3, i3, k3, e3, b3, q3, r3⟩ := qbf (k + 8) (by omega) z l i0 k0 200 hl q0 r0 (by omega) (by omega)
        obtain ⟨u4, i4, k4, e4, b4, q4, r4⟩ := qbf (k + 8) (by omega) z l i3 k3 (u0 + 1) hl q3 r3 (by omega) (by omega)
        have p0 : 0 ≤ u0 * u3 := Int.mul_nonneg b0.1 b3.1
        have p1 : u0 * u3 ≤ u0 * 199 := Int.mul_le_mul_of_nonneg_left (by omega) b0.1
        obtain ⟨m', t', i', h', e5, p5⟩ := step u0 (u0 * u3 + u4) (by omega) (by omega) (by omega) (by omega) i4 k4 q4 r4
        simp (disch := omega) only [nI, dT, e1, bit, la, big0, lb, qbt, qhs, dF, Bool.and_false, qb4, qai, nth1, qf1, qhk, qf2, e2, nth0, qhj, e0, e3, e4, e5] at e
        exact ⟨m', t', i', h', e, p5⟩
    · have : zm = false := by rcases hzm with h | h <;> omega
      subst this
      have : zt = false := by rcases hzt with h | h <;> omega
      subst this
      simp (disch := omega) only [nI, dF, bit, big0, qbt, qhs, Bool.false_and, qb3] at e
      exact ⟨m, tr, i, h, e, ⟨h0, h1⟩, by omega, by omega, ok, by omega⟩
theorem qfg (k : Nat) (hk : 2000000 ≤ k) (fu : List (Nat × Nat)) (v0 : Bool) (v1 : List Int) (v2 v3 : Int) (z : Bool) (l : List Int) (hl : (l.length : Int) ≤ 1048576) (z6 : Bool) (l7 : List Cell) (z8 : Bool) (l9 : List Int) (z10 : Bool) (l11 : List Int) (z12 : Bool) (l13 : List Int) (x14 : Int) (c : List Cell) (R : Nat) (hR : 1 ≤ R) (hR' : R ≤ 3) (hm : qfn R 0 c = true) (hu : unb c < 0) :
    ∀ (n t : Nat) (i h : Int) (zb : Bool) (bd : List Int), t ≤ R → R - t < n → 0 ≤ i → i ≤ l.length → (zb = false ∨ t = 0) → bd.length = t → qag bd = true →
    ∃ (m' t' bd' : List Int) (i' h' : Int), lp (k + 10) spec_l07State [(.ptr true [(.arr false (v0) (.ints IntKind.u8 (v1))), (.int .i64 (v2)), (.int .i64 (v3))])] fu 4 (n) (qg3 (t : Int) z l i h z6 l7 z8 l9 z10 l11 z12 l13 x14 false c (R : Int) true [] true [] zb bd (R : Int)) = some [.agg [.int .i64 ((R : Int)), .arr true (false) (.r3 (c)), .arr true (false) (.ints .i64 (m')), .arr true (false) (.ints .i64 (t')), .arr true (false) (.ints .i64 (bd'))], .ptr true [.arr false (z) (.ints .u8 (l)), .int .i64 (i'), .int .i64 (h')]] ∧ (0 ≤ i' ∧ i' ≤ l.length) ∧ StF (R : Int) c m' t' bd' ∧ isum m' ≤ 2560000
  | 0, t, i, h, zb, bd, ht, hn, h0, h1, hz, lb, ok => by omega
  | n + 1, t, i, h, zb, bd, ht, hn, h0, h1, hz, lb, ok => by
    have e := qer (k + 10) n fu v0 v1 v2 v3 (t : Int) z l i h z6 l7 z8 l9 z10 l11 z12 l13 x14 false c (R : Int) true [] true [] zb bd (R : Int)
    by_cases g : t < R
    · have la : ∀ x : Int, (bd ++ [x]).length = t + 1 := fun x => by rw [List.length_append, lb]; rfl
      obtain ⟨u1, i1, k1, e1, b1, q1, r1⟩ := qbf (k + 8) (by omega) z l i h 4 hl h0 h1 (by omega) (by omega)
      obtain ⟨u2, i2, k2, e2, b2, q2, r2⟩ := qbf (k + 8) (by omega) z l i1 k1 5000 hl q1 r1 (by omega) (by omega)
      have p0 : 0 ≤ u1 * u2 := Int.mul_nonneg b1.1 b2.1
      have p1 : u1 * u2 ≤ u1 * 4999 := Int.mul_le_mul_of_nonneg_left (by omega) b1.1
      obtain ⟨m', t', bd', i', h', e5, p5⟩ := qfg k hk fu v0 v1 v2 v3 z l hl z6 l7 z8 l9 z10 l11 z12 l13 x14 c R hR hR' hm hu n (t + 1) i2 k2 false (bd ++ [u1 * u2]) (by omega) (by omega) q2 r2 (Or.inl rfl) (la _) (qah bd _ ok p0 (by omega))
      simp (disch := omega) only [dT, e1, la, big0, qbt, qhs, dF, Bool.and_false, qb4, qai, nth1, qf1, qhk, qf2, e2, nth0, e5] at e
      exact ⟨m', t', bd', i', h', e, p5⟩
    · have : zb = false := by rcases hz with h | h <;> omega
      subst this
      obtain ⟨u1, i1, k1, e1, b1, q1, r1⟩ := qbf (k + 8) (by omega) z l i h 20000 hl h0 h1 (by omega) (by omega)
      have ml := qfs hm
      obtain ⟨m', t', i', h', e5, p5, lm, lt, mk, sm⟩ := qfh k hk fu v0 v1 v2 v3 (1 + u1) (by omega) (by omega) z l hl z6 l7 z8 l9 z10 l11 z12 l13 x14 c ml.1 ml.2 (R : Int) bd (R : Int) (k + 10) 0 i1 k1 true true [] [] (by omega) (by omega) q1 r1 (Or.inr rfl) (Or.inr rfl) rfl rfl rfl (by simp [isum])
      rw [show ((0 : Nat) : Int) = 0 from rfl] at e5
      simp (disch := omega) only [dF, big0, qbt, qhs, Bool.false_and, e1, qai, nth0, qhk, nth1, qf1, qf2, e5, qb3] at e
      exact ⟨m', t', bd, i', h', e, p5, ⟨hm, hu, lm, lt, by omega, mk, ok, by omega⟩, sm⟩
theorem qbs (k : Nat) (hk : 2000000 ≤ k) (z : Bool) (l : List Int) (i h : Int) (hl : (l.length : Int) ≤ 1048576) (h0 : 0 ≤ i) (h1 : i ≤ l.length) :
    ∃ (r : Int) (c : List Cell) (m t b : List Int) (i' h' : Int), go (k + 11) spec_l07State [.ptr true [.arr false (z) (.ints .u8 (l)), .int .i64 (i), .int .i64 (h)]] = some [.agg [.int .i64 (r), .arr true (false) (.r3 (c)), .arr true (false) (.ints .i64 (m)), .arr true (false) (.ints .i64 (t)), .arr true (false) (.ints .i64 (b))], .ptr true [.arr false (z) (.ints .u8 (l)), .int .i64 (i'), .int .i64 (h')]] ∧ (0 ≤ i' ∧ i' ≤ l.length) ∧ StF r c m t b ∧ r ≤ 3 ∧ isum m ≤ 2560000 := by
  have e := qdl (k + 10) z l i h
  obtain ⟨r, c, i1, k1, e1, q1, hm, hu, r3⟩ := qbp k (by omega) z l i h hl h0 h1
  have rr := (qfr _ _ _ hm).1
  obtain ⟨R, rfl⟩ : ∃ R : Nat, r = (R : Int) := ⟨r.toNat, by omega⟩
  obtain ⟨m', t', bd', i', h', e5, p5, S, sm⟩ := qfg k hk [] z l i h z l hl true [] true [] true [] true [] 0 c R (by omega) (by omega) hm hu (k + 10) 0 i1 k1 true [] (by omega) (by omega) q1.1 q1.2 (Or.inr rfl) rfl rfl
  rw [show ((0 : Nat) : Int) = 0 from rfl] at e5
  simp (disch := omega) only [e1, qai, nth1, qf1, qhk, qf2, nth0, qbv, qfw, qf3, qbu, e5] at e
  exact ⟨_, _, _, _, _, _, _, e, p5, S, r3, sm⟩
end Go.Proofs.Ytcaapedadpnjoaa
end
section
namespace Go.Proofs.Ytcaapedadpnjoaa
open Go.Ev
theorem qcv (k : Nat) (az : Bool) (a : List Int) : go (k + 1) laws_big [(.arr false (az) (.ints IntKind.u8 (a)))] =
 some [(.bool (decide ((1048576 : Int) < nI (List.length a))))] := by kernel_rfl
def qgh (x0 x1 : Int) (z2 : Bool) (l3 : List Int) (z4 : Bool) (l5 : List Int) (z6 : Bool) (l7 : List (List RC)) : St := ⟨fill 66 [(5, (.sl 0 none)), (6, (.sl 1 none)), (30, (.sl 2 none)), (31, (.int .i64 (x0))), (32, (.int .i64 (x1)))], [], [(.arr true (z2) (.ints .i64 (l3))), (.arr true (z4) (.ints .i64 (l5))), (.rows false (z6) [.n, .r3, .is, .is, .is] (l7))]⟩
def qgi (x0 x1 x2 x3 : Int) (z4 : Bool) (l5 : List Int) (z6 : Bool) (l7 : List Int) (z8 : Bool) (l9 : List (List RC)) (z10 : Bool) (l11 : List Int) : St := ⟨fill 66 [(5, (.sl 0 none)), (6, (.sl 1 none)), (30, (.sl 2 none)), (31, (.int .i64 (x0))), (32, (.int .i64 (x1))), (37, (.sl 3 none)), (38, (.int .i64 (x2))), (39, (.int .i64 (x3)))], [], [(.arr true (z4) (.ints .i64 (l5))), (.arr true (z6) (.ints .i64 (l7))), (.rows false (z8) [.n, .r3, .is, .is, .is] (l9)), (.arr false (z10) (.ints .i64 (l11)))]⟩
theorem qca (k : Nat) (az : Bool) (a : List (List RC)) : go (k + 1) impl_EnvelopeOf [(.rows (az) [.n, .r3, .is, .is, .is] (a))] =
 (go k impl_within [(.int .i64 (nI (List.length a))), (.int .i64 ((1 : Int))), (.int .i64 ((100 : Int)))]).bind fun r0 =>
 cond (!bit (nth r0 0))
 (some [(.arr true (true) (.ints .i64 ([]))), (.arr true (true) (.ints .i64 ([]))), (.bool (false))])
 ((go k slices_ContainsFunc_impl_State_impl_State [(.rows (az) [.n, .r3, .is, .is, .is] (a)), (.fn impl_EnvelopeOf_1 [(.ptr false [(.rows (az) [.n, .r3, .is, .is, .is] (a))])])]).bind fun r1 =>
 cond (bit (nth r1 0))
 (some [(.arr true (true) (.ints .i64 ([]))), (.arr true (true) (.ints .i64 ([]))), (.bool (false))])
 (cond (decide ((0 : Int) ≤ (0 : Int)) && decide ((0 : Int) < nI (List.length a)))
 ((go k slices_Clone_int_int [(.arr false (RC.nil (rcAt (rrow a (Int.toNat (0 : Int))) 2)) (.ints .i64 (RC.ints (rcAt (rrow a (Int.toNat (0 : Int))) 2))))]).bind fun r2 =>
 cond (decide ((0 : Int) ≤ (0 : Int)) && decide ((0 : Int) < nI (List.length a)))
 ((go k slices_Clone_int_int [(.arr false (RC.nil (rcAt (rrow a (Int.toNat (0 : Int))) 2)) (.ints .i64 (RC.ints (rcAt (rrow a (Int.toNat (0 : Int))) 2))))]).bind fun r3 =>
 lp k impl_EnvelopeOf [] [] 5 k (qgh (nI (List.length a)) (0 : Int) (D.nil (nth r2 0)) (D.ints (nth r2 0)) (D.nil (nth r3 0)) (D.ints (nth r3 0)) az a))
 (none))
 (none))) := by kernel_rfl
theorem qd5 (k n : Nat) (fu : List (Nat × Nat)) (x0 x1 : Int) (z2 : Bool) (l3 : List Int) (z4 : Bool) (l5 : List Int) (z6 : Bool) (l7 : List (List RC)) : lp k impl_EnvelopeOf [] fu 5 (n + 1) (qgh x0 x1 z2 l3 z4 l5 z6 l7) =
 cond (decide (x1 < x0))
 (cond (decide ((0 : Int) ≤ x1) && decide (x1 < nI (List.length l7)))
 (lp k impl_EnvelopeOf [] ((5, n) :: fu) 8 k (qgi x0 x1 (nI (List.length (RC.ints (rcAt (rrow l7 (Int.toNat x1)) 2)))) (0 : Int) z2 l3 z4 l5 z6 l7 (RC.nil (rcAt (rrow l7 (Int.toNat x1)) 2)) (RC.ints (rcAt (rrow l7 (Int.toNat x1)) 2))))
 (none))
 (some [(.arr true (z2) (.ints .i64 (l3))), (.arr true (z4) (.ints .i64 (l5))), (.bool (true))]) := by kernel_rfl
theorem qd6 (k n : Nat) (fu : List (Nat × Nat)) (x0 x1 x2 x3 : Int) (z4 : Bool) (l5 : List Int) (z6 : Bool) (l7 : List Int) (z8 : Bool) (l9 : List (List RC)) (z10 : Bool) (l11 : List Int) : lp k impl_EnvelopeOf [] fu 8 (n + 1) (qgi x0 x1 x2 x3 z4 l5 z6 l7 z8 l9 z10 l11) =
 cond (decide (x3 < x2))
 (cond (decide ((0 : Int) ≤ x3) && decide (x3 < nI (List.length l11)))
 (cond (decide ((0 : Int) ≤ x3) && decide (x3 < nI (List.length l5)))
 (cond (decide ((0 : Int) ≤ x3) && decide (x3 < nI (List.length l7)))
 (cond (decide ((0 : Int) ≤ x3) && decide (x3 < nI (List.length l5)))
 (cond (decide ((0 : Int) ≤ x3) && decide (x3 < nI (List.length l7)))
 (lp k impl_EnvelopeOf [] fu 8 n (qgi x0 x1 x2 (IntKind.wrap .i64 (x3 + (1 : Int))) z4 (List.set l5 (Int.toNat x3) (if List.getD l11 (Int.toNat x3) (0 : Int) < List.getD l5 (Int.toNat x3) (0 : Int) then List.getD l11 (Int.toNat x3) (0 : Int) else List.getD l5 (Int.toNat x3) (0 : Int))) z6 (List.set l7 (Int.toNat x3) (if List.getD l11 (Int.toNat x3) (0 : Int) > List.getD l7 (Int.toNat x3) (0 : Int) then List.getD l11 (Int.toNat x3) (0 : Int) else List.getD l7 (Int.toNat x3) (0 : Int))) z8 l9 z10 l11))
 (none))
 (none))
 (none))
 (none))
 (none))
 (lp k impl_EnvelopeOf [] fu 5 (fuelOf fu 5) (qgh x0 (IntKind.wrap .i64 (x1 + (1 : Int))) z4 l5 z6 l7 z8 l9)) := by kernel_rfl
theorem qcb (k : Nat) (v0 : Int) (v1 : Bool) (v2 : List (Int × Int × Int)) (v3 : Bool) (v4 : List Int) (v5 : Bool) (v6 : List Int) (v7 : Bool) (v8 : List Int) (v9 : Bool) (v10 : List (List RC)) : go (k + 1) impl_EnvelopeOf_1 [(.agg [(.int .i64 (v0)), (.arr false (v1) (.r3 (v2))), (.arr false (v3) (.ints .i64 (v4))), (.arr false (v5) (.ints .i64 (v6))), (.arr false (v7) (.ints .i64 (v8)))]), (.ptr false [(.rows (v9) [.n, .r3, .is, .is, .is] (v10))])] =
 (go k impl_StateOk [(.agg [(.int .i64 (v0)), (.arr false (v1) (.r3 (v2))), (.arr false (v3) (.ints .i64 (v4))), (.arr false (v5) (.ints .i64 (v6))), (.arr false (v7) (.ints .i64 (v8)))])]).bind fun r0 =>
 cond (!bit (nth r0 0))
 (some [(.bool (true))])
 (cond (decide ((0 : Int) ≤ (0 : Int)) && decide ((0 : Int) < nI (List.length v10)))
 ((go k impl_SameMesh [(.agg [(.int .i64 (v0)), (.arr false (v1) (.r3 (v2)))]), (.agg [(.int .i64 (RC.num (rcAt (rrow v10 (Int.toNat (0 : Int))) 0))), (.arr false (RC.nil (rcAt (rrow v10 (Int.toNat (0 : Int))) 1)) (.r3 (RC.r3s (rcAt (rrow v10 (Int.toNat (0 : Int))) 1))))])]).bind fun r1 =>
 some [(.bool (!bit (nth r1 0)))])
 (none)) := by kernel_rfl
theorem qcx (k : Nat) (v0 : Bool) (v1 : List (List RC)) (v2 : Bool) (v3 : List (List RC)) : go (k + 1) slices_ContainsFunc_impl_State_impl_State [(.rows (v0) [.n, .r3, .is, .is, .is] (v1)), (.fn impl_EnvelopeOf_1 [(.ptr false [(.rows (v2) [.n, .r3, .is, .is, .is] (v3))])])] =
 (go k slices_IndexFunc_impl_State_impl_State [(.rows (v0) [.n, .r3, .is, .is, .is] (v1)), (.fn impl_EnvelopeOf_1 [(.ptr false [(.rows (v2) [.n, .r3, .is, .is, .is] (v3))])])]).bind fun r0 =>
 some [(.bool (decide ((0 : Int) ≤ D.toInt (nth r0 0))))] := by kernel_rfl
def qgw (x0 x1 : Int) (z2 : Bool) (l3 : List (List RC)) (z4 : Bool) (l5 : List (List RC)) : St := ⟨fill 19 [(0, (.sl 0 none)), (1, (.fn impl_EnvelopeOf_1 [(.ptr 2 (0) (0))])), (7, (.int .i64 (x0))), (8, (.int .i64 (x1)))], [], [(.rows false (z2) [.n, .r3, .is, .is, .is] (l3)), (.rows false (z4) [.n, .r3, .is, .is, .is] (l5)), (.box false [(.sl 1 none)])]⟩
theorem qc0 (k : Nat) (v0 : Bool) (v1 : List (List RC)) (v2 : Bool) (v3 : List (List RC)) : go (k + 1) slices_IndexFunc_impl_State_impl_State [(.rows (v0) [.n, .r3, .is, .is, .is] (v1)), (.fn impl_EnvelopeOf_1 [(.ptr false [(.rows (v2) [.n, .r3, .is, .is, .is] (v3))])])] =
 lp k slices_IndexFunc_impl_State_impl_State [] [] 2 k (qgw (nI (List.length v1)) (0 : Int) v0 v1 v2 v3) := by kernel_rfl
theorem qek (k n : Nat) (fu : List (Nat × Nat)) (x0 x1 : Int) (z2 : Bool) (l3 : List (List RC)) (z4 : Bool) (l5 : List (List RC)) : lp k slices_IndexFunc_impl_State_impl_State [] fu 2 (n + 1) (qgw x0 x1 z2 l3 z4 l5) =
 cond (decide (x1 < x0))
 (cond (decide ((0 : Int) ≤ x1) && decide (x1 < nI (List.length l3)))
 ((go k impl_EnvelopeOf_1 [(.agg [(.int .i64 (RC.num (rcAt (rrow l3 (Int.toNat x1)) 0))), (.arr false (RC.nil (rcAt (rrow l3 (Int.toNat x1)) 1)) (.r3 (RC.r3s (rcAt (rrow l3 (Int.toNat x1)) 1)))), (.arr false (RC.nil (rcAt (rrow l3 (Int.toNat x1)) 2)) (.ints .i64 (RC.ints (rcAt (rrow l3 (Int.toNat x1)) 2)))), (.arr false (RC.nil (rcAt (rrow l3 (Int.toNat x1)) 3)) (.ints .i64 (RC.ints (rcAt (rrow l3 (Int.toNat x1)) 3)))), (.arr false (RC.nil (rcAt (rrow l3 (Int.toNat x1)) 4)) (.ints .i64 (RC.ints (rcAt (rrow l3 (Int.toNat x1)) 4))))]), (.ptr false [(.rows (z4) [.n, .r3, .is, .is, .is] (l5))])]).bind fun r0 =>
 cond (bit (nth r0 0))
 (some [(.int .i64 (x1))])
 (lp k slices_IndexFunc_impl_State_impl_State [] fu 2 n (qgw x0 (IntKind.wrap .i64 (x1 + (1 : Int))) z2 l3 z4 l5)))
 (none))
 (some [(.int .i64 ((-1 : Int)))]) := by kernel_rfl
def qgm (x0 x1 x2 : Int) (z3 : Bool) (l4 : List Int) (z5 : Bool) (l6 : List Int) : St := ⟨fill 52 [(1, (.sl 0 none)), (5, (.int .i64 (x0))), (18, (.sl 1 none)), (19, (.int .i64 (x1))), (20, (.int .i64 (x2)))], [], [(.arr false (z3) (.ints .i64 (l4))), (.arr false (z5) (.ints .i64 (l6)))]⟩
theorem qci (k : Nat) (az : Bool) (a : List Int) (bz : Bool) (b : List Int) : go (k + 1) impl_SpreadOf [(.arr false (az) (.ints .i64 (a))), (.arr false (bz) (.ints .i64 (b)))] =
 cond (!decide (nI (List.length a) = nI (List.length b)))
 (some [(.int .i64 ((-1 : Int)))])
 (cond (decide ((1000 : Int) < nI (List.length a)))
 (some [(.int .i64 ((-1 : Int)))])
 (lp k impl_SpreadOf [] [] 5 k (qgm (0 : Int) (nI (List.length a)) (0 : Int) bz b az a))) := by kernel_rfl
theorem qea (k n : Nat) (fu : List (Nat × Nat)) (x0 x1 x2 : Int) (z3 : Bool) (l4 : List Int) (z5 : Bool) (l6 : List Int) : lp k impl_SpreadOf [] fu 5 (n + 1) (qgm x0 x1 x2 z3 l4 z5 l6) =
 cond (decide (x2 < x1))
 (cond (decide ((0 : Int) ≤ x2) && decide (x2 < nI (List.length l6)))
 (cond (decide (List.getD l6 (Int.toNat x2) (0 : Int) < (0 : Int)))
 (some [(.int .i64 ((-1 : Int)))])
 (cond (decide ((0 : Int) ≤ x2) && decide (x2 < nI (List.length l4)))
 (cond (decide (List.getD l4 (Int.toNat x2) (0 : Int) < List.getD l6 (Int.toNat x2) (0 : Int)))
 (some [(.int .i64 ((-1 : Int)))])
 (cond (decide ((0 : Int) ≤ x2) && decide (x2 < nI (List.length l4)))
 (cond (decide ((10000000 : Int) < List.getD l4 (Int.toNat x2) (0 : Int)))
 (some [(.int .i64 ((-1 : Int)))])
 (cond (decide ((0 : Int) ≤ x2) && decide (x2 < nI (List.length l4)))
 (lp k impl_SpreadOf [] fu 5 n (qgm (IntKind.wrap .i64 (x0 + IntKind.wrap .i64 (List.getD l4 (Int.toNat x2) (0 : Int) - List.getD l6 (Int.toNat x2) (0 : Int)))) x1 (IntKind.wrap .i64 (x2 + (1 : Int))) z3 l4 z5 l6))
 (none)))
 (none)))
 (none)))
 (none))
 (some [(.int .i64 (x0))]) := by kernel_rfl

end Go.Proofs.Ytcaapedadpnjoaa
end
section
namespace Go.Proofs.Ytcaapedadpnjoaa
open Go.Ev
set_option maxRecDepth 20000
def rowS (r : Int) (c : List Cell) (m t b : List Int) : List RC := [.n r, .r3 false c, .is false m, .is false t, .is false b]
theorem rcS0 (r : Int) (c : List Cell) (m t b : List Int) : rcAt (rowS r c m t b) 0 = .n r := Eq.trans rfl rfl
theorem rcS1 (r : Int) (c : List Cell) (m t b : List Int) : rcAt (rowS r c m t b) 1 = .r3 false c := Eq.trans rfl rfl
theorem rcS2 (r : Int) (c : List Cell) (m t b : List Int) : rcAt (rowS r c m t b) 2 = .is false m := Eq.trans rfl rfl
theorem rcS3 (r : Int) (c : List Cell) (m t b : List Int) : rcAt (rowS r c m t b) 3 = .is false t := Eq.trans rfl rfl
theorem rcS4 (r : Int) (c : List Cell) (m t b : List Int) : rcAt (rowS r c m t b) 4 = .is false b := Eq.trans rfl rfl
theorem qf7 (x : Int) : RC.num (.n x) = x := Eq.trans rfl rfl
theorem qf6 (z : Bool) (l : List Int) : RC.nil (.is z l) = z := Eq.trans rfl rfl
theorem qf5 (z : Bool) (l : List Cell) : RC.nil (.r3 z l) = z := Eq.trans rfl rfl
theorem qf4 (z : Bool) (l : List Int) : RC.ints (.is z l) = l := Eq.trans rfl rfl
theorem qf8 (z : Bool) (l : List Cell) : RC.r3s (.r3 z l) = l := Eq.trans rfl rfl
def qgd (r : Int) (c : List Cell) (t b : List Int) (L : List (List Int)) : List (List RC) := L.map fun m => rowS r c m t b
theorem qgf (r : Int) (c : List Cell) (t b : List Int) (L : List (List Int)) : (qgd r c t b L).length = L.length := List.length_map ..
theorem qgg {r : Int} {c : List Cell} {t b : List Int} {L : List (List Int)} {i : Nat} (h : i < L.length) : rrow (qgd r c t b L) i = rowS r c (L.getD i []) t b := by
  unfold rrow qgd
  simp [List.getD_eq_getElem?_getD, h]
theorem qge (r : Int) (c : List Cell) (t b : List Int) (L : List (List Int)) (m : List Int) : qgd r c t b L ++ [rowS r c m t b] = qgd r c t b (L ++ [m]) := by simp [qgd]
structure Ens (r : Int) (c : List Cell) (t b : List Int) (L : List (List Int)) : Prop where
  ne : 0 < L.length
  le : L.length ≤ 100
  ok : ∀ m ∈ L, StF r c m t b
theorem Ens.at {r : Int} {c : List Cell} {t b : List Int} {L : List (List Int)} (E : Ens r c t b L) {i : Nat} (h : i < L.length) : StF r c (L.getD i []) t b := E.ok _ (qds h [])
theorem qg6 (r : Int) (l : List Cell) : qg5 r r l l = true := by unfold qg5; simp
theorem qal (k : Nat) (hk : 2000000 ≤ k) (r : Int) (c : List Cell) (m t b : List Int) (F : StF r c m t b) (z : Bool) (L : List (List Int)) (hL : 0 < L.length) : go (k + 9) impl_EnvelopeOf_1 [.agg [.int .i64 (r), .arr false (false) (.r3 (c)), .arr false (false) (.ints .i64 (m)), .arr false (false) (.ints .i64 (t)), .arr false (false) (.ints .i64 (b))], .ptr false [.rows z [.n, .r3, .is, .is, .is] (qgd r c t b L)]] = some [.bool false] := by
  rw [qcb]
  have g := stF.2 F
  have := F.len; have := F.bl; have := F.rr
  have ln := qgf r c t b L
  have r0 := qgg (r := r) (c := c) (t := t) (b := b) hL
  rw [show (0 : Nat) = Int.toNat 0 from rfl] at r0
  simp (disch := omega) only [qav, g, bit, dT, nI, ln, Bool.and_true, r0, rcS0, qf7, rcS1, qf5, qf8, qas, qg6, qai, nth0, qhj, Bool.not_true, qb4, qb3]
theorem qex (k : Nat) (hk : 2000000 ≤ k) (fu : List (Nat × Nat)) (r : Int) (c : List Cell) (t b : List Int) (L : List (List Int)) (E : Ens r c t b L) (z z' : Bool) : ∀ (N i : Nat), i ≤ L.length → L.length - i < N →
    lp (k + 9) slices_IndexFunc_impl_State_impl_State [] fu 2 (N) (qgw (L.length : Int) (i : Int) z (qgd r c t b L) z' (qgd r c t b L)) = some [.int .i64 (-1)]
  | 0, i, hi, hN => by omega
  | N + 1, i, hi, hN => by
    rw [qek]
    have ln := qgf r c t b L
    have := E.le
    by_cases g : i < L.length
    · have IH := qex k hk fu r c t b L E z z' N (i + 1) (by omega) (by omega)
      have e := qal k (by omega) r c (L.getD i []) t b (E.at g) z' L E.ne
      have ra := qgg (r := r) (c := c) (t := t) (b := b) g
      simp (disch := omega) only [dT, nI, ln, Bool.and_true, Int.toNat_natCast, ra, rcS0, qf7, rcS1, qf5, qf8, rcS2, qf6, qf4, rcS3, rcS4, e, bit, qbt, qhs, IH, qai, nth0, qhj, qb3, qb4]
    · simp (disch := omega) only [dF, dT, nI, Bool.and_false, Int.toNat_natCast, bit, qbt, qhs, qb3]
theorem qam (k : Nat) (hk : 2000000 ≤ k) (r : Int) (c : List Cell) (t b : List Int) (L : List (List Int)) (E : Ens r c t b L) (z z' : Bool) : go (k + 11) slices_ContainsFunc_impl_State_impl_State [.rows z [.n, .r3, .is, .is, .is] (qgd r c t b L), .fn impl_EnvelopeOf_1 [.ptr false [.rows z' [.n, .r3, .is, .is, .is] (qgd r c t b L)]]] = some [.bool false] := by
  have e := qex k (by omega) [] r c t b L E z z' (k + 9) 0 (by omega) (by have := E.le; omega)
  have ln := qgf r c t b L
  rw [show ((0 : Nat) : Int) = 0 from rfl] at e
  rw [qcx]
  simp (disch := omega) only [qc0, nI, ln, e, qai, nth0, qhk, dF]
structure Env (n : Nat) (L : List (List Int)) (i : Nat) (lo hi : List Int) : Prop where
  l1 : lo.length = n
  l2 : hi.length = n
  btw : ∀ q, q < n → ∀ j, j < i → lo.getD q 0 ≤ (L.getD j []).getD q 0 ∧ (L.getD j []).getD q 0 ≤ hi.getD q 0
  hit : ∀ q, q < n → ∃ j, j < L.length ∧ (L.getD j []).getD q 0 = lo.getD q 0
  top : ∀ q, q < n → ∃ j, j < L.length ∧ (L.getD j []).getD q 0 = hi.getD q 0
theorem qew (k : Nat) (hk : 2000000 ≤ k) (fu : List (Nat × Nat)) (r : Int) (c : List Cell) (t b : List Int) (L : List (List Int)) (E : Ens r c t b L) (z : Bool) (i : Nat) (hi : i < L.length) (zm zl zh : Bool) : ∀ (N j : Nat) (lo up : List Int), j ≤ c.length → c.length - j < N → lo.length = c.length → up.length = c.length →
    ∃ lo' up' : List Int, lp (k + 11) impl_EnvelopeOf [] fu 8 (N) (qgi (L.length : Int) (i : Int) (c.length : Int) (j : Int) zl lo zh up z (qgd r c t b L) zm (L.getD i [])) = lp (k + 11) impl_EnvelopeOf [] fu 5 (fuelOf fu 5) (qgh (L.length : Int) ((i + 1 : Nat) : Int) zl lo' zh up' z (qgd r c t b L)) ∧ lo'.length = c.length ∧ up'.length = c.length ∧
      ∀ q, q < c.length → (q < j → lo'.getD q 0 = lo.getD q 0 ∧ up'.getD q 0 = up.getD q 0) ∧ (j ≤ q → lo'.getD q 0 = min ((L.getD i []).getD q 0) (lo.getD q 0) ∧ up'.getD q 0 = max ((L.getD i []).getD q 0) (up.getD q 0))
  | 0, j, lo, up, hj, hN, l1, l2 => by omega
  | N + 1, j, lo, up, hj, hN, l1, l2 => by
    have e := qd6 (k + 11) N fu (L.length : Int) (i : Int) (c.length : Int) (j : Int) zl lo zh up z (qgd r c t b L) zm (L.getD i [])
    have F := E.at hi
    have ml := F.ml; have cl := F.len; have ll := E.le
    by_cases g : j < c.length
    · obtain ⟨lo', up', e2, a1, a2, a3⟩ := qew k hk fu r c t b L E z i hi zm zl zh N (j + 1) (lo.set j (min ((L.getD i []).getD j 0) (lo.getD j 0))) (up.set j (max ((L.getD i []).getD j 0) (up.getD j 0))) (by omega) (by omega) (by rw [List.length_set]; exact l1) (by rw [List.length_set]; exact l2)
      simp (disch := omega) only [dT, nI, Bool.and_true, qbt, qhs, Int.toNat_natCast, imin, imax, e2, qb4] at e
      refine ⟨lo', up', e, a1, a2, fun q hq => ⟨fun h => ?_, fun h => ?_⟩⟩
      · have := (a3 q hq).1 (by omega)
        rw [qg7, qg7, if_neg (by omega), if_neg (by omega)] at this
        exact this
      · by_cases h' : q = j
        · subst h'
          have := (a3 q hq).1 (by omega)
          rw [qg7, qg7, if_pos (by omega), if_pos (by omega)] at this
          exact this
        · have := (a3 q hq).2 (by omega)
          rw [qg7, qg7, if_neg (by omega), if_neg (by omega)] at this
          exact this
    · simp (disch := omega) only [dF, dT, nI, Bool.and_false, qbt, qhs, Int.toNat_natCast, imin, imax, qb3] at e
      exact ⟨lo, up, e, l1, l2, fun q hq => ⟨fun _ => ⟨rfl, rfl⟩, fun h => by omega⟩⟩
theorem qev (k : Nat) (hk : 2000000 ≤ k) (r : Int) (c : List Cell) (t b : List Int) (L : List (List Int)) (E : Ens r c t b L) (z zl zh : Bool) : ∀ (N : Nat) (fu : List (Nat × Nat)) (i : Nat) (lo up : List Int), i ≤ L.length → L.length - i < N → Env c.length L i lo up →
    ∃ lo' up' : List Int, lp (k + 11) impl_EnvelopeOf [] fu 5 (N) (qgh (L.length : Int) (i : Int) zl lo zh up z (qgd r c t b L)) = some [.arr true zl (.ints .i64 lo'), .arr true zh (.ints .i64 up'), .bool true] ∧ Env c.length L L.length lo' up'
  | 0, fu, i, lo, up, hi, hN, V => by omega
  | N + 1, fu, i, lo, up, hi, hN, V => by
    have e := qd5 (k + 11) N fu (L.length : Int) (i : Int) zl lo zh up z (qgd r c t b L)
    have ln := qgf r c t b L
    have ll := E.le
    by_cases g : i < L.length
    · have F := E.at g
      have ml := F.ml; have cl := F.len
      have ra := qgg (r := r) (c := c) (t := t) (b := b) g
      obtain ⟨lo1, up1, e1, a1, a2, a3⟩ := qew k hk ((5, N) :: fu) r c t b L E z i g false zl zh (k + 11) 0 lo up (by omega) (by omega) V.l1 V.l2
      rw [qdr, show ((0 : Nat) : Int) = 0 from rfl] at e1
      have V1 : Env c.length L (i + 1) lo1 up1 := by
        refine ⟨a1, a2, fun q hq j hj => ?_, fun q hq => ?_, fun q hq => ?_⟩
        · have h := (a3 q hq).2 (Nat.zero_le _)
          by_cases h' : j = i
          · subst h'; omega
          · have := V.btw q hq j (by omega); omega
        · have h := (a3 q hq).2 (Nat.zero_le _)
          by_cases h' : (L.getD i []).getD q 0 ≤ lo.getD q 0
          · exact ⟨i, g, by omega⟩
          · obtain ⟨j, h1, h2⟩ := V.hit q hq
            exact ⟨j, h1, by omega⟩
        · have h := (a3 q hq).2 (Nat.zero_le _)
          by_cases h' : up.getD q 0 ≤ (L.getD i []).getD q 0
          · exact ⟨i, g, by omega⟩
          · obtain ⟨j, h1, h2⟩ := V.top q hq
            exact ⟨j, h1, by omega⟩
      obtain ⟨lo2, up2, e2, b2⟩ := qev k hk r c t b L E z zl zh N ((5, N) :: fu) (i + 1) lo1 up1 (by omega) (by omega) V1
      simp (disch := omega) only [dT, nI, ln, Bool.and_true, Int.toNat_natCast, ra, rcS2, qf4, ml, qf6, e1, e2, qb4] at e
      exact ⟨lo2, up2, e, b2⟩
    · have : i = L.length := by omega
      subst this
      simp (disch := omega) only [dF, dT, nI, Bool.and_false, Int.toNat_natCast, qb3] at e
      exact ⟨lo, up, e, V⟩
theorem qan (k : Nat) (hk : 2000000 ≤ k) (r : Int) (c : List Cell) (t b : List Int) (L : List (List Int)) (E : Ens r c t b L) (z : Bool) :
    ∃ lo up : List Int, go (k + 12) impl_EnvelopeOf [.rows z [.n, .r3, .is, .is, .is] (qgd r c t b L)] = some [.arr true false (.ints .i64 lo), .arr true false (.ints .i64 up), .bool true] ∧ Env c.length L L.length lo up := by
  have e := qca (k + 11) z (qgd r c t b L)
  have ln := qgf r c t b L
  have ll := E.le; have ne := E.ne
  have F := E.at E.ne
  have ml := F.ml; have cl := F.len
  have r0 : rrow (qgd r c t b L) (Int.toNat 0) = rowS r c (L.getD 0 []) t b := qgg E.ne
  have eA := qam k (by omega) r c t b L E z z
  obtain ⟨lo, up, e5, V⟩ := qev k hk r c t b L E z false false (k + 11) [] 0 (L.getD 0 []) (L.getD 0 []) (by omega) (by omega)
    ⟨ml, ml, fun q hq j hj => by omega, fun q hq => ⟨0, ne, rfl⟩, fun q hq => ⟨0, ne, rfl⟩⟩
  have gl : inR (L.length : Int) 1 100 = true := qdy.2 (by omega)
  rw [show ((0 : Nat) : Int) = 0 from rfl] at e5
  simp (disch := omega) only [nI, ln, qa5, gl, bit, eA, dT, Bool.and_true, r0, rcS2, qf6, qf4, qa7, qai, nth0, qfw, qdz, qb4, e5, qhj, qb3, Bool.not_true] at e
  exact ⟨lo, up, e, V⟩
end Go.Proofs.Ytcaapedadpnjoaa
end
section
namespace Go.Proofs.Ytcaapedadpnjoaa
open Go.Ev
def qgp (x0 : Int) (x1 x2 z3 : Bool) (l4 : List Int) (x5 x6 : Int) (z7 : Bool) (l8 : List (Int × Int × Int)) (z9 : Bool) (l10 : List Int) (z11 : Bool) (l12 : List Int) (z13 : Bool) (l14 : List Int) (x15 : Int) (z16 : Bool) (l17 : List (List RC)) : St := ⟨fill 48 [(3, (.ptr 1 (0) (0))), (4, (.ptr 6 (0) (0))), (5, (.sl 7 none)), (6, (.int .i64 (x0)))], [(.sl 0 none), .un, (.bool (x1)), .un, .un, .un, .un, .un, .un, .un, .un, .un, .un, (.sl 0 none), (.bool (x2)), (.sl 0 none), .un, .un, .un, .un, .un, .un, .un, .un, .un, .un, .un, .un, .un, .un, .un, .un, .un, .un, .un, .un, .un, .un, .un, .un, .un, .un, .un, .un, .un, .un, .un, .un, .un, .un, .un, .un, .un, .un, .un, .un, .un, .un, .un, .un, .un, .un, .un, .un, .un, .un, .un, .un, .un, .un, .un, .un, .un, .un, .un, .un, .un, .un, .un, .un, .un, .un, .un, .un, .un, .un, .un, .un, .un, .un, .un, .un, .un, .un, .un, .un, .un, .un, .un, .un, .un, .un, .un, .un, .un, .un, .un, .un, .un, .un, .un, .un, .un, .un, .un, .un, .un, .un, .un, .un, .un, .un], [(.arr false (z3) (.ints IntKind.u8 (l4))), (.box true [(.sl 0 none), (.int .i64 (x5)), (.int .i64 (x6))]), (.arr false (z7) (.r3 (l8))), (.arr false (z9) (.ints .i64 (l10))), (.arr false (z11) (.ints .i64 (l12))), (.arr false (z13) (.ints .i64 (l14))), (.box true [(.int .i64 (x15)), (.sl 2 none), (.sl 3 none), (.sl 4 none), (.sl 5 none)]), (.rows true (z16) [.n, .r3, .is, .is, .is] (l17))]⟩
def qgq (x0 x1 : Int) (x2 x3 z4 : Bool) (l5 : List Int) (x6 x7 : Int) (z8 : Bool) (l9 : List (Int × Int × Int)) (z10 : Bool) (l11 : List Int) (z12 : Bool) (l13 : List Int) (z14 : Bool) (l15 : List Int) (x16 : Int) (z17 : Bool) (l18 : List (List RC)) (z19 : Bool) (l20 : List (Int × Int × Int)) (z21 : Bool) (l22 : List Int) (z23 : Bool) (l24 : List Int) (z25 : Bool) (l26 : List Int) (x27 : Int) : St := ⟨fill 48 [(3, (.ptr 1 (0) (0))), (4, (.ptr 6 (0) (0))), (5, (.sl 7 none)), (6, (.int .i64 (x0))), (7, (.ptr 12 (0) (0))), (8, (.int .i64 (x1)))], [(.sl 0 none), .un, (.bool (x2)), .un, .un, .un, .un, .un, .un, .un, .un, .un, .un, (.sl 0 none), (.bool (x3)), (.sl 0 none), .un, .un, .un, .un, .un, .un, .un, .un, .un, .un, .un, .un, .un, .un, .un, .un, .un, .un, .un, .un, .un, .un, .un, .un, .un, .un, .un, .un, .un, .un, .un, .un, .un, .un, .un, .un, .un, .un, .un, .un, .un, .un, .un, .un, .un, .un, .un, .un, .un, .un, .un, .un, .un, .un, .un, .un, .un, .un, .un, .un, .un, .un, .un, .un, .un, .un, .un, .un, .un, .un, .un, .un, .un, .un, .un, .un, .un, .un, .un, .un, .un, .un, .un, .un, .un, .un, .un, .un, .un, .un, .un, .un, .un, .un, .un, .un, .un, .un, .un, .un, .un, .un, .un, .un, .un, .un], [(.arr false (z4) (.ints IntKind.u8 (l5))), (.box true [(.sl 0 none), (.int .i64 (x6)), (.int .i64 (x7))]), (.arr false (z8) (.r3 (l9))), (.arr false (z10) (.ints .i64 (l11))), (.arr false (z12) (.ints .i64 (l13))), (.arr false (z14) (.ints .i64 (l15))), (.box true [(.int .i64 (x16)), (.sl 2 none), (.sl 3 none), (.sl 4 none), (.sl 5 none)]), (.rows true (z17) [.n, .r3, .is, .is, .is] (l18)), (.arr true (z19) (.r3 (l20))), (.arr true (z21) (.ints .i64 (l22))), (.arr true (z23) (.ints .i64 (l24))), (.arr true (z25) (.ints .i64 (l26))), (.box true [(.int .i64 (x27)), (.sl 8 none), (.sl 9 none), (.sl 10 none), (.sl 11 none)])]⟩
def qgr (x0 x1 : Int) (x2 x3 : Bool) (x4 : Int) (z5 : Bool) (l6 : List (List RC)) (z7 : Bool) (l8 : List Int) (z9 : Bool) (l10 : List Int) : St := ⟨fill 122 [(3, (.sl 0 none)), (4, (.sl 1 none)), (5, (.sl 2 none)), (7, (.int .i64 (x0))), (8, (.int .i64 (x1))), (9, (.bool (x2))), (10, (.bool (x3))), (11, (.int .i64 (x4)))], [], [(.rows true (z5) [.n, .r3, .is, .is, .is] (l6)), (.arr true (z7) (.ints .i64 (l8))), (.arr true (z9) (.ints .i64 (l10)))]⟩
def qgs (x0 x1 : Int) (z2 : Bool) (l3 : List (List RC)) (z4 : Bool) (l5 : List Int) (z6 : Bool) (l7 : List Int) : St := ⟨fill 122 [(3, (.sl 0 none)), (4, (.sl 1 none)), (5, (.sl 2 none)), (7, (.int .i64 (x0))), (12, (.int .i64 (x1)))], [], [(.rows true (z2) [.n, .r3, .is, .is, .is] (l3)), (.arr true (z4) (.ints .i64 (l5))), (.arr true (z6) (.ints .i64 (l7)))]⟩
def qgt (x0 x1 : Int) (x2 x3 z4 : Bool) (l5 : List Int) (z6 : Bool) (l7 : List (List RC)) : St := ⟨fill 32 [(0, (.sl 0 none)), (3, (.int .i64 (x0))), (4, (.int .i64 (x1)))], [(.sl 0 none), .un, (.sl 1 none), .un, .un, .un, .un, .un, .un, (.sl 0 none), .un, .un, .un, .un, .un, .un, .un, .un, .un, .un, .un, .un, .un, .un, .un, .un, .un, .un, .un, .un, .un, .un, .un, .un, .un, .un, .un, .un, .un, .un, .un, .un, .un, .un, .un, .un, .un, .un, (.sl 0 none), .un, (.bool (x2)), .un, .un, .un, .un, .un, .un, .un, .un, .un, .un, (.sl 0 none), (.bool (x3)), (.sl 0 none), .un, .un, .un, .un, .un, .un, .un, .un, .un, .un, .un, .un, .un, .un, .un, .un, .un, .un, .un, .un, .un, .un, .un, .un, .un, .un, .un, .un, .un, .un, .un, .un, .un, .un, .un, .un, .un, .un, .un, .un, .un, .un, .un, .un, .un, .un, .un, .un, .un, .un, .un, .un, .un, .un, .un, .un, .un, .un, .un, .un, .un, .un, .un, .un, .un, .un, .un, .un, .un, .un, .un, .un, .un, .un, .un, .un, .un, .un, .un, .un, .un, .un, .un, .un, .un, .un, .un, .un, .un, .un, .un, .un, .un, .un, .un, .un, .un, .un, .un, .un, .un, .un, .un, .un, .un, .un], [(.arr false (z4) (.ints IntKind.u8 (l5))), (.rows true (z6) [.n, .r3, .is, .is, .is] (l7))]⟩
def qgu (x0 x1 : Int) (z2 : Bool) (l3 : List (List RC)) (z4 : Bool) (l5 : List Int) (z6 : Bool) (l7 : List Int) : St := ⟨fill 122 [(3, (.sl 0 none)), (4, (.sl 1 none)), (5, (.sl 2 none)), (7, (.int .i64 (x0))), (8, (.int .i64 (x1)))], [], [(.rows true (z2) [.n, .r3, .is, .is, .is] (l3)), (.arr true (z4) (.ints .i64 (l5))), (.arr true (z6) (.ints .i64 (l7)))]⟩
theorem qcu (k : Nat) (az : Bool) (a : List Int) : go (k + 1) laws_FnEnvelopes [(.arr false (az) (.ints IntKind.u8 (a)))] =
 (go k laws_big [(.arr false (az) (.ints IntKind.u8 (a)))]).bind fun r0 =>
 cond (bit (nth r0 0))
 (some [(.bool (true))])
 (lp k laws_FnEnvelopes [] [] 4200003 k (qgt (IntKind.wrap .i64 ((98231 : Int) + nI (List.length a))) (0 : Int) false (bit (nth r0 0)) az a true ([]))) := by kernel_rfl
theorem qed (k n : Nat) (fu : List (Nat × Nat)) (x0 : Int) (x1 x2 z3 : Bool) (l4 : List Int) (x5 x6 : Int) (z7 : Bool) (l8 : List (Int × Int × Int)) (z9 : Bool) (l10 : List Int) (z11 : Bool) (l12 : List Int) (z13 : Bool) (l14 : List Int) (x15 : Int) (z16 : Bool) (l17 : List (List RC)) : lp k laws_FnEnvelopes [] fu 1000005 (n + 1) (qgp x0 x1 x2 z3 l4 x5 x6 z7 l8 z9 l10 z11 l12 z13 l14 x15 z16 l17) =
 (go k spec_l01Below [(.ptr true [(.arr false (z3) (.ints IntKind.u8 (l4))), (.int .i64 (x5)), (.int .i64 (x6))]), (.int .i64 ((3 : Int)))]).bind fun r0 =>
 cond (decide (x0 < IntKind.wrap .i64 ((1 : Int) + D.toInt (nth r0 0))))
 ((go k spec_l07Copy [(.agg [(.int .i64 (x15)), (.arr false (z7) (.r3 (l8))), (.arr false (z9) (.ints .i64 (l10))), (.arr false (z11) (.ints .i64 (l12))), (.arr false (z13) (.ints .i64 (l14)))])]).bind fun r1 =>
 lp k laws_FnEnvelopes [] ((5, n) :: fu) 1000009 k (qgq x0 (0 : Int) x1 x2 z3 l4 (D.toInt (D.cell 1 (nth r0 1))) (D.toInt (D.cell 2 (nth r0 1))) z7 l8 z9 l10 z11 l12 z13 l14 x15 z16 l17 (D.nil (D.cell 1 (nth r1 0))) (D.r3 (D.cell 1 (nth r1 0))) (D.nil (D.cell 2 (nth r1 0))) (D.ints (D.cell 2 (nth r1 0))) (D.nil (D.cell 3 (nth r1 0))) (D.ints (D.cell 3 (nth r1 0))) (D.nil (D.cell 4 (nth r1 0))) (D.ints (D.cell 4 (nth r1 0))) (D.toInt (D.cell 0 (nth r1 0)))))
 ((go k impl_EnvelopeOf [(.rows (z16) [.n, .r3, .is, .is, .is] (l17))]).bind fun r2 =>
 cond (!bit (nth r2 2))
 (some [(.bool (false))])
 (cond (decide ((0 : Int) ≤ (0 : Int)) && decide ((0 : Int) < nI (List.length l17)))
 (cond (!decide (nI (List.length (D.ints (nth r2 0))) = nI (List.length (RC.ints (rcAt (rrow l17 (Int.toNat (0 : Int))) 2)))))
 (some [(.bool (false))])
 (cond (!decide (nI (List.length (D.ints (nth r2 1))) = nI (List.length (D.ints (nth r2 0)))))
 (some [(.bool (false))])
 (lp k laws_FnEnvelopes [] fu 9 k (qgu (0 : Int) (0 : Int) z16 l17 (D.nil (nth r2 0)) (D.ints (nth r2 0)) (D.nil (nth r2 1)) (D.ints (nth r2 1))))))
 (none))) := by kernel_rfl
theorem qee (k n : Nat) (fu : List (Nat × Nat)) (x0 x1 : Int) (x2 x3 z4 : Bool) (l5 : List Int) (x6 x7 : Int) (z8 : Bool) (l9 : List (Int × Int × Int)) (z10 : Bool) (l11 : List Int) (z12 : Bool) (l13 : List Int) (z14 : Bool) (l15 : List Int) (x16 : Int) (z17 : Bool) (l18 : List (List RC)) (z19 : Bool) (l20 : List (Int × Int × Int)) (z21 : Bool) (l22 : List Int) (z23 : Bool) (l24 : List Int) (z25 : Bool) (l26 : List Int) (x27 : Int) : lp k laws_FnEnvelopes [] fu 1000009 (n + 1) (qgq x0 x1 x2 x3 z4 l5 x6 x7 z8 l9 z10 l11 z12 l13 z14 l15 x16 z17 l18 z19 l20 z21 l22 z23 l24 z25 l26 x27) =
 cond (decide (x1 < nI (List.length l22)))
 (cond (decide ((0 : Int) ≤ x1) && decide (x1 < nI (List.length l22)))
 ((go k spec_l01Below [(.ptr true [(.arr false (z4) (.ints IntKind.u8 (l5))), (.int .i64 (x6)), (.int .i64 (x7))]), (.int .i64 ((50 : Int)))]).bind fun r0 =>
 cond (decide ((0 : Int) ≤ x1) && decide (x1 < nI (List.length l22)))
 (lp k laws_FnEnvelopes [] fu 1000009 n (qgq x0 (IntKind.wrap .i64 (x1 + (1 : Int))) x2 x3 z4 l5 (D.toInt (D.cell 1 (nth r0 1))) (D.toInt (D.cell 2 (nth r0 1))) z8 l9 z10 l11 z12 l13 z14 l15 x16 z17 l18 z19 l20 z21 (List.set l22 (Int.toNat x1) (IntKind.wrap .i64 (List.getD l22 (Int.toNat x1) (0 : Int) + D.toInt (nth r0 0)))) z23 l24 z25 l26 x27))
 (none))
 (none))
 (cond (decide (List.length l18 + List.length [[RC.n x27, RC.r3 z19 l20, RC.is z21 l22, RC.is z23 l24, RC.is z25 l26]] ≤ rowMax))
 (lp k laws_FnEnvelopes [] fu 1000005 (fuelOf fu 5) (qgp (IntKind.wrap .i64 (x0 + (1 : Int))) x2 x3 z4 l5 x6 x7 z8 l9 z10 l11 z12 l13 z14 l15 x16 (z17 && decide (List.length (l18 ++ [[RC.n x27, RC.r3 z19 l20, RC.is z21 l22, RC.is z23 l24, RC.is z25 l26]]) = 0)) (l18 ++ [[RC.n x27, RC.r3 z19 l20, RC.is z21 l22, RC.is z23 l24, RC.is z25 l26]])))
 (none)) := by kernel_rfl
theorem qef (k n : Nat) (fu : List (Nat × Nat)) (x0 x1 : Int) (x2 x3 : Bool) (x4 : Int) (z5 : Bool) (l6 : List (List RC)) (z7 : Bool) (l8 : List Int) (z9 : Bool) (l10 : List Int) : lp k laws_FnEnvelopes [] fu 14 (n + 1) (qgr x0 x1 x2 x3 x4 z5 l6 z7 l8 z9 l10) =
 cond (decide (x4 < nI (List.length l6)))
 (cond (x2)
 (cond (x3)
 (lp k laws_FnEnvelopes [] fu 14 n (qgr x0 x1 true true (IntKind.wrap .i64 (x4 + (1 : Int))) z5 l6 z7 l8 z9 l10))
 (cond (decide ((0 : Int) ≤ x4) && decide (x4 < nI (List.length l6)))
 (cond (decide ((0 : Int) ≤ x1) && decide (x1 < nI (List.length (RC.ints (rcAt (rrow l6 (Int.toNat x4)) 2)))))
 (cond (decide ((0 : Int) ≤ x1) && decide (x1 < nI (List.length l10)))
 (lp k laws_FnEnvelopes [] fu 14 n (qgr x0 x1 true (decide (List.getD (RC.ints (rcAt (rrow l6 (Int.toNat x4)) 2)) (Int.toNat x1) (0 : Int) = List.getD l10 (Int.toNat x1) (0 : Int))) (IntKind.wrap .i64 (x4 + (1 : Int))) z5 l6 z7 l8 z9 l10))
 (none))
 (none))
 (none)))
 (cond (decide ((0 : Int) ≤ x4) && decide (x4 < nI (List.length l6)))
 (cond (decide ((0 : Int) ≤ x1) && decide (x1 < nI (List.length (RC.ints (rcAt (rrow l6 (Int.toNat x4)) 2)))))
 (cond (decide ((0 : Int) ≤ x1) && decide (x1 < nI (List.length l8)))
 (cond (x3)
 (lp k laws_FnEnvelopes [] fu 14 n (qgr x0 x1 (decide (List.getD (RC.ints (rcAt (rrow l6 (Int.toNat x4)) 2)) (Int.toNat x1) (0 : Int) = List.getD l8 (Int.toNat x1) (0 : Int))) true (IntKind.wrap .i64 (x4 + (1 : Int))) z5 l6 z7 l8 z9 l10))
 (cond (decide ((0 : Int) ≤ x4) && decide (x4 < nI (List.length l6)))
 (cond (decide ((0 : Int) ≤ x1) && decide (x1 < nI (List.length (RC.ints (rcAt (rrow l6 (Int.toNat x4)) 2)))))
 (cond (decide ((0 : Int) ≤ x1) && decide (x1 < nI (List.length l10)))
 (lp k laws_FnEnvelopes [] fu 14 n (qgr x0 x1 (decide (List.getD (RC.ints (rcAt (rrow l6 (Int.toNat x4)) 2)) (Int.toNat x1) (0 : Int) = List.getD l8 (Int.toNat x1) (0 : Int))) (decide (List.getD (RC.ints (rcAt (rrow l6 (Int.toNat x4)) 2)) (Int.toNat x1) (0 : Int) = List.getD l10 (Int.toNat x1) (0 : Int))) (IntKind.wrap .i64 (x4 + (1 : Int))) z5 l6 z7 l8 z9 l10))
 (none))
 (none))
 (none)))
 (none))
 (none))
 (none)))
 (cond (decide ((0 : Int) ≤ x1) && decide (x1 < nI (List.length l10)))
 (cond (decide ((0 : Int) ≤ x1) && decide (x1 < nI (List.length l8)))
 (cond (!x2)
 (some [(.bool (false))])
 (cond (!x3)
 (some [(.bool (false))])
 (lp k laws_FnEnvelopes [] fu 9 (fuelOf fu 9) (qgu (IntKind.wrap .i64 (IntKind.wrap .i64 (x0 + List.getD l10 (Int.toNat x1) (0 : Int)) - List.getD l8 (Int.toNat x1) (0 : Int))) (IntKind.wrap .i64 (x1 + (1 : Int))) z5 l6 z7 l8 z9 l10))))
 (none))
 (none)) := by kernel_rfl
theorem qeg (k n : Nat) (fu : List (Nat × Nat)) (x0 x1 : Int) (z2 : Bool) (l3 : List (List RC)) (z4 : Bool) (l5 : List Int) (z6 : Bool) (l7 : List Int) : lp k laws_FnEnvelopes [] fu 22 (n + 1) (qgs x0 x1 z2 l3 z4 l5 z6 l7) =
 cond (decide (x1 < nI (List.length l3)))
 (cond (decide ((0 : Int) ≤ x1) && decide (x1 < nI (List.length l3)))
 ((go k impl_InEnvelope [(.agg [(.int .i64 (RC.num (rcAt (rrow l3 (Int.toNat x1)) 0))), (.arr false (RC.nil (rcAt (rrow l3 (Int.toNat x1)) 1)) (.r3 (RC.r3s (rcAt (rrow l3 (Int.toNat x1)) 1)))), (.arr false (RC.nil (rcAt (rrow l3 (Int.toNat x1)) 2)) (.ints .i64 (RC.ints (rcAt (rrow l3 (Int.toNat x1)) 2)))), (.arr false (RC.nil (rcAt (rrow l3 (Int.toNat x1)) 3)) (.ints .i64 (RC.ints (rcAt (rrow l3 (Int.toNat x1)) 3)))), (.arr false (RC.nil (rcAt (rrow l3 (Int.toNat x1)) 4)) (.ints .i64 (RC.ints (rcAt (rrow l3 (Int.toNat x1)) 4))))]), (.arr false (z4) (.ints .i64 (l5))), (.arr false (z6) (.ints .i64 (l7)))]).bind fun r0 =>
 cond (!bit (nth r0 0))
 (some [(.bool (false))])
 (lp k laws_FnEnvelopes [] fu 22 n (qgs x0 (IntKind.wrap .i64 (x1 + (1 : Int))) z2 l3 z4 l5 z6 l7)))
 (none))
 ((go k impl_SpreadOf [(.arr false (z4) (.ints .i64 (l5))), (.arr false (z6) (.ints .i64 (l7)))]).bind fun r1 =>
 some [(.bool (decide (D.toInt (nth r1 0) = x0)))]) := by kernel_rfl
theorem qeh (k n : Nat) (fu : List (Nat × Nat)) (x0 x1 : Int) (x2 x3 z4 : Bool) (l5 : List Int) (z6 : Bool) (l7 : List (List RC)) : lp k laws_FnEnvelopes [] fu 4200003 (n + 1) (qgt x0 x1 x2 x3 z4 l5 z6 l7) =
 cond (decide (x1 < nI (List.length l5)))
 (cond (decide (x1 < (4000 : Int)))
 (cond (decide ((0 : Int) ≤ x1) && decide (x1 < nI (List.length l5)))
 (lp k laws_FnEnvelopes [] fu 4200003 n (qgt (bitN BinOp.and .i64 (IntKind.wrap .i64 (IntKind.wrap .i64 (IntKind.wrap .i64 (x0 * (131 : Int)) + IntKind.wrap .i64 (List.getD l5 (Int.toNat x1) (0 : Int))) + (7 : Int))) (1073741823 : Int)) (IntKind.wrap .i64 (x1 + (1 : Int))) x2 x3 z4 l5 z6 l7))
 (none))
 ((go k spec_l07State [(.ptr true [(.arr false (z4) (.ints IntKind.u8 (l5))), (.int .i64 (0 : Int)), (.int .i64 (x0))])]).bind fun r0 =>
 lp k laws_FnEnvelopes [] fu 1000005 k (qgp (0 : Int) x2 x3 z4 l5 (D.toInt (D.cell 1 (nth r0 1))) (D.toInt (D.cell 2 (nth r0 1))) (D.nil (D.cell 1 (nth r0 0))) (D.r3 (D.cell 1 (nth r0 0))) (D.nil (D.cell 2 (nth r0 0))) (D.ints (D.cell 2 (nth r0 0))) (D.nil (D.cell 3 (nth r0 0))) (D.ints (D.cell 3 (nth r0 0))) (D.nil (D.cell 4 (nth r0 0))) (D.ints (D.cell 4 (nth r0 0))) (D.toInt (D.cell 0 (nth r0 0))) false ([[RC.n (D.toInt (D.cell 0 (nth r0 0))), RC.r3 (D.nil (D.cell 1 (nth r0 0))) (D.r3 (D.cell 1 (nth r0 0))), RC.is (D.nil (D.cell 2 (nth r0 0))) (D.ints (D.cell 2 (nth r0 0))), RC.is (D.nil (D.cell 3 (nth r0 0))) (D.ints (D.cell 3 (nth r0 0))), RC.is (D.nil (D.cell 4 (nth r0 0))) (D.ints (D.cell 4 (nth r0 0)))]]))))
 ((go k spec_l07State [(.ptr true [(.arr false (z4) (.ints IntKind.u8 (l5))), (.int .i64 (0 : Int)), (.int .i64 (x0))])]).bind fun r1 =>
 lp k laws_FnEnvelopes [] fu 1000005 k (qgp (0 : Int) x2 x3 z4 l5 (D.toInt (D.cell 1 (nth r1 1))) (D.toInt (D.cell 2 (nth r1 1))) (D.nil (D.cell 1 (nth r1 0))) (D.r3 (D.cell 1 (nth r1 0))) (D.nil (D.cell 2 (nth r1 0))) (D.ints (D.cell 2 (nth r1 0))) (D.nil (D.cell 3 (nth r1 0))) (D.ints (D.cell 3 (nth r1 0))) (D.nil (D.cell 4 (nth r1 0))) (D.ints (D.cell 4 (nth r1 0))) (D.toInt (D.cell 0 (nth r1 0))) false ([[RC.n (D.toInt (D.cell 0 (nth r1 0))), RC.r3 (D.nil (D.cell 1 (nth r1 0))) (D.r3 (D.cell 1 (nth r1 0))), RC.is (D.nil (D.cell 2 (nth r1 0))) (D.ints (D.cell 2 (nth r1 0))), RC.is (D.nil (D.cell 3 (nth r1 0))) (D.ints (D.cell 3 (nth r1 0))), RC.is (D.nil (D.cell 4 (nth r1 0))) (D.ints (D.cell 4 (nth r1 0)))]]))) := by kernel_rfl
theorem qei (k n : Nat) (fu : List (Nat × Nat)) (x0 x1 : Int) (z2 : Bool) (l3 : List (List RC)) (z4 : Bool) (l5 : List Int) (z6 : Bool) (l7 : List Int) : lp k laws_FnEnvelopes [] fu 9 (n + 1) (qgu x0 x1 z2 l3 z4 l5 z6 l7) =
 cond (decide (x1 < nI (List.length l5)))
 (lp k laws_FnEnvelopes [] ((9, n) :: fu) 14 k (qgr x0 x1 false false (0 : Int) z2 l3 z4 l5 z6 l7))
 (lp k laws_FnEnvelopes [] fu 22 k (qgs x0 (0 : Int) z2 l3 z4 l5 z6 l7)) := by kernel_rfl

end Go.Proofs.Ytcaapedadpnjoaa
end
section
namespace Go.Proofs.Ytcaapedadpnjoaa
open Go.Ev
set_option maxRecDepth 20000
theorem qa6 (k : Nat) (hk : 2000000 ≤ k) (z : Bool) (l : List Int) : go (k + 1) laws_big [.arr false z (.ints .u8 l)] = some [.bool (decide (1048576 < (l.length : Int)))] := by
  rw [qcv]
structure More (m m' : List Int) (j : Nat) : Prop where
  len : m'.length = m.length
  lo : ∀ q, q < m.length → m.getD q 0 ≤ m'.getD q 0 ∧ m'.getD q 0 ≤ m.getD q 0 + 49
theorem More.refl (m : List Int) : More m m 0 := ⟨rfl, fun q hq => by omega⟩
theorem qfl : ∀ (m m' t : List Int), m'.length = m.length → t.length = m.length → (∀ q, q < m.length → m.getD q 0 ≤ m'.getD q 0 ∧ m'.getD q 0 ≤ m.getD q 0 + 49) → (∀ x ∈ m, x ≤ 9999900) → qfi m t = true → qfi m' t = true
  | [], [], t, _, _, _, _, h => h
  | [], _ :: _, t, h, _, _, _, _ => by simp at h
  | x :: m, [], t, h, _, _, _, _ => by simp at h
  | x :: m, y :: m', [], _, h, _, _, _ => by simp at h
  | x :: m, y :: m', u :: t, h1, h2, h3, h4, h => by
    have h0 := h3 0 (by simp)
    simp only [List.getD_cons_zero] at h0
    have hx := h4 x (by simp)
    simp only [qfi, Bool.and_eq_true, qdy] at h ⊢
    refine ⟨by omega, by omega, qfl m m' t (by simpa using h1) (by simpa using h2) (fun q hq => ?_) (fun z hz => h4 z (by simp [hz])) h.2.2⟩
    have := h3 (q + 1) (by simpa using hq)
    simpa using this
theorem qd3 : ∀ (m m' : List Int), m'.length = m.length → (∀ q, q < m.length → m'.getD q 0 ≤ m.getD q 0 + 49) → isum m' ≤ isum m + 49 * m.length
  | [], [], _, _ => by simp [isum]
  | [], _ :: _, h, _ => by simp at h
  | x :: m, [], h, _ => by simp at h
  | x :: m, y :: m', h1, h2 => by
    have a := qd3 m m' (by simpa using h1) (fun q hq => by have := h2 (q + 1) (by simpa using hq); simpa using this)
    have b := h2 0 (by simp)
    simp only [List.getD_cons_zero] at b
    simp only [isum, List.length_cons]
    omega
theorem qd4 {m : List Int} (h : ∀ x ∈ m, 0 ≤ x) : 0 ≤ isum m := by
  induction m with
  | nil => exact Int.le_refl _
  | cons x m ih =>
    have := ih fun y hy => h y (by simp [hy])
    have := h x (by simp)
    simp only [isum]; omega
theorem qdm : ∀ (m : List Int), (∀ x ∈ m, 0 ≤ x) → ∀ x ∈ m, x ≤ isum m
  | [], _, x, h => by cases h
  | y :: m, h, x, hx => by
    have nn := qd4 (m := m) fun z hz => h z (by simp [hz])
    have ny := h y (by simp)
    simp only [isum]
    rcases List.mem_cons.1 hx with rfl | hx
    · omega
    · have := qdm m (fun z hz => h z (by simp [hz])) x hx
      omega
theorem qfu {r : Int} {c : List Cell} {m m' t b : List Int} {j : Nat} (F : StF r c m t b) (M : More m m' j) (hs : isum m ≤ 2560000) : StF r c m' t b := by
  have ml := F.ml; have tl := F.tl; have cl := F.len
  have mm := (qfk m t (by omega) F.mt).1
  have le := qdm m fun x hx => (mm x hx).1
  have s := qd3 m m' M.len fun q hq => (M.lo q hq).2
  exact ⟨F.mesh, F.bal, by rw [M.len]; exact ml, tl, F.bl, qfl m m' t M.len (by omega) M.lo (fun x hx => by have := le x hx; omega) F.mt, F.bed, by omega⟩
end Go.Proofs.Ytcaapedadpnjoaa
end
section
namespace Go.Proofs.Ytcaapedadpnjoaa
open Go.Ev
set_option maxRecDepth 20000
theorem qdw : ∀ (m lo hi : List Int), lo.length = m.length → hi.length = m.length → (∀ q, q < m.length → lo.getD q 0 ≤ m.getD q 0 ∧ m.getD q 0 ≤ hi.getD q 0) → qdv m lo hi = true
  | [], [], [], _, _, _ => rfl
  | [], _ :: _, _, h, _, _ => by simp at h
  | [], [], _ :: _, _, h, _ => by simp at h
  | x :: m, [], _, h, _, _ => by simp at h
  | x :: m, _ :: _, [], _, h, _ => by simp at h
  | x :: m, l :: lo, u :: hi, h1, h2, h3 => by
    have h0 := h3 0 (by simp)
    simp only [List.getD_cons_zero] at h0
    unfold qdv
    rw [qdy.2 h0, qdw m lo hi (by simpa using h1) (by simpa using h2) fun q hq => by have := h3 (q + 1) (by simpa using hq); simpa using this]
    rfl
def spf (lo up : List Int) (q : Nat) : Int := up.getD q 0 - lo.getD q 0
structure Bds (n : Nat) (lo up : List Int) : Prop where
  l1 : lo.length = n
  l2 : up.length = n
  n1 : n ≤ 128
  b : ∀ q, q < n → 0 ≤ lo.getD q 0 ∧ lo.getD q 0 ≤ up.getD q 0 ∧ up.getD q 0 ≤ 10000000
theorem qg8 {n : Nat} {lo up : List Int} (B : Bds n lo up) : ∀ q, q ≤ n → 0 ≤ qhg (spf lo up) q ∧ qhg (spf lo up) q ≤ 10000000 * q
  | 0, h => by simp [qhg]
  | q + 1, h => by
    have a := qg8 B q (by omega)
    have b := B.b q (by omega)
    simp only [qhg, spf] at a ⊢; omega
theorem qe7 (k : Nat) (hk : 2000000 ≤ k) (fu : List (Nat × Nat)) (z1 z2 : Bool) (n : Nat) (lo up : List Int) (B : Bds n lo up) : ∀ (N j : Nat), j ≤ n → n - j < N →
    lp k impl_SpreadOf [] fu 5 (N) (qgm (qhg (spf lo up) j) (n : Int) (j : Int) z1 up z2 lo) = some [.int .i64 (qhg (spf lo up) n)]
  | 0, j, hj, hN => by omega
  | N + 1, j, hj, hN => by
    rw [qea]
    have l1 := B.l1; have l2 := B.l2; have n1 := B.n1
    by_cases g : j < n
    · have IH := qe7 k hk fu z1 z2 n lo up B N (j + 1) (by omega) (by omega)
      have s := qg8 B j hj
      have b := B.b j g
      rw [show qhg (spf lo up) (j + 1) = qhg (spf lo up) j + (up.getD j 0 - lo.getD j 0) from rfl] at IH
      simp (disch := omega) only [dT, nI, Bool.and_true, Int.toNat_natCast, dF, qhs, qbt, IH, qb4, qb3]
    · have : j = n := by omega
      subst this
      simp (disch := omega) only [dF, dT, nI, Bool.and_false, Int.toNat_natCast, qbt, qhs, qb3]
theorem qat (k : Nat) (hk : 2000000 ≤ k) (z1 z2 : Bool) (n : Nat) (lo up : List Int) (B : Bds n lo up) : go (k + 1) impl_SpreadOf [.arr false z1 (.ints .i64 lo), .arr false z2 (.ints .i64 up)] = some [.int .i64 (qhg (spf lo up) n)] := by
  rw [qci]
  have l1 := B.l1
  subst l1
  have l2 := B.l2; have n1 := B.n1
  have e := qe7 k hk [] z2 z1 lo.length lo up B (k + 0) 0 (by omega) (by omega)
  rw [show ((0 : Nat) : Int) = 0 from rfl, show qhg (spf lo up) 0 = 0 from rfl] at e
  simp only [Nat.add_zero] at e
  simp (disch := omega) only [nI, dT, Bool.not_true, dF, qb3]
  exact e
theorem qaf {r : Int} {c : List Cell} {t b : List Int} {L : List (List Int)} (E : Ens r c t b L) {lo up : List Int} (V : Env c.length L L.length lo up) : Bds c.length lo up := by
  have cl := (E.at E.ne).len
  refine ⟨V.l1, V.l2, by omega, fun q hq => ?_⟩
  obtain ⟨j, hj, e⟩ := V.hit q hq
  obtain ⟨j', hj', e'⟩ := V.top q hq
  have F := E.at hj; have F' := E.at hj'
  have ml := F.ml; have ml' := F'.ml; have tl := F.tl
  have m1 := (qfk _ _ (by rw [ml, tl]) F.mt).1 _ (qds (l := L.getD j []) (i := q) (by omega) 0)
  have m2 := (qfk _ _ (by rw [ml', tl]) F'.mt).1 _ (qds (l := L.getD j' []) (i := q) (by omega) 0)
  have w := V.btw q hq j hj
  omega
theorem qdq {r : Int} {c : List Cell} {t b : List Int} {L : List (List Int)} (E : Ens r c t b L) {lo up : List Int} (V : Env c.length L L.length lo up) {j : Nat} (hj : j < L.length) : qdx r c (L.getD j []) t b lo up = true := by
  have F := E.at hj
  have ml := F.ml; have l1 := V.l1; have l2 := V.l2
  unfold qdx
  rw [stF.2 F, dT (by omega : lo.length = (L.getD j []).length), dT (by omega : up.length = (L.getD j []).length), qdw _ _ _ (by omega) (by omega) fun q hq => V.btw q (by omega) j hj]
  rfl
theorem qez (k : Nat) (hk : 2000000 ≤ k) (fu : List (Nat × Nat)) (r : Int) (c : List Cell) (t b : List Int) (L : List (List Int)) (E : Ens r c t b L) (z zl zh : Bool) (lo up : List Int) (V : Env c.length L L.length lo up) : ∀ (N j : Nat), j ≤ L.length → L.length - j < N →
    lp (k + 12) laws_FnEnvelopes [] fu 22 (N) (qgs (qhg (spf lo up) c.length) (j : Int) z (qgd r c t b L) zl lo zh up) = some [.bool true]
  | 0, j, hj, hN => by omega
  | N + 1, j, hj, hN => by
    rw [qeg]
    have ln := qgf r c t b L
    have ll := E.le
    by_cases g : j < L.length
    · have IH := qez k hk fu r c t b L E z zl zh lo up V N (j + 1) (by omega) (by omega)
      have F := E.at g
      have cl := F.len; have bl := F.bl; have rr := F.rr
      have ra := qgg (r := r) (c := c) (t := t) (b := b) g
      have eI := qap (k + 3) (by omega) r false c false (L.getD j []) false t false b zl lo zh up (by omega) (by omega)
      rw [qdq E V g] at eI
      simp (disch := omega) only [nI, ln, dT, Bool.and_true, Int.toNat_natCast, ra, rcS0, qf7, rcS1, qf5, qf8, rcS2, qf6, qf4, rcS3, rcS4, eI, bit, qbt, qhs, IH, qai, nth0, qhj, Bool.not_true, qb3, qb4]
    · have eS := qat (k + 11) (by omega) zl zh c.length lo up (qaf E V)
      simp (disch := omega) only [nI, ln, dF, dT, Bool.and_false, Int.toNat_natCast, bit, qbt, qhs, qb3, eS, qai, nth0, qhk, dTT]
theorem qey (k : Nat) (hk : 2000000 ≤ k) (fu : List (Nat × Nat)) (r : Int) (c : List Cell) (t b : List Int) (L : List (List Int)) (E : Ens r c t b L) (z zl zh : Bool) (lo up : List Int) (B : Bds c.length lo up) (s : Int) (q : Nat) (hq : q < c.length) (h0 : 0 ≤ s) (h1 : s ≤ 10000000 * q) : ∀ (N j : Nat) (hit top : Bool), j ≤ L.length → L.length - j < N →
    (hit = true ∨ ∃ j', j ≤ j' ∧ j' < L.length ∧ (L.getD j' []).getD q 0 = lo.getD q 0) → (top = true ∨ ∃ j', j ≤ j' ∧ j' < L.length ∧ (L.getD j' []).getD q 0 = up.getD q 0) →
    lp (k + 12) laws_FnEnvelopes [] fu 14 (N) (qgr s (q : Int) hit top (j : Int) z (qgd r c t b L) zl lo zh up) = lp (k + 12) laws_FnEnvelopes [] fu 9 (fuelOf fu 9) (qgu (s + (up.getD q 0 - lo.getD q 0)) ((q + 1 : Nat) : Int) z (qgd r c t b L) zl lo zh up)
  | 0, j, hit, top, hj, hN, a1, a2 => by omega
  | N + 1, j, hit, top, hj, hN, a1, a2 => by
    rw [qef]
    have ln := qgf r c t b L
    have ll := E.le
    have l1 := B.l1; have l2 := B.l2; have n1 := B.n1; have bb := B.b q hq
    by_cases g : j < L.length
    · have F := E.at g
      have ml := F.ml
      have ra := qgg (r := r) (c := c) (t := t) (b := b) g
      have a1' : hit = true ∨ decide ((L.getD j []).getD q 0 = lo.getD q 0) = true ∨ ∃ j', j + 1 ≤ j' ∧ j' < L.length ∧ (L.getD j' []).getD q 0 = lo.getD q 0 := by
        rcases a1 with h | ⟨j', p1, p2, p3⟩
        · exact .inl h
        · by_cases e : j' = j
          · subst e; exact .inr (.inl (decide_eq_true p3))
          · exact .inr (.inr ⟨j', by omega, p2, p3⟩)
      have a2' : top = true ∨ decide ((L.getD j []).getD q 0 = up.getD q 0) = true ∨ ∃ j', j + 1 ≤ j' ∧ j' < L.length ∧ (L.getD j' []).getD q 0 = up.getD q 0 := by
        rcases a2 with h | ⟨j', p1, p2, p3⟩
        · exact .inl h
        · by_cases e : j' = j
          · subst e; exact .inr (.inl (decide_eq_true p3))
          · exact .inr (.inr ⟨j', by omega, p2, p3⟩)
      have IH := qey k hk fu r c t b L E z zl zh lo up B s q hq h0 h1 N (j + 1)
      cases hit <;> cases top
      · have e := IH (decide ((L.getD j []).getD q 0 = lo.getD q 0)) (decide ((L.getD j []).getD q 0 = up.getD q 0)) (by omega) (by omega) (a1'.resolve_left (by decide)) (a2'.resolve_left (by decide))
        simp (disch := omega) only [nI, ln, dT, qbt, qhs, Bool.and_true, Int.toNat_natCast, ra, rcS2, qf4, qb4, qb3, Bool.not_false]
        exact e
      · have e := IH (decide ((L.getD j []).getD q 0 = lo.getD q 0)) true (by omega) (by omega) (a1'.resolve_left (by decide)) (.inl rfl)
        simp (disch := omega) only [nI, ln, dT, qbt, qhs, Bool.and_true, Int.toNat_natCast, ra, rcS2, qf4, qb4, qb3, Bool.not_false, Bool.not_true]
        exact e
      · have e := IH true (decide ((L.getD j []).getD q 0 = up.getD q 0)) (by omega) (by omega) (.inl rfl) (a2'.resolve_left (by decide))
        simp (disch := omega) only [nI, ln, dT, qbt, qhs, Bool.and_true, Int.toNat_natCast, ra, rcS2, qf4, qb4, qb3, Bool.not_true, Bool.not_false]
        exact e
      · have e := IH true true (by omega) (by omega) (.inl rfl) (.inl rfl)
        simp (disch := omega) only [nI, ln, dT, qbt, qhs, Bool.and_true, Int.toNat_natCast, ra, rcS2, qf4, qb4, Bool.not_true, qb3]
        exact e
    · have h1 : hit = true := a1.resolve_right fun ⟨j', p1, p2, _⟩ => by omega
      have h2 : top = true := a2.resolve_right fun ⟨j', p1, p2, _⟩ => by omega
      subst h1; subst h2
      have es : s + up.getD q 0 - lo.getD q 0 = s + (up.getD q 0 - lo.getD q 0) := by omega
      simp (disch := omega) only [nI, ln, dF, qbt, qhs, dT, Bool.and_false, Int.toNat_natCast, Bool.true_and, Bool.and_true, qb4, qb3, Bool.not_true, es]
theorem qe0 (k : Nat) (hk : 2000000 ≤ k) (r : Int) (c : List Cell) (t b : List Int) (L : List (List Int)) (E : Ens r c t b L) (z zl zh : Bool) (lo up : List Int) (V : Env c.length L L.length lo up) : ∀ (N : Nat) (fu : List (Nat × Nat)) (q : Nat), q ≤ c.length → c.length - q < N →
    lp (k + 12) laws_FnEnvelopes [] fu 9 (N) (qgu (qhg (spf lo up) q) (q : Int) z (qgd r c t b L) zl lo zh up) = some [.bool true]
  | 0, fu, q, hq, hN => by omega
  | N + 1, fu, q, hq, hN => by
    rw [qei]
    have B := qaf E V
    have l1 := B.l1; have l2 := B.l2; have n1 := B.n1; have ll := E.le
    have sp := qg8 B q hq
    by_cases g : q < c.length
    · have e := qey k hk ((9, N) :: fu) r c t b L E z zl zh lo up B (qhg (spf lo up) q) q g sp.1 sp.2 (k + 12) 0 false false (by omega) (by omega)
        (.inr (by obtain ⟨j, h1, h2⟩ := V.hit q g; exact ⟨j, Nat.zero_le _, h1, h2⟩)) (.inr (by obtain ⟨j, h1, h2⟩ := V.top q g; exact ⟨j, Nat.zero_le _, h1, h2⟩))
      have IH := qe0 k hk r c t b L E z zl zh lo up V N ((9, N) :: fu) (q + 1) (by omega) (by omega)
      rw [show qhg (spf lo up) (q + 1) = qhg (spf lo up) q + (up.getD q 0 - lo.getD q 0) from rfl] at IH
      rw [qdr, show ((0 : Nat) : Int) = 0 from rfl] at e
      simp (disch := omega) only [nI, dT, e, IH, qb4]
    · have : q = c.length := by omega
      subst this
      have e := qez k hk fu r c t b L E z zl zh lo up V (k + 12) 0 (by omega) (by omega)
      rw [show ((0 : Nat) : Int) = 0 from rfl] at e
      simp (disch := omega) only [nI, dF, e, qb3]
theorem rmE (r : Int) (c : List Cell) (t b : List Int) (L : List (List Int)) (h : L.length ≤ 100) (y : List RC) : decide ((qgd r c t b L).length + [y].length ≤ rowMax) = true := by
  rw [qgf]; exact decide_eq_true (by show L.length + 1 ≤ 1048576; omega)
theorem qgc (r : Int) (c : List Cell) (m t b : List Int) : [RC.n r, RC.r3 false c, RC.is false m, RC.is false t, RC.is false b] = rowS r c m t b := Eq.trans rfl rfl
theorem qe1 (k : Nat) (hk : 2000000 ≤ k) (fu : List (Nat × Nat)) (x2 x3 : Bool) (z : Bool) (l : List Int) (hl : (l.length : Int) ≤ 1048576) (r : Int) (c : List Cell) (m t b : List Int) (F : StF r c m t b) (hs : isum m ≤ 2560000) (L : List (List Int)) (hL : L.length ≤ 100) (p : Nat) (hp : p ≤ 100) : ∀ (N j : Nat) (m' : List Int) (i h : Int), j ≤ m.length → m.length - j < N → 0 ≤ i → i ≤ l.length → More m m' 0 → (∀ q, j ≤ q → m'.getD q 0 = m.getD q 0) →
    ∃ (m'' : List Int) (i' h' : Int), lp (k + 12) laws_FnEnvelopes [] fu 1000009 (N) (qgq (p : Int) (j : Int) x2 x3 z l i h false c false m false t false b r false (qgd r c t b L) false c false m' false t false b r) = lp (k + 12) laws_FnEnvelopes [] fu 1000005 (fuelOf fu 5) (qgp ((p + 1 : Nat) : Int) x2 x3 z l i' h' false c false m false t false b r false (qgd r c t b (L ++ [m'']))) ∧ (0 ≤ i' ∧ i' ≤ l.length) ∧ More m m'' 0
  | 0, j, m', i, h, hj, hN, h0, h1, M, A => by omega
  | N + 1, j, m', i, h, hj, hN, h0, h1, M, A => by
    have e := qee (k + 12) N fu (p : Int) (j : Int) x2 x3 z l i h false c false m false t false b r false (qgd r c t b L) false c false m' false t false b r
    have ml := M.len
    have cl := F.len; have fm := F.ml
    by_cases g : j < m.length
    · obtain ⟨u, i1, k1, e1, b1, q1, r1⟩ := qbf (k + 10) (by omega) z l i h 50 hl h0 h1 (by omega) (by omega)
      have a := A j (Nat.le_refl _)
      have mm := qfj m t (by rw [F.ml, F.tl]) F.mt j
      obtain ⟨m'', i2, k2, e2, p2⟩ := qe1 k hk fu x2 x3 z l hl r c m t b F hs L hL p hp N (j + 1) (m'.set j (m'.getD j 0 + u)) i1 k1 (by omega) (by omega) q1 r1
        ⟨by rw [List.length_set]; exact M.len, fun q hq => by
          rw [qg7]
          by_cases h' : q = j
          · subst h'; rw [if_pos (by omega)]; omega
          · rw [if_neg (by omega)]; exact M.lo q hq⟩ (fun q hq => by rw [qg7, if_neg (by omega)]; exact A q (by omega))
      simp (disch := omega) only [nI, dT, Bool.and_true, e1, qbt, qhs, Int.toNat_natCast, qb4, qai, nth1, qf1, qhk, qf2, nth0, e2, Bool.false_and] at e
      exact ⟨m'', i2, k2, e, p2⟩
    · simp (disch := omega) only [nI, dF, dT, Bool.and_false, qbt, qhs, Int.toNat_natCast, qb3, qgc, rmE r c t b L hL, qge, Bool.false_and, qb4] at e
      exact ⟨m', i, h, e, ⟨h0, h1⟩, M⟩
theorem qe3 (k : Nat) (hk : 2000000 ≤ k) (x2 x3 : Bool) (z : Bool) (l : List Int) (hl : (l.length : Int) ≤ 1048576) (r : Int) (c : List Cell) (m t b : List Int) (F : StF r c m t b) (hs : isum m ≤ 2560000) : ∀ (N p : Nat) (fu : List (Nat × Nat)) (L : List (List Int)) (i h : Int), L.length = p + 1 → p ≤ 3 → 4 - p < N → 0 ≤ i → i ≤ l.length → Ens r c t b L →
    lp (k + 12) laws_FnEnvelopes [] fu 1000005 (N) (qgp (p : Int) x2 x3 z l i h false c false m false t false b r false (qgd r c t b L)) = some [.bool true]
  | 0, p, fu, L, i, h, hp, hp3, hN, h0, h1, E => by omega
  | N + 1, p, fu, L, i, h, hp, hp3, hN, h0, h1, E => by
    have e := qed (k + 12) N fu (p : Int) x2 x3 z l i h false c false m false t false b r false (qgd r c t b L)
    have fm := F.ml; have ft := F.tl; have cl := F.len; have bl := F.bl; have rr := F.rr
    have ln := qgf r c t b L
    obtain ⟨u, i1, k1, e1, b1, q1, r1⟩ := qbf (k + 10) (by omega) z l i h 3 hl h0 h1 (by omega) (by omega)
    by_cases g : (p : Int) < 1 + u
    · obtain ⟨m'', i2, k2, e2, q2, M⟩ := qe1 k hk ((5, N) :: fu) x2 x3 z l hl r c m t b F hs L (by omega) p (by omega) (k + 12) 0 m i1 k1 (by omega) (by omega) q1 r1 (More.refl m) (fun q _ => rfl)
      have IH := qe3 k hk x2 x3 z l hl r c m t b F hs N (p + 1) ((5, N) :: fu) (L ++ [m'']) i2 k2 (by rw [List.length_append, hp]; rfl) (by omega) (by omega) q2.1 q2.2 ⟨by simp, by rw [List.length_append, hp]; show p + 1 + 1 ≤ 100; omega, fun x hx => by
        rcases List.mem_append.1 hx with hx | hx
        · exact E.ok x hx
        · rw [List.mem_singleton.1 hx]; exact qfu F M hs⟩
      rw [qdr, show ((0 : Nat) : Int) = 0 from rfl] at e2
      simp (disch := omega) only [e1, qbr, qai, nth0, qbv, qfw, qf3, qbw, qdz, qbx, qby, qbu, qhk, bit, dT, nI, Bool.and_true, qb4, qhs, nth1, qf1, qf2, e2, IH] at e
      exact e
    · obtain ⟨lo, up, e2, V⟩ := qan k (by omega) r c t b L E false
      have e3 := qe0 k hk r c t b L E false false false lo up V (k + 12) fu 0 (by omega) (by omega)
      have r0 : rrow (qgd r c t b L) (Int.toNat 0) = rowS r c (L.getD 0 []) t b := qgg E.ne
      have F0 := E.at E.ne
      have l0 := F0.ml; have l1 := V.l1; have l2 := V.l2
      rw [show ((0 : Nat) : Int) = 0 from rfl, show qhg (spf lo up) 0 = 0 from rfl] at e3
      simp (disch := omega) only [e1, e2, bit, dT, nI, ln, Bool.and_true, r0, rcS2, qf4, qb4, qai, nth2, qhj, Bool.not_true, nth0, qdz, nth1, qfw, e3, qb3, qhk, qhs, dF, qf1, qf2] at e
      exact e
theorem qe2 (k : Nat) (hk : 2000000 ≤ k) (fu : List (Nat × Nat)) (x2 x3 : Bool) (z : Bool) (l : List Int) (hl : (l.length : Int) ≤ 1048576) (z6 : Bool) (l7 : List (List RC)) : ∀ (N j : Nat) (h : Int), j ≤ l.length → l.length - j < N →
    lp (k + 12) laws_FnEnvelopes [] fu 4200003 (N) (qgt h (j : Int) x2 x3 z l z6 l7) = some [.bool true]
  | 0, j, h, hj, hN => by omega
  | N + 1, j, h, hj, hN => by
    have e := qeh (k + 12) N fu h (j : Int) x2 x3 z l z6 l7
    obtain ⟨r, c, m, t, b, i1, h1, e1, p1, S1, r3⟩ := qbs (k + 1) (by omega) z l 0 h hl (by omega) (by omega)
    have eO := qe3 k hk x2 x3 z l hl r c m t b S1 r3.2 (k + 12) 0 fu [m] i1 h1 rfl (by omega) (by omega) p1.1 p1.2 ⟨by simp, by simp, fun x hx => by rw [List.mem_singleton.1 hx]; exact S1⟩
    rw [show ((0 : Nat) : Int) = 0 from rfl, show qgd r c t b [m] = [rowS r c m t b] from rfl] at eO
    by_cases g : j < l.length
    · by_cases g2 : (j : Int) < 4000
      · simp (disch := omega) only [nI, dT, Bool.and_true, Int.toNat_natCast, qbt, qhs, qb4] at e
        exact e.trans (qe2 k hk fu x2 x3 z l hl z6 l7 N (j + 1) _ (by omega) (by omega))
      · simp (disch := omega) only [nI, dT, dF, Bool.and_true, Int.toNat_natCast, qbt, qhs, qb4, e1, qai, nth1, qf1, qhk, qf2, nth0, qbv, qfw, qf3, qbw, qdz, qbx, qby, qbu, qgc, eO, qb3] at e
        exact e
    · simp (disch := omega) only [nI, dF, dT, Bool.and_false, Int.toNat_natCast, qbt, qhs, qb3, e1, qai, nth1, qf1, qhk, qf2, nth0, qbv, qfw, qf3, qbw, qdz, qbx, qby, qbu, qgc, eO] at e
      exact e
theorem law_FnEnvelopes (k : Nat) (hk : 2000000 ≤ k) (az : Bool) (a : List Int) : go (k + 13) laws_FnEnvelopes [(.arr false (az) (.ints IntKind.u8 (a)))] = some [.bool true] := by
  by_cases h : 1048576 < (a.length : Int)
  · rw [qcu]; simp (disch := omega) only [qa6, dT, bit, nI, qai, nth0, qhj, qb4]
  have h : (a.length : Int) ≤ 1048576 := by omega
  have e := qe2 k hk [] false false az a h true [] (k + 12) 0 (98231 + (a.length : Int)) (by omega) (by omega)
  rw [show ((0 : Nat) : Int) = 0 from rfl] at e
  rw [qcu]
  simp (disch := omega) only [qa6, dF, bit, nI, qhs, qai, nth0, qhj, qb3]
  exact e
end Go.Proofs.Ytcaapedadpnjoaa
end
