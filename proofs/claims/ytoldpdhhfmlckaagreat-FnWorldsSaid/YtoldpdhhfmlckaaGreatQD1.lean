/- What the program's functions compute, and plain facts of it (part 1). No condition beyond those that each theorem states. -/
import Derived.Test.YtoldpdhhfmlckaaGreatXA
import Derived.ProofKit
import Derived.Test.YtoldpdhhfmlckaaGreatRB
import Derived.Test.YtoldpdhhfmlckaaGreatProg
import Derived.WalkKit
import Derived.KernelRfl
import Derived.Deep.QuietTactic
import Derived.BigQuiet
set_option linter.unusedVariables false
set_option linter.unusedSimpArgs false
section
namespace Go.Proofs.YtoldpdhhfmlckaaGreat
open Go.Ev
theorem q0l {x : Int} (h : -9223372036854775808 ≤ x) (h' : x ≤ 9223372036854775807) : IntKind.wrap .i64 x = x := by rw [IntKind.wrap_i64]; omega
theorem q0m {x : Int} (h : 0 ≤ x) (h' : x ≤ 9223372036854775807) : IntKind.wrap .u64 x = x := by rw [IntKind.wrap_u64]; omega
theorem nth0 (d0 : D) (l : List D) : nth (d0 :: l) 0 = d0 := Eq.trans rfl rfl
theorem nth1 (d0 d1 : D) (l : List D) : nth (d0 :: d1 :: l) 1 = d1 := Eq.trans rfl rfl
theorem qgr (d0 : D) (l : List D) : (D.agg (d0 :: l)).cell 0 = d0 := Eq.trans rfl rfl
theorem qgs (d0 d1 : D) (l : List D) : (D.agg (d0 :: d1 :: l)).cell 1 = d1 := Eq.trans rfl rfl
theorem qg3 (d0 d1 d2 : D) (l : List D) : (D.agg (d0 :: d1 :: d2 :: l)).cell 2 = d2 := Eq.trans rfl rfl
theorem qg5 (d0 d1 d2 d3 : D) (l : List D) : (D.agg (d0 :: d1 :: d2 :: d3 :: l)).cell 3 = d3 := Eq.trans rfl rfl
theorem qg6 (d0 d1 d2 d3 d4 : D) (l : List D) : (D.agg (d0 :: d1 :: d2 :: d3 :: d4 :: l)).cell 4 = d4 := Eq.trans rfl rfl
theorem qg7 (d0 d1 d2 d3 d4 d5 : D) (l : List D) : (D.agg (d0 :: d1 :: d2 :: d3 :: d4 :: d5 :: l)).cell 5 = d5 := Eq.trans rfl rfl
theorem qg8 (d0 d1 d2 d3 d4 d5 d6 : D) (l : List D) : (D.agg (d0 :: d1 :: d2 :: d3 :: d4 :: d5 :: d6 :: l)).cell 6 = d6 := Eq.trans rfl rfl
theorem qg9 (d0 d1 d2 d3 d4 d5 d6 d7 : D) (l : List D) : (D.agg (d0 :: d1 :: d2 :: d3 :: d4 :: d5 :: d6 :: d7 :: l)).cell 7 = d7 := Eq.trans rfl rfl
theorem qha (d0 d1 d2 d3 d4 d5 d6 d7 d8 : D) (l : List D) : (D.agg (d0 :: d1 :: d2 :: d3 :: d4 :: d5 :: d6 :: d7 :: d8 :: l)).cell 8 = d8 := Eq.trans rfl rfl
theorem qzu (k : IntKind) (n : Int) : (D.int k n).toInt = n := Eq.trans rfl rfl
theorem qzt (b : Bool) : (D.bool b).toBool = b := Eq.trans rfl rfl
theorem qt3 (o n : Bool) (a : Arr) : (D.arr o n a).nil = n := Eq.trans rfl rfl
theorem quv (o n : Bool) (l : List (Int × Int × Int)) : (D.arr o n (.r3 l)).r3 = l := Eq.trans rfl rfl
theorem qob (o n : Bool) (k : IntKind) (l : List Int) : (D.arr o n (.ints k l)).ints = l := Eq.trans rfl rfl
theorem qhl {α : Type} (x y : α) : cond true x y = x := Eq.trans rfl rfl
theorem qhj {α : Type} (x y : α) : cond false x y = y := Eq.trans rfl rfl
theorem qa9 {α : Type} (x : List D) (f : List D → Option α) : (some x).bind f = f x := Eq.trans rfl rfl
theorem dT {p : Prop} {i : Decidable p} (h : p) : @decide p i = true := by cases i <;> simp_all
theorem dF {p : Prop} {i : Decidable p} (h : ¬p) : @decide p i = false := by cases i <;> simp_all
theorem qgp (i : Nat) : (i : Int) + 1 = ((i + 1 : Nat) : Int) := Eq.trans rfl rfl
theorem qgq (i : Nat) : (i : Int) + 2 = ((i + 2 : Nat) : Int) := Eq.trans rfl rfl
theorem qgo {i : Nat} (h : 1 ≤ i) : (i : Int) - 1 = ((i - 1 : Nat) : Int) := by omega
theorem itT {α : Type} {i : Decidable True} (x y : α) : @ite α True i x y = x := by cases i with | isTrue _ => rfl | isFalse h => exact absurd trivial h
theorem imax (x y : Int) : (if x > y then x else y) = max x y := by by_cases h : x > y <;> simp only [h, if_true, if_false] <;> omega
theorem imin (x y : Int) : (if x < y then x else y) = min x y := by by_cases h : x < y <;> simp only [h, if_true, if_false] <;> omega
theorem qhm (b x : Bool) : cond (!b) (some [D.bool false]) (some [D.bool x]) = some [D.bool (b && x)] := by cases b <;> rfl
theorem qhn (b x : Bool) : cond b (some [D.bool x]) (some [D.bool false]) = some [D.bool (b && x)] := by cases b <;> rfl
theorem dTT {i : Decidable True} : @decide True i = true := by cases i with | isTrue _ => rfl | isFalse h => exact absurd trivial h
theorem qt2 {α : Type} (l : List α) : [] ++ l = l := Eq.trans rfl rfl
theorem big0 : bigLen = 1099511627776 := Eq.trans rfl rfl
theorem qh2 {α : Type} {l : List α} {i : Nat} (h : i < l.length) (d : α) : l.drop i = l.getD i d :: l.drop (i + 1) := by
  rw [List.drop_eq_getElem_cons h]; simp [h]
theorem qx5 {α : Type} (l : List α) (i j : Nat) (x d : α) : (l.set i x).getD j d = if i = j ∧ i < l.length then x else l.getD j d := by
  simp only [List.getD_eq_getElem?_getD, List.getElem?_set]
  by_cases h : i = j
  · subst h
    by_cases h2 : i < l.length
    · simp [h2]
    · simp [h2]
  · simp [h]
theorem qnv {α : Type} {l : List α} {i : Nat} (h : l.length ≤ i) (d : α) : l.getD i d = d := by simp [h]
theorem qnw {α : Type} {l : List α} {i : Nat} (h : i < l.length) (d : α) : l.getD i d ∈ l := by simp [h]
end Go.Proofs.YtoldpdhhfmlckaaGreat
end
section
namespace Go.Proofs.YtoldpdhhfmlckaaGreat
open Go.Ev
theorem ql5 (k : Nat) (a b c : Int) : go (k + 1) spec_l01In [(.int .i64 (a)), (.int .i64 (b)), (.int .i64 (c))] =
 cond (decide (b ≤ a))
 (some [(.bool (decide (a ≤ c)))])
 (some [(.bool (false))]) := by kernel_rfl
theorem qkl (k : Nat) (a b c : Int) : go (k + 1) impl_within [(.int .i64 (a)), (.int .i64 (b)), (.int .i64 (c))] =
 cond (decide (b ≤ a))
 (some [(.bool (decide (a ≤ c)))])
 (some [(.bool (false))]) := by kernel_rfl
theorem qke (k : Nat) (a : Int) : go (k + 1) impl_isLevel [(.int .i64 (a))] =
 (go k impl_within [(.int .i64 (a)), (.int .i64 (0 : Int)), (.int .i64 ((4 : Int)))]).bind fun r0 =>
 some [(.bool (bit (nth r0 0)))] := by kernel_rfl
theorem qle (k : Nat) (a0 a1 a2 : Int) : go (k + 1) spec_IdOk [(.agg [(.int .i64 (a0)), (.int .i64 (a1)), (.int .i64 (a2))])] =
 (go k spec_l01In [(.int .i64 (a0)), (.int .i64 (0 : Int)), (.int .i64 ((7 : Int)))]).bind fun r0 =>
 cond (bit (nth r0 0))
 ((go k spec_l01In [(.int .i64 (a1)), (.int .i64 (0 : Int)), (.int .i64 ((4 : Int)))]).bind fun r1 =>
 cond (bit (nth r1 0))
 (cond (decide ((0 : Int) ≤ a2))
 (cond (decide ((0 : Int) ≤ IntKind.wrap IntKind.u64 a1))
 (some [(.bool (decide (a2 < IntKind.wrap .i64 ((1 : Int) * (2 : Int) ^ shiftN .i64 (IntKind.wrap IntKind.u64 a1)))))])
 (none))
 (some [(.bool (false))]))
 (some [(.bool (false))]))
 (some [(.bool (false))]) := by kernel_rfl
theorem qik (k : Nat) (a0 a1 a2 : Int) : go (k + 1) impl_IdOk [(.agg [(.int .i64 (a0)), (.int .i64 (a1)), (.int .i64 (a2))])] =
 (go k impl_within [(.int .i64 (a0)), (.int .i64 (0 : Int)), (.int .i64 ((7 : Int)))]).bind fun r0 =>
 cond (bit (nth r0 0))
 ((go k impl_isLevel [(.int .i64 (a1))]).bind fun r1 =>
 cond (bit (nth r1 0))
 (cond (decide ((0 : Int) ≤ a1))
 ((go k impl_within [(.int .i64 (a2)), (.int .i64 (0 : Int)), (.int .i64 (IntKind.wrap .i64 (IntKind.wrap .i64 ((1 : Int) * (2 : Int) ^ shiftN .i64 a1) - (1 : Int))))]).bind fun r2 =>
 some [(.bool (bit (nth r2 0)))])
 (none))
 (some [(.bool (false))]))
 (some [(.bool (false))]) := by kernel_rfl
theorem ql0 (k : Nat) (a : Int) : go (k + 1) spec_WidthOf [(.int .i64 (a))] =
 (go k spec_l01In [(.int .i64 (a)), (.int .i64 (0 : Int)), (.int .i64 ((4 : Int)))]).bind fun r0 =>
 cond (!bit (nth r0 0))
 (some [(.int .i64 (0 : Int))])
 (cond (decide ((0 : Int) ≤ IntKind.wrap IntKind.u64 a))
 (some [(.int .i64 (Int.fdiv (16 : Int) ((2 : Int) ^ shiftN .i64 (IntKind.wrap IntKind.u64 a))))])
 (none)) := by kernel_rfl
theorem qj2 (k : Nat) (a : Int) : go (k + 1) impl_WidthOf [(.int .i64 (a))] =
 (go k impl_isLevel [(.int .i64 (a))]).bind fun r0 =>
 cond (!bit (nth r0 0))
 (some [(.int .i64 (0 : Int))])
 (cond (decide ((0 : Int) ≤ a))
 (some [(.int .i64 (Int.fdiv (16 : Int) ((2 : Int) ^ shiftN .i64 a)))])
 (none)) := by kernel_rfl
theorem qlx (k : Nat) (a0 a1 a2 : Int) : go (k + 1) spec_StartOf [(.agg [(.int .i64 (a0)), (.int .i64 (a1)), (.int .i64 (a2))])] =
 (go k spec_IdOk [(.agg [(.int .i64 (a0)), (.int .i64 (a1)), (.int .i64 (a2))])]).bind fun r0 =>
 cond (!bit (nth r0 0))
 (some [(.int .i64 ((-1 : Int)))])
 ((go k spec_WidthOf [(.int .i64 (a1))]).bind fun r1 =>
 some [(.int .i64 (IntKind.wrap .i64 (IntKind.wrap .i64 (a0 * (16 : Int)) + IntKind.wrap .i64 (a2 * D.toInt (nth r1 0)))))]) := by kernel_rfl
theorem qjd (k : Nat) (a0 a1 a2 : Int) : go (k + 1) impl_StartOf [(.agg [(.int .i64 (a0)), (.int .i64 (a1)), (.int .i64 (a2))])] =
 (go k impl_IdOk [(.agg [(.int .i64 (a0)), (.int .i64 (a1)), (.int .i64 (a2))])]).bind fun r0 =>
 cond (!bit (nth r0 0))
 (some [(.int .i64 ((-1 : Int)))])
 ((go k impl_WidthOf [(.int .i64 (a1))]).bind fun r1 =>
 some [(.int .i64 (IntKind.wrap .i64 (IntKind.wrap .i64 (a0 * (16 : Int)) + IntKind.wrap .i64 (a2 * D.toInt (nth r1 0)))))]) := by kernel_rfl
theorem ql8 (k : Nat) (a0 a1 a2 : Int) : go (k + 1) spec_l04End [(.agg [(.int .i64 (a0)), (.int .i64 (a1)), (.int .i64 (a2))])] =
 (go k spec_StartOf [(.agg [(.int .i64 (a0)), (.int .i64 (a1)), (.int .i64 (a2))])]).bind fun r0 =>
 (go k spec_WidthOf [(.int .i64 (a1))]).bind fun r1 =>
 some [(.int .i64 (IntKind.wrap .i64 (D.toInt (nth r0 0) + D.toInt (nth r1 0))))] := by kernel_rfl
theorem qkb (k : Nat) (a0 a1 a2 : Int) : go (k + 1) impl_endOf [(.agg [(.int .i64 (a0)), (.int .i64 (a1)), (.int .i64 (a2))])] =
 (go k impl_StartOf [(.agg [(.int .i64 (a0)), (.int .i64 (a1)), (.int .i64 (a2))])]).bind fun r0 =>
 (go k impl_WidthOf [(.int .i64 (a1))]).bind fun r1 =>
 some [(.int .i64 (IntKind.wrap .i64 (D.toInt (nth r0 0) + D.toInt (nth r1 0))))] := by kernel_rfl
def qw9 (x0 x1 : Int) (z2 : Bool) (l3 : List (Int × Int × Int)) (x4 : Int) : St := ⟨fill 45 [(1, (.ptr 1 (0) (0))), (3, (.int .i64 (x0))), (4, (.int .i64 (x1)))], [], [(.arr false (z2) (.r3 (l3))), (.box true [(.int .i64 (x4)), (.sl 0 none)])]⟩
theorem qlm (k : Nat) (a0 : Int) (a1z : Bool) (a1 : List (Int × Int × Int)) : go (k + 1) spec_MeshOk [(.agg [(.int .i64 (a0)), (.arr false (a1z) (.r3 (a1)))])] =
 lp k spec_MeshOk [] [] 3 k (qw9 (0 : Int) (0 : Int) a1z a1 a0) := by kernel_rfl
theorem qpz (k n : Nat) (fu : List (Nat × Nat)) (x0 x1 : Int) (z2 : Bool) (l3 : List (Int × Int × Int)) (x4 : Int) : lp k spec_MeshOk [] fu 3 (n + 1) (qw9 x0 x1 z2 l3 x4) =
 cond (decide (x1 < nI (List.length l3)))
 (cond (decide ((0 : Int) ≤ x1) && decide (x1 < nI (List.length l3)))
 ((go k spec_IdOk [(.agg [(.int .i64 (Prod.fst (List.getD l3 (Int.toNat x1) zz3))), (.int .i64 (Prod.fst (Prod.snd (List.getD l3 (Int.toNat x1) zz3)))), (.int .i64 (Prod.snd (Prod.snd (List.getD l3 (Int.toNat x1) zz3))))])]).bind fun r0 =>
 cond (!bit (nth r0 0))
 (some [(.bool (false))])
 (cond (decide ((0 : Int) ≤ x1) && decide (x1 < nI (List.length l3)))
 ((go k spec_StartOf [(.agg [(.int .i64 (Prod.fst (List.getD l3 (Int.toNat x1) zz3))), (.int .i64 (Prod.fst (Prod.snd (List.getD l3 (Int.toNat x1) zz3)))), (.int .i64 (Prod.snd (Prod.snd (List.getD l3 (Int.toNat x1) zz3))))])]).bind fun r1 =>
 cond (!decide (D.toInt (nth r1 0) = x0))
 (some [(.bool (false))])
 (cond (decide ((0 : Int) ≤ x1) && decide (x1 < nI (List.length l3)))
 ((go k spec_l04End [(.agg [(.int .i64 (Prod.fst (List.getD l3 (Int.toNat x1) zz3))), (.int .i64 (Prod.fst (Prod.snd (List.getD l3 (Int.toNat x1) zz3)))), (.int .i64 (Prod.snd (Prod.snd (List.getD l3 (Int.toNat x1) zz3))))])]).bind fun r2 =>
 lp k spec_MeshOk [] fu 3 n (qw9 (D.toInt (nth r2 0)) (IntKind.wrap .i64 (x1 + (1 : Int))) z2 l3 x4))
 (none)))
 (none)))
 (none))
 ((go k spec_l01In [(.int .i64 (x4)), (.int .i64 ((1 : Int))), (.int .i64 ((8 : Int)))]).bind fun r3 =>
 cond (bit (nth r3 0))
 (some [(.bool (decide (x0 = IntKind.wrap .i64 (x4 * (16 : Int)))))])
 (some [(.bool (false))])) := by kernel_rfl
def qv3 (x0 x1 x2 : Int) (z3 : Bool) (l4 : List (Int × Int × Int)) (x5 : Int) : St := ⟨fill 35 [(1, (.ptr 1 (0) (0))), (3, (.int .i64 (x0))), (7, (.sl 0 none)), (8, (.int .i64 (x1))), (9, (.int .i64 (x2)))], [], [(.arr false (z3) (.r3 (l4))), (.box true [(.int .i64 (x5)), (.sl 0 none)])]⟩
theorem qit (k : Nat) (a0 : Int) (a1z : Bool) (a1 : List (Int × Int × Int)) : go (k + 1) impl_MeshOk [(.agg [(.int .i64 (a0)), (.arr false (a1z) (.r3 (a1)))])] =
 lp k impl_MeshOk [] [] 3 k (qv3 (0 : Int) (nI (List.length a1)) (0 : Int) a1z a1 a0) := by kernel_rfl
theorem qot (k n : Nat) (fu : List (Nat × Nat)) (x0 x1 x2 : Int) (z3 : Bool) (l4 : List (Int × Int × Int)) (x5 : Int) : lp k impl_MeshOk [] fu 3 (n + 1) (qv3 x0 x1 x2 z3 l4 x5) =
 cond (decide (x2 < x1))
 (cond (decide ((0 : Int) ≤ x2) && decide (x2 < nI (List.length l4)))
 ((go k impl_IdOk [(.agg [(.int .i64 (Prod.fst (List.getD l4 (Int.toNat x2) zz3))), (.int .i64 (Prod.fst (Prod.snd (List.getD l4 (Int.toNat x2) zz3)))), (.int .i64 (Prod.snd (Prod.snd (List.getD l4 (Int.toNat x2) zz3))))])]).bind fun r0 =>
 cond (!bit (nth r0 0))
 (some [(.bool (false))])
 ((go k impl_StartOf [(.agg [(.int .i64 (Prod.fst (List.getD l4 (Int.toNat x2) zz3))), (.int .i64 (Prod.fst (Prod.snd (List.getD l4 (Int.toNat x2) zz3)))), (.int .i64 (Prod.snd (Prod.snd (List.getD l4 (Int.toNat x2) zz3))))])]).bind fun r1 =>
 cond (!decide (D.toInt (nth r1 0) = x0))
 (some [(.bool (false))])
 ((go k impl_endOf [(.agg [(.int .i64 (Prod.fst (List.getD l4 (Int.toNat x2) zz3))), (.int .i64 (Prod.fst (Prod.snd (List.getD l4 (Int.toNat x2) zz3)))), (.int .i64 (Prod.snd (Prod.snd (List.getD l4 (Int.toNat x2) zz3))))])]).bind fun r2 =>
 lp k impl_MeshOk [] fu 3 n (qv3 (D.toInt (nth r2 0)) x1 (IntKind.wrap .i64 (x2 + (1 : Int))) z3 l4 x5))))
 (none))
 ((go k impl_within [(.int .i64 (x5)), (.int .i64 ((1 : Int))), (.int .i64 ((8 : Int)))]).bind fun r3 =>
 cond (bit (nth r3 0))
 (some [(.bool (decide (x0 = IntKind.wrap .i64 (x5 * (16 : Int)))))])
 (some [(.bool (false))])) := by kernel_rfl
theorem qiw (k : Nat) (a0 : Int) (a1z : Bool) (a1 : List (Int × Int × Int)) (b : Int) : go (k + 1) impl_Mesh_faceLevel [(.agg [(.int .i64 (a0)), (.arr false (a1z) (.r3 (a1)))]), (.int .i64 (b))] =
 cond (decide ((0 : Int) ≤ b) && decide (b < nI (List.length a1)))
 (cond (decide ((0 : Int) ≤ IntKind.wrap .i64 (b + (1 : Int))) && decide (IntKind.wrap .i64 (b + (1 : Int)) < nI (List.length a1)))
 (some [(.int .i64 (if Prod.fst (Prod.snd (List.getD a1 (Int.toNat (IntKind.wrap .i64 (b + (1 : Int)))) zz3)) > Prod.fst (Prod.snd (List.getD a1 (Int.toNat b) zz3)) then Prod.fst (Prod.snd (List.getD a1 (Int.toNat (IntKind.wrap .i64 (b + (1 : Int)))) zz3)) else Prod.fst (Prod.snd (List.getD a1 (Int.toNat b) zz3))))])
 (none))
 (none) := by kernel_rfl
theorem qil (k : Nat) (a b : Int) : go (k + 1) impl_IsActive [(.int .i64 (a)), (.int .i64 (b))] =
 (go k impl_isLevel [(.int .i64 (b))]).bind fun r0 =>
 cond (bit (nth r0 0))
 (cond (decide ((0 : Int) ≤ a))
 ((go k impl_WidthOf [(.int .i64 (b))]).bind fun r1 =>
 cond (!decide (D.toInt (nth r1 0) = (0 : Int)))
 (some [(.bool (decide (Int.tmod a (D.toInt (nth r1 0)) = (0 : Int))))])
 (none))
 (some [(.bool (false))]))
 (some [(.bool (false))]) := by kernel_rfl
def qxh (x0 : Int) (z1 : Bool) (l2 : List (Int × Int × Int)) (x3 : Int) : St := ⟨fill 34 [(1, (.ptr 1 (0) (0))), (3, (.int .i64 (x0)))], [], [(.arr false (z1) (.r3 (l2))), (.box true [(.int .i64 (x3)), (.sl 0 none)])]⟩
theorem qmd (k : Nat) (a0 : Int) (a1z : Bool) (a1 : List (Int × Int × Int)) : go (k + 1) spec_l05First [(.agg [(.int .i64 (a0)), (.arr false (a1z) (.r3 (a1)))])] =
 lp k spec_l05First [] [] 2 k (qxh (0 : Int) a1z a1 a0) := by kernel_rfl
theorem qp7 (k n : Nat) (fu : List (Nat × Nat)) (x0 : Int) (z1 : Bool) (l2 : List (Int × Int × Int)) (x3 : Int) : lp k spec_l05First [] fu 2 (n + 1) (qxh x0 z1 l2 x3) =
 cond (decide (IntKind.wrap .i64 (x0 + (1 : Int)) < nI (List.length l2)))
 (cond (decide ((0 : Int) ≤ x0) && decide (x0 < nI (List.length l2)))
 (cond (decide ((0 : Int) ≤ IntKind.wrap .i64 (x0 + (1 : Int))) && decide (IntKind.wrap .i64 (x0 + (1 : Int)) < nI (List.length l2)))
 (cond (decide ((1 : Int) < IntKind.wrap .i64 (Prod.fst (Prod.snd (List.getD l2 (Int.toNat x0) zz3)) - Prod.fst (Prod.snd (List.getD l2 (Int.toNat (IntKind.wrap .i64 (x0 + (1 : Int)))) zz3)))))
 (some [(.int .i64 (x0))])
 (cond (decide (IntKind.wrap .i64 (Prod.fst (Prod.snd (List.getD l2 (Int.toNat x0) zz3)) - Prod.fst (Prod.snd (List.getD l2 (Int.toNat (IntKind.wrap .i64 (x0 + (1 : Int)))) zz3))) < (-1 : Int)))
 (some [(.int .i64 (x0))])
 (lp k spec_l05First [] fu 2 n (qxh (IntKind.wrap .i64 (x0 + (1 : Int))) z1 l2 x3))))
 (none))
 (none))
 (some [(.int .i64 ((-1 : Int)))]) := by kernel_rfl
def qv6 (x0 x1 : Int) (z2 : Bool) (l3 : List (Int × Int × Int)) (x4 : Int) : St := ⟨fill 29 [(1, (.ptr 1 (0) (0))), (7, (.int .i64 (x0))), (8, (.int .i64 (x1)))], [], [(.arr false (z2) (.r3 (l3))), (.box true [(.int .i64 (x4)), (.sl 0 none)])]⟩
theorem qi2 (k : Nat) (a0 : Int) (a1z : Bool) (a1 : List (Int × Int × Int)) : go (k + 1) impl_Mesh_unbalanced [(.agg [(.int .i64 (a0)), (.arr false (a1z) (.r3 (a1)))])] =
 lp k impl_Mesh_unbalanced [] [] 2 k (qv6 (IntKind.wrap .i64 (nI (List.length a1) - (1 : Int))) (0 : Int) a1z a1 a0) := by kernel_rfl
theorem qow (k n : Nat) (fu : List (Nat × Nat)) (x0 x1 : Int) (z2 : Bool) (l3 : List (Int × Int × Int)) (x4 : Int) : lp k impl_Mesh_unbalanced [] fu 2 (n + 1) (qv6 x0 x1 z2 l3 x4) =
 cond (decide (x1 < x0))
 (cond (decide ((0 : Int) ≤ x1) && decide (x1 < nI (List.length l3)))
 (cond (decide ((0 : Int) ≤ IntKind.wrap .i64 (x1 + (1 : Int))) && decide (IntKind.wrap .i64 (x1 + (1 : Int)) < nI (List.length l3)))
 ((go k impl_absolute [(.int .i64 (IntKind.wrap .i64 (Prod.fst (Prod.snd (List.getD l3 (Int.toNat x1) zz3)) - Prod.fst (Prod.snd (List.getD l3 (Int.toNat (IntKind.wrap .i64 (x1 + (1 : Int)))) zz3)))))]).bind fun r0 =>
 cond (decide ((1 : Int) < D.toInt (nth r0 0)))
 (some [(.int .i64 (x1))])
 (lp k impl_Mesh_unbalanced [] fu 2 n (qv6 x0 (IntKind.wrap .i64 (x1 + (1 : Int))) z2 l3 x4)))
 (none))
 (none))
 (some [(.int .i64 ((-1 : Int)))]) := by kernel_rfl
theorem qj6 (k : Nat) (a : Int) : go (k + 1) impl_absolute [(.int .i64 (a))] =
 some [(.int .i64 (if IntKind.wrap .i64 ((0 : Int) - a) > a then IntKind.wrap .i64 ((0 : Int) - a) else a))] := by kernel_rfl
theorem qlg (k : Nat) (a0 : Int) (a1z : Bool) (a1 : List (Int × Int × Int)) : go (k + 1) spec_IsBalanced [(.agg [(.int .i64 (a0)), (.arr false (a1z) (.r3 (a1)))])] =
 (go k spec_MeshOk [(.agg [(.int .i64 (a0)), (.arr false (a1z) (.r3 (a1)))])]).bind fun r0 =>
 cond (bit (nth r0 0))
 ((go k spec_l05First [(.agg [(.int .i64 (a0)), (.arr false (a1z) (.r3 (a1)))])]).bind fun r1 =>
 some [(.bool (decide (D.toInt (nth r1 0) < (0 : Int))))])
 (some [(.bool (false))]) := by kernel_rfl
theorem qim (k : Nat) (a0 : Int) (a1z : Bool) (a1 : List (Int × Int × Int)) : go (k + 1) impl_IsBalanced [(.agg [(.int .i64 (a0)), (.arr false (a1z) (.r3 (a1)))])] =
 (go k impl_MeshOk [(.agg [(.int .i64 (a0)), (.arr false (a1z) (.r3 (a1)))])]).bind fun r0 =>
 cond (bit (nth r0 0))
 ((go k impl_Mesh_unbalanced [(.agg [(.int .i64 (a0)), (.arr false (a1z) (.r3 (a1)))])]).bind fun r1 =>
 some [(.bool (decide (D.toInt (nth r1 0) < (0 : Int))))])
 (some [(.bool (false))]) := by kernel_rfl
theorem qix (k : Nat) (a0 : Int) (a1z : Bool) (a1 : List (Int × Int × Int)) (b : Int) : go (k + 1) impl_Mesh_has [(.agg [(.int .i64 (a0)), (.arr false (a1z) (.r3 (a1)))]), (.int .i64 (b))] =
 (go k impl_within [(.int .i64 (b)), (.int .i64 (0 : Int)), (.int .i64 (IntKind.wrap .i64 (nI (List.length a1) - (1 : Int))))]).bind fun r0 =>
 some [(.bool (bit (nth r0 0)))] := by kernel_rfl
end Go.Proofs.YtoldpdhhfmlckaaGreat
end
section
namespace Go.Proofs.YtoldpdhhfmlckaaGreat
open Go.Ev
def inR (a b c : Int) : Bool := decide (b ≤ a) && decide (a ≤ c)
theorem qn9 {a b c : Int} : inR a b c = true ↔ b ≤ a ∧ a ≤ c := by simp [inR]
theorem qfj (k : Nat) (hk : 2000000 ≤ k) (a : Int) (b : Int) (c : Int) : go (k + 1) spec_l01In [(.int .i64 (a)), (.int .i64 (b)), (.int .i64 (c))] = some [.bool (inR a b c)] := by
  rw [ql5]; unfold inR; cases decide (b ≤ a) <;> rfl
theorem qdy (k : Nat) (hk : 2000000 ≤ k) (a : Int) (b : Int) (c : Int) : go (k + 1) impl_within [(.int .i64 (a)), (.int .i64 (b)), (.int .i64 (c))] = some [.bool (inR a b c)] := by
  rw [qkl]; unfold inR; cases decide (b ≤ a) <;> rfl
def pow2 (l : Int) : Int := 2 ^ l.toNat
def idOk (r l i : Int) : Bool := inR r 0 7 && (inR l 0 4 && (decide (0 ≤ i) && decide (i < pow2 l)))
theorem lev {l : Int} (h : inR l 0 4 = true) : l = 0 ∨ l = 1 ∨ l = 2 ∨ l = 3 ∨ l = 4 := by
  simp only [inR, Bool.and_eq_true, decide_eq_true_eq] at h; omega
theorem p20 : pow2 0 = 1 := rfl
theorem p21 : pow2 1 = 2 := rfl
theorem p22 : pow2 2 = 4 := rfl
theorem p23 : pow2 3 = 8 := rfl
theorem p24 : pow2 4 = 16 := rfl
theorem sh0 : shiftN .i64 0 = 0 := by decide
theorem sh1 : shiftN .i64 1 = 1 := by decide
theorem sh2 : shiftN .i64 2 = 2 := by decide
theorem sh3 : shiftN .i64 3 = 3 := by decide
theorem sh4 : shiftN .i64 4 = 4 := by decide
theorem pw {l : Int} (h : inR l 0 4 = true) : IntKind.wrap .i64 ((1 : Int) * (2 : Int) ^ shiftN .i64 l) = pow2 l := by
  rcases lev h with rfl | rfl | rfl | rfl | rfl <;> simp [sh0, sh1, sh2, sh3, sh4, q0l, p20, p21, p22, p23, p24]
theorem lev0 {l : Int} (h : inR l 0 4 = true) : 0 ≤ l ∧ l ≤ 4 := by
  simp only [inR, Bool.and_eq_true, decide_eq_true_eq] at h; omega
theorem qur {l : Int} (h : inR l 0 4 = true) : 1 ≤ pow2 l ∧ pow2 l ≤ 16 := by
  rcases lev h with rfl | rfl | rfl | rfl | rfl <;> simp [p20, p21, p22, p23, p24]
theorem qeo (k : Nat) (hk : 2000000 ≤ k) (a0 : Int) (a1 : Int) (a2 : Int) : go (k + 2) spec_IdOk [(.agg [(.int .i64 (a0)), (.int .i64 (a1)), (.int .i64 (a2))])] = some [.bool (idOk a0 a1 a2)] := by
  rw [qle]
  simp (disch := omega) only [qfj, bit, qa9, nth0, qzt]
  unfold idOk
  cases h1 : inR a0 0 7 <;> cases h2 : inR a1 0 4 <;> simp only [qhl, qhj, Bool.true_and, Bool.false_and, Bool.and_false]
  have := lev0 h2
  rw [q0m (x := a1) (by omega) (by omega), pw h2]
  by_cases h3 : (0 : Int) ≤ a2
  · simp [h3, this.1]
  · simp [h3]
theorem qdc (k : Nat) (hk : 2000000 ≤ k) (a : Int) : go (k + 2) impl_isLevel [(.int .i64 (a))] = some [.bool (inR a 0 4)] := by
  rw [qke]
  simp (disch := omega) only [qdy, bit, qa9, nth0, qzt]
theorem qbz (k : Nat) (hk : 2000000 ≤ k) (a0 : Int) (a1 : Int) (a2 : Int) : go (k + 3) impl_IdOk [(.agg [(.int .i64 (a0)), (.int .i64 (a1)), (.int .i64 (a2))])] = some [.bool (idOk a0 a1 a2)] := by
  rw [qik]
  simp (disch := omega) only [qdy, bit, qdc, qa9, nth0, qzt]
  unfold idOk
  cases h1 : inR a0 0 7 <;> cases h2 : inR a1 0 4 <;> simp only [qhl, qhj, Bool.true_and, Bool.false_and, Bool.and_false]
  have := lev0 h2
  have := qur h2
  rw [pw h2, q0l (x := pow2 a1 - 1) (by omega) (by omega)]
  rw [show decide ((0 : Int) ≤ a1) = true by simp; omega, qhl]
  have e : inR a2 0 (pow2 a1 - 1) = (decide (0 ≤ a2) && decide (a2 < pow2 a1)) := by
    unfold inR; rw [Bool.eq_iff_iff]; simp only [Bool.and_eq_true, decide_eq_true_eq]; omega
  rw [e]
def q0d (l : Int) : Int := if inR l 0 4 then 16 / pow2 l else 0
theorem qe9 (k : Nat) (hk : 2000000 ≤ k) (a : Int) : go (k + 2) spec_WidthOf [(.int .i64 (a))] = some [.int .i64 (q0d a)] := by
  rw [ql0]
  simp (disch := omega) only [qfj, bit, qa9, nth0, qzt, q0d]
  cases h2 : inR a 0 4
  · simp
  · rcases lev h2 with rfl | rfl | rfl | rfl | rfl <;> simp [q0m, sh0, sh1, sh2, sh3, sh4, p20, p21, p22, p23, p24] <;> decide
theorem qcp (k : Nat) (hk : 2000000 ≤ k) (a : Int) : go (k + 3) impl_WidthOf [(.int .i64 (a))] = some [.int .i64 (q0d a)] := by
  rw [qj2]
  simp (disch := omega) only [qdc, bit, qa9, nth0, qzt, q0d]
  cases h2 : inR a 0 4
  · simp
  · rcases lev h2 with rfl | rfl | rfl | rfl | rfl <;> simp [q0m, sh0, sh1, sh2, sh3, sh4, p20, p21, p22, p23, p24] <;> decide
def qyv (r l i : Int) : Int := if idOk r l i then r * 16 + i * q0d l else -1
theorem q0f (l : Int) : 0 ≤ q0d l ∧ q0d l ≤ 16 := by
  unfold q0d
  cases h : inR l 0 4
  · simp
  · rcases lev h with rfl | rfl | rfl | rfl | rfl <;> decide
theorem qn7 {r l i : Int} (h : idOk r l i = true) : 0 ≤ r ∧ r ≤ 7 ∧ inR l 0 4 = true ∧ 0 ≤ i ∧ i < pow2 l := by
  simp only [idOk, Bool.and_eq_true, decide_eq_true_eq] at h
  obtain ⟨h1, h2, h3, h4⟩ := h
  simp only [inR, Bool.and_eq_true, decide_eq_true_eq] at h1
  exact ⟨h1.1, h1.2, h2, h3, h4⟩
theorem iw {r l i : Int} (h : idOk r l i = true) : 0 ≤ i * q0d l ∧ i * q0d l ≤ 256 := by
  obtain ⟨_, _, h2, h3, h4⟩ := qn7 h
  have h5 := (qur h2).2
  have h6 := q0f l
  have h7 : i ≤ 16 := by omega
  refine ⟨Int.mul_nonneg h3 h6.1, ?_⟩
  calc i * q0d l ≤ 16 * q0d l := Int.mul_le_mul_of_nonneg_right h7 h6.1
    _ ≤ 16 * 16 := Int.mul_le_mul_of_nonneg_left h6.2 (by omega)
theorem qyw (r l i : Int) : -1 ≤ qyv r l i ∧ qyv r l i ≤ 1000 := by
  unfold qyv
  cases h : idOk r l i
  · simp
  · have := iw h; have := qn7 h
    simp; omega
theorem qyy {r l i : Int} (h : idOk r l i = true) : IntKind.wrap .i64 (IntKind.wrap .i64 (r * (16 : Int)) + IntKind.wrap .i64 (i * q0d l)) = qyv r l i := by
  have h1 := iw h; have h2 := qn7 h
  rw [q0l (x := r * 16) (by omega) (by omega), q0l (x := i * q0d l) (by omega) (by omega), q0l (by omega) (by omega)]
  simp [qyv, h]
theorem qe6 (k : Nat) (hk : 2000000 ≤ k) (a0 : Int) (a1 : Int) (a2 : Int) : go (k + 3) spec_StartOf [(.agg [(.int .i64 (a0)), (.int .i64 (a1)), (.int .i64 (a2))])] = some [.int .i64 (qyv a0 a1 a2)] := by
  rw [qlx]
  simp (disch := omega) only [qeo, bit, qe9, qa9, nth0, qzu, qzt]
  cases h : idOk a0 a1 a2
  · simp [qyv, h]
  · rw [qyy h]; rfl
theorem qcj (k : Nat) (hk : 2000000 ≤ k) (a0 : Int) (a1 : Int) (a2 : Int) : go (k + 4) impl_StartOf [(.agg [(.int .i64 (a0)), (.int .i64 (a1)), (.int .i64 (a2))])] = some [.int .i64 (qyv a0 a1 a2)] := by
  rw [qjd]
  simp (disch := omega) only [qbz, bit, qcp, qa9, nth0, qzu, qzt]
  cases h : idOk a0 a1 a2
  · simp [qyv, h]
  · rw [qyy h]; rfl
theorem qne (r l i : Int) : IntKind.wrap .i64 (qyv r l i + q0d l) = qyv r l i + q0d l := by
  have h1 := qyw r l i; have h2 := q0f l
  exact q0l (by omega) (by omega)
theorem qfm (k : Nat) (hk : 2000000 ≤ k) (a0 : Int) (a1 : Int) (a2 : Int) : go (k + 4) spec_l04End [(.agg [(.int .i64 (a0)), (.int .i64 (a1)), (.int .i64 (a2))])] = some [.int .i64 (qyv a0 a1 a2 + q0d a1)] := by
  rw [ql8]
  simp (disch := omega) only [qe6, qe9, qa9, nth0, qzu, qne]
theorem qc5 (k : Nat) (hk : 2000000 ≤ k) (a0 : Int) (a1 : Int) (a2 : Int) : go (k + 5) impl_endOf [(.agg [(.int .i64 (a0)), (.int .i64 (a1)), (.int .i64 (a2))])] = some [.int .i64 (qyv a0 a1 a2 + q0d a1)] := by
  rw [qkb]
  simp (disch := omega) only [qcj, qcp, qa9, nth0, qzu, qne]
abbrev Cell := Int × Int × Int
def qtl (roots : Int) : Int → List Cell → Bool
  | pos, [] => inR roots 1 8 && decide (pos = roots * 16)
  | pos, x :: rest => idOk x.1 x.2.1 x.2.2 && (decide (qyv x.1 x.2.1 x.2.2 = pos) && qtl roots (qyv x.1 x.2.1 x.2.2 + q0d x.2.1) rest)
theorem qtp (roots pos : Int) : cond (inR roots 1 8) (some [D.bool (decide (pos = IntKind.wrap .i64 (roots * (16 : Int))))]) (some [D.bool false]) = some [D.bool (qtl roots pos [])] := by
  unfold qtl
  cases h : inR roots 1 8
  · rfl
  · simp only [inR, Bool.and_eq_true, decide_eq_true_eq] at h
    rw [q0l (by omega) (by omega)]; rfl
theorem qsk (k : Nat) (hk : 2000000 ≤ k) (fu : List (Nat × Nat)) (z : Bool) (l : List Cell) (roots : Int) (hl : (l.length : Int) ≤ 1048576) : ∀ (n i : Nat) (pos : Int), i ≤ l.length → l.length - i < n →
    lp (k + 4) spec_MeshOk [] fu 3 (n) (qw9 pos (i : Int) z l roots) = some [.bool (qtl roots pos (l.drop i))]
  | 0, i, pos, hi, hn => by omega
  | n + 1, i, pos, hi, hn => by
    rw [qpz]
    by_cases h : i < l.length
    · rw [qh2 h zz3]
      simp (disch := omega) only [nI, dT, Bool.and_true, Int.toNat_natCast, qeo, bit, qe6, qfm, qgp, q0l, qa9, nth0, qzu, qhl, qzt, qtl]
      rw [qsk k hk fu z l roots hl n (i + 1) _ (by omega) (by omega)]
      simp only [qhm, qhn, Bool.and_assoc]
    · rw [List.drop_of_length_le (by omega)]
      simp (disch := omega) only [nI, dF, dT, Bool.and_false, Int.toNat_natCast, bit, qgp, q0l, qhj, qfj, qa9, nth0, qzt]
      exact qtp roots pos
theorem qev (k : Nat) (hk : 2000000 ≤ k) (a0 : Int) (a1z : Bool) (a1 : List (Int × Int × Int)) (hl : (a1.length : Int) ≤ 1048576) : go (k + 5) spec_MeshOk [(.agg [(.int .i64 (a0)), (.arr false (a1z) (.r3 (a1)))])] = some [.bool (qtl a0 0 a1)] := by
  rw [qlm]
  exact qsk k hk _ _ a1 a0 hl _ 0 0 (by omega) (by omega)
theorem qri (k : Nat) (hk : 2000000 ≤ k) (fu : List (Nat × Nat)) (z : Bool) (l : List Cell) (roots : Int) (hl : (l.length : Int) ≤ 1048576) : ∀ (n i : Nat) (pos : Int), i ≤ l.length → l.length - i < n →
    lp (k + 5) impl_MeshOk [] fu 3 (n) (qv3 pos (l.length : Int) (i : Int) z l roots) = some [.bool (qtl roots pos (l.drop i))]
  | 0, i, pos, hi, hn => by omega
  | n + 1, i, pos, hi, hn => by
    rw [qot]
    by_cases h : i < l.length
    · rw [qh2 h zz3]
      simp (disch := omega) only [dT, nI, Bool.and_true, Int.toNat_natCast, qbz, bit, qcj, qc5, qgp, q0l, qa9, nth0, qzu, qzt, qhl, qtl]
      rw [qri k hk fu z l roots hl n (i + 1) _ (by omega) (by omega)]
      simp only [qhm, qhn, Bool.and_assoc]
    · rw [List.drop_of_length_le (by omega)]
      simp (disch := omega) only [dF, dT, nI, Bool.and_false, Int.toNat_natCast, bit, qgp, q0l, qhj, qdy, qa9, nth0, qzt]
      exact qtp roots pos
theorem qb6 (k : Nat) (hk : 2000000 ≤ k) (a0 : Int) (a1z : Bool) (a1 : List (Int × Int × Int)) (hl : (a1.length : Int) ≤ 1048576) : go (k + 6) impl_MeshOk [(.agg [(.int .i64 (a0)), (.arr false (a1z) (.r3 (a1)))])] = some [.bool (qtl a0 0 a1)] := by
  rw [qit]
  exact qri k hk _ _ a1 a0 hl _ 0 0 (by omega) (by omega)
theorem qc8 (k : Nat) (hk : 2000000 ≤ k) (a0 : Int) (a1z : Bool) (a1 : List (Int × Int × Int)) (b : Int) (hl : (a1.length : Int) ≤ 1048576) : go (k + 2) impl_Mesh_has [(.agg [(.int .i64 (a0)), (.arr false (a1z) (.r3 (a1)))]), (.int .i64 (b))] = some [.bool (inR b 0 ((a1.length : Int) - 1))] := by
  rw [qix]
  simp (disch := omega) only [nI, q0l, qdy, bit, qa9, nth0, qzt]
end Go.Proofs.YtoldpdhhfmlckaaGreat
end
section
namespace Go.Proofs.YtoldpdhhfmlckaaGreat
open Go.Ev
def qxd (x0 : Int) (z1 : Bool) (l2 : List (Int × Int × Int)) (z3 : Bool) (l4 : List Int) (z5 : Bool) (l6 : List Int) (z7 : Bool) (l8 : List Int) (x9 : Int) : St := ⟨fill 84 [(1, (.ptr 4 (0) (0))), (3, (.int .i64 (x0)))], [], [(.arr false (z1) (.r3 (l2))), (.arr false (z3) (.ints .i64 (l4))), (.arr false (z5) (.ints .i64 (l6))), (.arr false (z7) (.ints .i64 (l8))), (.box true [(.int .i64 (x9)), (.sl 0 none), (.sl 1 none), (.sl 2 none), (.sl 3 none)])]⟩
def qxe (x0 : Int) (z1 : Bool) (l2 : List (Int × Int × Int)) (z3 : Bool) (l4 : List Int) (z5 : Bool) (l6 : List Int) (z7 : Bool) (l8 : List Int) (x9 : Int) : St := ⟨fill 84 [(1, (.ptr 4 (0) (0))), (4, (.int .i64 (x0)))], [], [(.arr false (z1) (.r3 (l2))), (.arr false (z3) (.ints .i64 (l4))), (.arr false (z5) (.ints .i64 (l6))), (.arr false (z7) (.ints .i64 (l8))), (.box true [(.int .i64 (x9)), (.sl 0 none), (.sl 1 none), (.sl 2 none), (.sl 3 none)])]⟩
theorem qly (k : Nat) (a0 : Int) (a1z : Bool) (a1 : List (Int × Int × Int)) (a2z : Bool) (a2 : List Int) (a3z : Bool) (a3 : List Int) (a4z : Bool) (a4 : List Int) : go (k + 1) spec_StateOk [(.agg [(.int .i64 (a0)), (.arr false (a1z) (.r3 (a1))), (.arr false (a2z) (.ints .i64 (a2))), (.arr false (a3z) (.ints .i64 (a3))), (.arr false (a4z) (.ints .i64 (a4)))])] =
 (go k spec_IsBalanced [(.agg [(.int .i64 (a0)), (.arr false (a1z) (.r3 (a1)))])]).bind fun r0 =>
 cond (!bit (nth r0 0))
 (some [(.bool (false))])
 (cond (!decide (nI (List.length a2) = nI (List.length a1)))
 (some [(.bool (false))])
 (cond (!decide (nI (List.length a3) = nI (List.length a2)))
 (some [(.bool (false))])
 (cond (!decide (nI (List.length a4) = a0))
 (some [(.bool (false))])
 (lp k spec_StateOk [] [] 4 k (qxd (0 : Int) a1z a1 a2z a2 a3z a3 a4z a4 a0))))) := by kernel_rfl
theorem qp3 (k n : Nat) (fu : List (Nat × Nat)) (x0 : Int) (z1 : Bool) (l2 : List (Int × Int × Int)) (z3 : Bool) (l4 : List Int) (z5 : Bool) (l6 : List Int) (z7 : Bool) (l8 : List Int) (x9 : Int) : lp k spec_StateOk [] fu 4 (n + 1) (qxd x0 z1 l2 z3 l4 z5 l6 z7 l8 x9) =
 cond (decide (x0 < nI (List.length l4)))
 (cond (decide ((0 : Int) ≤ x0) && decide (x0 < nI (List.length l4)))
 ((go k spec_l01In [(.int .i64 (List.getD l4 (Int.toNat x0) (0 : Int))), (.int .i64 (0 : Int)), (.int .i64 ((10000000 : Int)))]).bind fun r0 =>
 cond (!bit (nth r0 0))
 (some [(.bool (false))])
 (cond (decide ((0 : Int) ≤ x0) && decide (x0 < nI (List.length l6)))
 (cond (decide ((0 : Int) ≤ x0) && decide (x0 < nI (List.length l4)))
 ((go k spec_l01In [(.int .i64 (List.getD l6 (Int.toNat x0) (0 : Int))), (.int .i64 (0 : Int)), (.int .i64 (IntKind.wrap .i64 ((1000 : Int) * List.getD l4 (Int.toNat x0) (0 : Int))))]).bind fun r1 =>
 cond (!bit (nth r1 0))
 (some [(.bool (false))])
 (lp k spec_StateOk [] fu 4 n (qxd (IntKind.wrap .i64 (x0 + (1 : Int))) z1 l2 z3 l4 z5 l6 z7 l8 x9)))
 (none))
 (none)))
 (none))
 (lp k spec_StateOk [] fu 9 k (qxe (0 : Int) z1 l2 z3 l4 z5 l6 z7 l8 x9)) := by kernel_rfl
theorem qp4 (k n : Nat) (fu : List (Nat × Nat)) (x0 : Int) (z1 : Bool) (l2 : List (Int × Int × Int)) (z3 : Bool) (l4 : List Int) (z5 : Bool) (l6 : List Int) (z7 : Bool) (l8 : List Int) (x9 : Int) : lp k spec_StateOk [] fu 9 (n + 1) (qxe x0 z1 l2 z3 l4 z5 l6 z7 l8 x9) =
 cond (decide (x0 < nI (List.length l8)))
 (cond (decide ((0 : Int) ≤ x0) && decide (x0 < nI (List.length l8)))
 ((go k spec_l01In [(.int .i64 (List.getD l8 (Int.toNat x0) (0 : Int))), (.int .i64 (0 : Int)), (.int .i64 ((1000000 : Int)))]).bind fun r0 =>
 cond (!bit (nth r0 0))
 (some [(.bool (false))])
 (lp k spec_StateOk [] fu 9 n (qxe (IntKind.wrap .i64 (x0 + (1 : Int))) z1 l2 z3 l4 z5 l6 z7 l8 x9)))
 (none))
 ((go k spec_l07Sum [(.arr false (z3) (.ints .i64 (l4)))]).bind fun r1 =>
 some [(.bool (decide (D.toInt (nth r1 0) ≤ (10000000 : Int))))]) := by kernel_rfl
theorem qje (k : Nat) (a0 : Int) (a1z : Bool) (a1 : List (Int × Int × Int)) (a2z : Bool) (a2 : List Int) (a3z : Bool) (a3 : List Int) (a4z : Bool) (a4 : List Int) : go (k + 1) impl_StateOk [(.agg [(.int .i64 (a0)), (.arr false (a1z) (.r3 (a1))), (.arr false (a2z) (.ints .i64 (a2))), (.arr false (a3z) (.ints .i64 (a3))), (.arr false (a4z) (.ints .i64 (a4)))])] =
 (go k impl_IsBalanced [(.agg [(.int .i64 (a0)), (.arr false (a1z) (.r3 (a1)))])]).bind fun r0 =>
 cond (bit (nth r0 0))
 ((go k impl_State_hasCells [(.agg [(.int .i64 (a0)), (.arr false (a1z) (.r3 (a1))), (.arr false (a2z) (.ints .i64 (a2))), (.arr false (a3z) (.ints .i64 (a3))), (.arr false (a4z) (.ints .i64 (a4)))])]).bind fun r1 =>
 some [(.bool (bit (nth r1 0)))])
 (some [(.bool (false))]) := by kernel_rfl
def qwd (x0 x1 : Int) (z2 : Bool) (l3 : List (Int × Int × Int)) (z4 : Bool) (l5 : List Int) (z6 : Bool) (l7 : List Int) (z8 : Bool) (l9 : List Int) (x10 : Int) : St := ⟨fill 63 [(1, (.ptr 4 (0) (0))), (37, (.sl 1 none)), (38, (.int .i64 (x0))), (39, (.int .i64 (x1)))], [], [(.arr false (z2) (.r3 (l3))), (.arr false (z4) (.ints .i64 (l5))), (.arr false (z6) (.ints .i64 (l7))), (.arr false (z8) (.ints .i64 (l9))), (.box true [(.int .i64 (x10)), (.sl 0 none), (.sl 1 none), (.sl 2 none), (.sl 3 none)])]⟩
theorem qjl (k : Nat) (a0 : Int) (a1z : Bool) (a1 : List (Int × Int × Int)) (a2z : Bool) (a2 : List Int) (a3z : Bool) (a3 : List Int) (a4z : Bool) (a4 : List Int) : go (k + 1) impl_State_hasCells [(.agg [(.int .i64 (a0)), (.arr false (a1z) (.r3 (a1))), (.arr false (a2z) (.ints .i64 (a2))), (.arr false (a3z) (.ints .i64 (a3))), (.arr false (a4z) (.ints .i64 (a4)))])] =
 cond (!decide (nI (List.length a2) = nI (List.length a1)))
 (some [(.bool (false))])
 (cond (!decide (nI (List.length a3) = nI (List.length a1)))
 (some [(.bool (false))])
 (cond (!decide (nI (List.length a4) = a0))
 (some [(.bool (false))])
 ((go k slices_ContainsFunc_int_int [(.arr false (a4z) (.ints .i64 (a4))), (.fn impl_State_hasCells_1 [])]).bind fun r0 =>
 cond (bit (nth r0 0))
 (some [(.bool (false))])
 (lp k impl_State_hasCells [] [] 5 k (qwd (nI (List.length a2)) (0 : Int) a1z a1 a2z a2 a3z a3 a4z a4 a0))))) := by kernel_rfl
theorem qo3 (k n : Nat) (fu : List (Nat × Nat)) (x0 x1 : Int) (z2 : Bool) (l3 : List (Int × Int × Int)) (z4 : Bool) (l5 : List Int) (z6 : Bool) (l7 : List Int) (z8 : Bool) (l9 : List Int) (x10 : Int) : lp k impl_State_hasCells [] fu 5 (n + 1) (qwd x0 x1 z2 l3 z4 l5 z6 l7 z8 l9 x10) =
 cond (decide (x1 < x0))
 (cond (decide ((0 : Int) ≤ x1) && decide (x1 < nI (List.length l5)))
 ((go k impl_within [(.int .i64 (List.getD l5 (Int.toNat x1) (0 : Int))), (.int .i64 (0 : Int)), (.int .i64 ((10000000 : Int)))]).bind fun r0 =>
 cond (!bit (nth r0 0))
 (some [(.bool (false))])
 (cond (decide ((0 : Int) ≤ x1) && decide (x1 < nI (List.length l7)))
 ((go k impl_within [(.int .i64 (List.getD l7 (Int.toNat x1) (0 : Int))), (.int .i64 (0 : Int)), (.int .i64 (IntKind.wrap .i64 ((1000 : Int) * List.getD l5 (Int.toNat x1) (0 : Int))))]).bind fun r1 =>
 cond (!bit (nth r1 0))
 (some [(.bool (false))])
 (lp k impl_State_hasCells [] fu 5 n (qwd x0 (IntKind.wrap .i64 (x1 + (1 : Int))) z2 l3 z4 l5 z6 l7 z8 l9 x10)))
 (none)))
 (none))
 ((go k impl_sum [(.arr false (z4) (.ints .i64 (l5)))]).bind fun r2 =>
 some [(.bool (decide (D.toInt (nth r2 0) ≤ (10000000 : Int))))]) := by kernel_rfl
theorem qjm (k : Nat) (a : Int) : go (k + 1) impl_State_hasCells_1 [(.int .i64 (a))] =
 (go k impl_isBed [(.int .i64 (a))]).bind fun r0 =>
 some [(.bool (!bit (nth r0 0)))] := by kernel_rfl
theorem qkd (k : Nat) (a : Int) : go (k + 1) impl_isBed [(.int .i64 (a))] =
 (go k impl_within [(.int .i64 (a)), (.int .i64 (0 : Int)), (.int .i64 ((1000000 : Int)))]).bind fun r0 =>
 some [(.bool (bit (nth r0 0)))] := by kernel_rfl
def qxk (x0 x1 : Int) (z2 : Bool) (l3 : List Int) : St := ⟨fill 18 [(0, (.sl 0 none)), (3, (.int .i64 (x0))), (4, (.int .i64 (x1)))], [], [(.arr false (z2) (.ints .i64 (l3)))]⟩
theorem qmk (k : Nat) (az : Bool) (a : List Int) : go (k + 1) spec_l07Sum [(.arr false (az) (.ints .i64 (a)))] =
 lp k spec_l07Sum [] [] 3 k (qxk (0 : Int) (0 : Int) az a) := by kernel_rfl
theorem qqa (k n : Nat) (fu : List (Nat × Nat)) (x0 x1 : Int) (z2 : Bool) (l3 : List Int) : lp k spec_l07Sum [] fu 3 (n + 1) (qxk x0 x1 z2 l3) =
 cond (decide (x1 < nI (List.length l3)))
 (cond (decide ((0 : Int) ≤ x1) && decide (x1 < nI (List.length l3)))
 (lp k spec_l07Sum [] fu 3 n (qxk (IntKind.wrap .i64 (x0 + List.getD l3 (Int.toNat x1) (0 : Int))) (IntKind.wrap .i64 (x1 + (1 : Int))) z2 l3))
 (none))
 (some [(.int .i64 (x0))]) := by kernel_rfl
def qwq (x0 x1 x2 : Int) (z3 : Bool) (l4 : List Int) : St := ⟨fill 17 [(3, (.int .i64 (x0))), (6, (.sl 0 none)), (7, (.int .i64 (x1))), (8, (.int .i64 (x2)))], [], [(.arr false (z3) (.ints .i64 (l4)))]⟩
theorem qkk (k : Nat) (az : Bool) (a : List Int) : go (k + 1) impl_sum [(.arr false (az) (.ints .i64 (a)))] =
 lp k impl_sum [] [] 3 k (qwq (0 : Int) (nI (List.length a)) (0 : Int) az a) := by kernel_rfl
theorem qpg (k n : Nat) (fu : List (Nat × Nat)) (x0 x1 x2 : Int) (z3 : Bool) (l4 : List Int) : lp k impl_sum [] fu 3 (n + 1) (qwq x0 x1 x2 z3 l4) =
 cond (decide (x2 < x1))
 (cond (decide ((0 : Int) ≤ x2) && decide (x2 < nI (List.length l4)))
 (lp k impl_sum [] fu 3 n (qwq (IntKind.wrap .i64 (x0 + List.getD l4 (Int.toNat x2) (0 : Int))) x1 (IntKind.wrap .i64 (x2 + (1 : Int))) z3 l4))
 (none))
 (some [(.int .i64 (x0))]) := by kernel_rfl
def qwy (x0 x1 : Int) (z2 : Bool) (l3 : List Int) : St := ⟨fill 19 [(0, (.sl 0 none)), (1, (.fn impl_State_hasCells_1 [])), (7, (.int .i64 (x0))), (8, (.int .i64 (x1)))], [], [(.arr false (z2) (.ints .i64 (l3)))]⟩
theorem qkz (k : Nat) (v0 : Bool) (v1 : List Int) : go (k + 1) slices_IndexFunc_int_int [(.arr false (v0) (.ints .i64 (v1))), (.fn impl_State_hasCells_1 [])] =
 lp k slices_IndexFunc_int_int [] [] 2 k (qwy (nI (List.length v1)) (0 : Int) v0 v1) := by kernel_rfl
theorem qpo (k n : Nat) (fu : List (Nat × Nat)) (x0 x1 : Int) (z2 : Bool) (l3 : List Int) : lp k slices_IndexFunc_int_int [] fu 2 (n + 1) (qwy x0 x1 z2 l3) =
 cond (decide (x1 < x0))
 (cond (decide ((0 : Int) ≤ x1) && decide (x1 < nI (List.length l3)))
 ((go k impl_State_hasCells_1 [(.int .i64 (List.getD l3 (Int.toNat x1) (0 : Int)))]).bind fun r0 =>
 cond (bit (nth r0 0))
 (some [(.int .i64 (x1))])
 (lp k slices_IndexFunc_int_int [] fu 2 n (qwy x0 (IntKind.wrap .i64 (x1 + (1 : Int))) z2 l3)))
 (none))
 (some [(.int .i64 ((-1 : Int)))]) := by kernel_rfl
theorem qkv (k : Nat) (v0 : Bool) (v1 : List Int) : go (k + 1) slices_ContainsFunc_int_int [(.arr false (v0) (.ints .i64 (v1))), (.fn impl_State_hasCells_1 [])] =
 (go k slices_IndexFunc_int_int [(.arr false (v0) (.ints .i64 (v1))), (.fn impl_State_hasCells_1 [])]).bind fun r0 =>
 some [(.bool (decide ((0 : Int) ≤ D.toInt (nth r0 0))))] := by kernel_rfl
theorem ql7 (k : Nat) (a0 : Int) (a1z : Bool) (a1 : List (Int × Int × Int)) : go (k + 1) spec_l04Copy [(.agg [(.int .i64 (a0)), (.arr false (a1z) (.r3 (a1)))])] =
 cond (decide (List.length ([] ++ a1) ≤ bigLen))
 (some [(.agg [(.int .i64 (a0)), (.arr true (false && decide (List.length ([] ++ a1) = 0)) (.r3 ([] ++ a1)))])])
 (none) := by kernel_rfl
theorem qmi (k : Nat) (a0 : Int) (a1z : Bool) (a1 : List (Int × Int × Int)) (a2z : Bool) (a2 : List Int) (a3z : Bool) (a3 : List Int) (a4z : Bool) (a4 : List Int) : go (k + 1) spec_l07Copy [(.agg [(.int .i64 (a0)), (.arr false (a1z) (.r3 (a1))), (.arr false (a2z) (.ints .i64 (a2))), (.arr false (a3z) (.ints .i64 (a3))), (.arr false (a4z) (.ints .i64 (a4)))])] =
 (go k spec_l04Copy [(.agg [(.int .i64 (a0)), (.arr false (a1z) (.r3 (a1)))])]).bind fun r0 =>
 cond (decide (List.length ([] ++ a2) ≤ bigLen))
 (cond (decide (List.length ([] ++ a3) ≤ bigLen))
 (cond (decide (List.length ([] ++ a4) ≤ bigLen))
 (some [(.agg [(.int .i64 (D.toInt (D.cell 0 (nth r0 0)))), (.arr true (D.nil (D.cell 1 (nth r0 0))) (.r3 (D.r3 (D.cell 1 (nth r0 0))))), (.arr true (false && decide (List.length ([] ++ a2) = 0)) (.ints .i64 ([] ++ a2))), (.arr true (false && decide (List.length ([] ++ a3) = 0)) (.ints .i64 ([] ++ a3))), (.arr true (false && decide (List.length ([] ++ a4) = 0)) (.ints .i64 ([] ++ a4)))])])
 (none))
 (none))
 (none) := by kernel_rfl
theorem qj8 (k : Nat) (a0 : Int) (a1z : Bool) (a1 : List (Int × Int × Int)) : go (k + 1) impl_copyMesh [(.agg [(.int .i64 (a0)), (.arr false (a1z) (.r3 (a1)))])] =
 (go k slices_Clone_impl_Id_impl_Id [(.arr false (a1z) (.r3 (a1)))]).bind fun r0 =>
 some [(.agg [(.int .i64 (a0)), (.arr true (D.nil (nth r0 0)) (.r3 (D.r3 (nth r0 0))))])] := by kernel_rfl
theorem qj9 (k : Nat) (a0 : Int) (a1z : Bool) (a1 : List (Int × Int × Int)) (a2z : Bool) (a2 : List Int) (a3z : Bool) (a3 : List Int) (a4z : Bool) (a4 : List Int) : go (k + 1) impl_copyState [(.agg [(.int .i64 (a0)), (.arr false (a1z) (.r3 (a1))), (.arr false (a2z) (.ints .i64 (a2))), (.arr false (a3z) (.ints .i64 (a3))), (.arr false (a4z) (.ints .i64 (a4)))])] =
 (go k impl_copyMesh [(.agg [(.int .i64 (a0)), (.arr false (a1z) (.r3 (a1)))])]).bind fun r0 =>
 (go k slices_Clone_int_int [(.arr false (a2z) (.ints .i64 (a2)))]).bind fun r1 =>
 (go k slices_Clone_int_int [(.arr false (a3z) (.ints .i64 (a3)))]).bind fun r2 =>
 (go k slices_Clone_int_int [(.arr false (a4z) (.ints .i64 (a4)))]).bind fun r3 =>
 some [(.agg [(.int .i64 (D.toInt (D.cell 0 (nth r0 0)))), (.arr true (D.nil (D.cell 1 (nth r0 0))) (.r3 (D.r3 (D.cell 1 (nth r0 0))))), (.arr true (D.nil (nth r1 0)) (.ints .i64 (D.ints (nth r1 0)))), (.arr true (D.nil (nth r2 0)) (.ints .i64 (D.ints (nth r2 0)))), (.arr true (D.nil (nth r3 0)) (.ints .i64 (D.ints (nth r3 0))))])] := by kernel_rfl
theorem qku (k : Nat) (az : Bool) (a : List Int) : go (k + 1) slices_Clone_int_int [(.arr false (az) (.ints .i64 (a)))] =
 cond (az)
 (some [(.arr true (true) (.ints .i64 ([])))])
 (cond (decide (List.length ([] ++ a) ≤ bigLen))
 (some [(.arr true (false && decide (List.length ([] ++ a) = 0)) (.ints .i64 ([] ++ a)))])
 (none)) := by kernel_rfl
theorem qkt (k : Nat) (az : Bool) (a : List (Int × Int × Int)) : go (k + 1) slices_Clone_impl_Id_impl_Id [(.arr false (az) (.r3 (a)))] =
 cond (az)
 (some [(.arr true (true) (.r3 ([])))])
 (cond (decide (List.length ([] ++ a) ≤ bigLen))
 (some [(.arr true (false && decide (List.length ([] ++ a) = 0)) (.r3 ([] ++ a)))])
 (none)) := by kernel_rfl
end Go.Proofs.YtoldpdhhfmlckaaGreat
end
section
namespace Go.Proofs.YtoldpdhhfmlckaaGreat
open Go.Ev
theorem qhk {α : Type} (a : Bool) (x y : α) : cond (!a) x y = cond a y x := by cases a <;> rfl
theorem qhi {α : Type} (a b : Bool) (x y : α) : cond a (cond b x y) y = cond (a && b) x y := by cases a <;> rfl
abbrev qqx (l : List Cell) (i : Nat) : Int := (l.getD i zz3).2.1
def qab (l : List Cell) : Prop := ∀ i, 0 ≤ qqx l i ∧ qqx l i ≤ 4
theorem qts : ∀ (l : List Cell) (r p : Int), qtl r p l = true → ∀ i, 0 ≤ qqx l i ∧ qqx l i ≤ 4
  | [], r, p, h, i => by simp [qqx]
  | x :: l, r, p, h, i => by
    simp only [qtl, Bool.and_eq_true] at h
    cases i with
    | zero => have := lev0 (qn7 h.1).2.2.1; simpa [qqx] using this
    | succ i => have := qts l r _ h.2.2 i; simpa [qqx] using this
def qzz (l : List Cell) : Nat → Nat → Int
  | 0, _ => -1
  | n + 1, i => if 1 < qqx l i - qqx l (i + 1) ∨ qqx l i - qqx l (i + 1) < -1 then (i : Int) else qzz l n (i + 1)
def unb (l : List Cell) : Int := qzz l (l.length - 1) 0
theorem qct (k : Nat) (hk : 2000000 ≤ k) (a : Int) (h : -9223372036854775807 ≤ a) (h' : a ≤ 9223372036854775807) : go (k + 1) impl_absolute [(.int .i64 (a))] = some [.int .i64 (max (0 - a) a)] := by
  rw [qj6]; simp (disch := omega) only [q0l, imax]
theorem qsv (k : Nat) (hk : 2000000 ≤ k) (fu : List (Nat × Nat)) (z : Bool) (l : List Cell) (r : Int) (hl : (l.length : Int) ≤ 1048576) (hv : qab l) : ∀ (n i : Nat), i ≤ l.length → l.length - 1 - i < n →
    lp k spec_l05First [] fu 2 (n) (qxh (i : Int) z l r) = some [.int .i64 (qzz l (l.length - 1 - i) i)]
  | 0, i, hi, hn => by omega
  | n + 1, i, hi, hn => by
    rw [qp7]
    by_cases h : i + 1 < l.length
    · have e := qsv k hk fu z l r hl hv n (i + 1) (by omega) (by omega)
      have h1 := hv i; have h2 := hv (i + 1)
      simp only [qqx] at h1 h2
      simp (disch := omega) only [qgp, q0l, nI, dT, Bool.and_true, Int.toNat_natCast, e, qhl]
      rw [show l.length - 1 - i = (l.length - 1 - (i + 1)) + 1 by omega, qzz]
      simp only [qqx]
      by_cases g : 1 < (l.getD i zz3).2.1 - (l.getD (i + 1) zz3).2.1
      · simp (disch := omega) only [dT, dF, qhj, qhl]; rw [if_pos (Or.inl g)]
      · by_cases g2 : (l.getD i zz3).2.1 - (l.getD (i + 1) zz3).2.1 < -1
        · simp (disch := omega) only [dF, dT, qhl, qhj]; rw [if_pos (Or.inr g2)]
        · simp (disch := omega) only [dF, qhj]; rw [if_neg (not_or.2 ⟨g, g2⟩)]
    · simp (disch := omega) only [qgp, q0l, nI, dF, dT, Bool.true_and, Bool.and_false, Int.toNat_natCast, qhj]
      rw [show l.length - 1 - i = 0 by omega]; rfl
theorem qfr (k : Nat) (hk : 2000000 ≤ k) (a0 : Int) (a1z : Bool) (a1 : List (Int × Int × Int)) (hl : (a1.length : Int) ≤ 1048576) (hv : qab a1) : go (k + 1) spec_l05First [(.agg [(.int .i64 (a0)), (.arr false (a1z) (.r3 (a1)))])] = some [.int .i64 (unb a1)] := by
  rw [qmd]
  exact qsv k hk [] a1z a1 a0 hl hv _ 0 (by omega) (by omega)
theorem qry (k : Nat) (hk : 2000000 ≤ k) (fu : List (Nat × Nat)) (z : Bool) (l : List Cell) (r : Int) (hl : (l.length : Int) ≤ 1048576) (hv : qab l) : ∀ (n i : Nat), i ≤ l.length → l.length - 1 - i < n →
    lp (k + 1) impl_Mesh_unbalanced [] fu 2 (n) (qv6 ((l.length : Int) - 1) (i : Int) z l r) = some [.int .i64 (qzz l (l.length - 1 - i) i)]
  | 0, i, hi, hn => by omega
  | n + 1, i, hi, hn => by
    rw [qow]
    by_cases h : i + 1 < l.length
    · have e := qry k hk fu z l r hl hv n (i + 1) (by omega) (by omega)
      have h1 := hv i; have h2 := hv (i + 1)
      simp only [qqx] at h1 h2
      simp (disch := omega) only [dT, nI, Bool.and_true, qgp, q0l, Int.toNat_natCast, qct, e, qa9, nth0, qzu, qhl]
      rw [show l.length - 1 - i = (l.length - 1 - (i + 1)) + 1 by omega, qzz]
      simp only [qqx]
      by_cases g : 1 < (l.getD i zz3).2.1 - (l.getD (i + 1) zz3).2.1
      · simp (disch := omega) only [dT, qhl]; rw [if_pos (Or.inl g)]
      · by_cases g2 : (l.getD i zz3).2.1 - (l.getD (i + 1) zz3).2.1 < -1
        · simp (disch := omega) only [dT, qhl]; rw [if_pos (Or.inr g2)]
        · simp (disch := omega) only [dF, qhj]; rw [if_neg (not_or.2 ⟨g, g2⟩)]
    · simp (disch := omega) only [dF, dT, nI, Bool.true_and, qgp, q0l, Bool.and_false, Int.toNat_natCast, qhj]
      rw [show l.length - 1 - i = 0 by omega]; rfl
theorem qdx (k : Nat) (hk : 2000000 ≤ k) (a0 : Int) (a1z : Bool) (a1 : List (Int × Int × Int)) (hl : (a1.length : Int) ≤ 1048576) (hv : qab a1) : go (k + 2) impl_Mesh_unbalanced [(.agg [(.int .i64 (a0)), (.arr false (a1z) (.r3 (a1)))])] = some [.int .i64 (unb a1)] := by
  rw [qi2]
  simp (disch := omega) only [nI, q0l]
  exact qry k hk [] a1z a1 a0 hl hv _ 0 (by omega) (by omega)
def qa4 (r : Int) (l : List Cell) : Bool := qtl r 0 l && decide (unb l < 0)
theorem qeq (k : Nat) (hk : 2000000 ≤ k) (a0 : Int) (a1z : Bool) (a1 : List (Int × Int × Int)) (hl : (a1.length : Int) ≤ 1048576) : go (k + 6) spec_IsBalanced [(.agg [(.int .i64 (a0)), (.arr false (a1z) (.r3 (a1)))])] = some [.bool (qa4 a0 a1)] := by
  rw [qlg]
  simp (disch := omega) only [qev, bit, qa9, nth0, qzt]
  unfold qa4
  cases h : qtl a0 0 a1
  · rfl
  · have hv : qab a1 := qts _ _ _ h
    simp (disch := omega) only [qhl, Bool.true_and]
    rw [qfr _ (by omega) _ _ _ hl hv]; simp (disch := omega) only [qa9, nth0, qzu]
theorem qb1 (k : Nat) (hk : 2000000 ≤ k) (a0 : Int) (a1z : Bool) (a1 : List (Int × Int × Int)) (hl : (a1.length : Int) ≤ 1048576) : go (k + 7) impl_IsBalanced [(.agg [(.int .i64 (a0)), (.arr false (a1z) (.r3 (a1)))])] = some [.bool (qa4 a0 a1)] := by
  rw [qim]
  simp (disch := omega) only [qb6, bit, qa9, nth0, qzt]
  unfold qa4
  cases h : qtl a0 0 a1
  · rfl
  · have hv : qab a1 := qts _ _ _ h
    rw [qhl, qdx _ (by omega) _ _ _ hl hv]; simp (disch := omega) only [qa9, nth0, qzu, Bool.true_and]
def isum : List Int → Int
  | [] => 0
  | x :: l => x + isum l
theorem qoh {B : Int} : ∀ (l : List Int), (∀ x ∈ l, 0 ≤ x ∧ x ≤ B) → 0 ≤ isum l ∧ isum l ≤ B * l.length
  | [], h => by simp [isum]
  | x :: l, h => by
    have := qoh l fun y hy => h y (by simp [hy])
    have h2 := h x (by simp)
    simp only [isum, List.length_cons, Int.natCast_add, Int.natCast_one, Int.mul_add, Int.mul_one]; omega
theorem qog {B : Int} (hB : 0 ≤ B) : ∀ (l : List Int) (i : Nat), (∀ x ∈ l, 0 ≤ x ∧ x ≤ B) → 0 ≤ isum (l.drop i) ∧ isum (l.drop i) ≤ isum l
  | [], i, h => by simp [isum]
  | x :: l, 0, h => by have := qoh (x :: l) h; simp only [List.drop_zero]; omega
  | x :: l, i + 1, h => by
    have := qog hB l i fun y hy => h y (by simp [hy])
    have h2 := h x (by simp)
    simp only [isum, List.drop_succ_cons]; omega
theorem qsy (k : Nat) (hk : 2000000 ≤ k) (fu : List (Nat × Nat)) (z : Bool) (l : List Int) (hl : (l.length : Int) ≤ 1048576) (hb : ∀ x ∈ l, 0 ≤ x ∧ x ≤ 1000000000000) : ∀ (n i : Nat) (s : Int), i ≤ l.length → l.length - i < n → s + isum (l.drop i) = isum l → 0 ≤ s →
    lp k spec_l07Sum [] fu 3 (n) (qxk s (i : Int) z l) = some [.int .i64 (isum l)]
  | 0, i, s, hi, hn, hs, h0 => by omega
  | n + 1, i, s, hi, hn, hs, h0 => by
    rw [qqa]
    by_cases h : i < l.length
    · rw [qh2 h 0] at hs
      simp only [isum] at hs
      have h1 := qoh l hb
      have h2 := qog (by omega) l (i + 1) hb
      have h3 := hb _ (qnw h 0)
      simp (disch := omega) only [nI, dT, Bool.and_true, Int.toNat_natCast, q0l, qgp, qhl]
      exact qsy k hk fu z l hl hb n (i + 1) _ (by omega) (by omega) (by omega) (by omega)
    · rw [List.drop_of_length_le (by omega)] at hs
      simp only [isum] at hs
      simp (disch := omega) only [nI, dF, dT, Bool.and_false, Int.toNat_natCast, qgp, q0l, qhj]
      rw [show s = isum l by omega]
theorem qfy (k : Nat) (hk : 2000000 ≤ k) (az : Bool) (a : List Int) (hl : (a.length : Int) ≤ 1048576) (hb : ∀ x ∈ a, 0 ≤ x ∧ x ≤ 1000000000000) : go (k + 1) spec_l07Sum [(.arr false (az) (.ints .i64 (a)))] = some [.int .i64 (isum a)] := by
  rw [qmk]
  exact qsy k hk [] az a hl hb _ 0 0 (by omega) (by omega) (by simp) (by omega)
theorem qrx (k : Nat) (hk : 2000000 ≤ k) (fu : List (Nat × Nat)) (z : Bool) (l : List Int) (hl : (l.length : Int) ≤ 1048576) (hb : ∀ x ∈ l, 0 ≤ x ∧ x ≤ 1000000000000) : ∀ (n i : Nat) (s : Int), i ≤ l.length → l.length - i < n → s + isum (l.drop i) = isum l → 0 ≤ s →
    lp k impl_sum [] fu 3 (n) (qwq s (l.length : Int) (i : Int) z l) = some [.int .i64 (isum l)]
  | 0, i, s, hi, hn, hs, h0 => by omega
  | n + 1, i, s, hi, hn, hs, h0 => by
    rw [qpg]
    by_cases h : i < l.length
    · rw [qh2 h 0] at hs
      simp only [isum] at hs
      have h1 := qoh l hb
      have h2 := qog (by omega) l (i + 1) hb
      have h3 := hb _ (qnw h 0)
      simp (disch := omega) only [dT, nI, Bool.and_true, Int.toNat_natCast, q0l, qgp, qhl]
      exact qrx k hk fu z l hl hb n (i + 1) _ (by omega) (by omega) (by omega) (by omega)
    · rw [List.drop_of_length_le (by omega)] at hs
      simp only [isum] at hs
      simp (disch := omega) only [dF, dT, nI, Bool.and_false, Int.toNat_natCast, qgp, q0l, qhj]
      rw [show s = isum l by omega]
theorem qdu (k : Nat) (hk : 2000000 ≤ k) (az : Bool) (a : List Int) (hl : (a.length : Int) ≤ 1048576) (hb : ∀ x ∈ a, 0 ≤ x ∧ x ≤ 1000000000000) : go (k + 1) impl_sum [(.arr false (az) (.ints .i64 (a)))] = some [.int .i64 (isum a)] := by
  rw [qkk]
  exact qrx k hk [] az a hl hb _ 0 0 (by omega) (by omega) (by simp) (by omega)
def qtb : List Int → List Int → Bool
  | m :: ms, t :: ts => inR m 0 10000000 && (inR t 0 (1000 * m) && qtb ms ts)
  | _, _ => true
theorem qtd : ∀ (ms ts : List Int), ms.length = ts.length → qtb ms ts = true → (∀ x ∈ ms, 0 ≤ x ∧ x ≤ 10000000) ∧ (∀ x ∈ ts, 0 ≤ x ∧ x ≤ 10000000000)
  | [], ts, hl, h => by cases ts <;> simp_all
  | m :: ms, [], hl, h => by simp at hl
  | m :: ms, t :: ts, hl, h => by
    simp only [qtb, Bool.and_eq_true, qn9] at h
    have := qtd ms ts (by simpa using hl) h.2.2
    refine ⟨fun x hx => ?_, fun x hx => ?_⟩
    · rcases List.mem_cons.1 hx with rfl | hx
      · exact h.1
      · exact this.1 x hx
    · rcases List.mem_cons.1 hx with rfl | hx
      · omega
      · exact this.2 x hx
theorem qtc : ∀ (ms ts : List Int), ms.length = ts.length → qtb ms ts = true → ∀ i, 0 ≤ ms.getD i 0 ∧ ms.getD i 0 ≤ 10000000 ∧ 0 ≤ ts.getD i 0 ∧ ts.getD i 0 ≤ 1000 * ms.getD i 0
  | [], ts, hl, h, i => by cases ts <;> simp_all
  | m :: ms, [], hl, h, i => by simp at hl
  | m :: ms, t :: ts, hl, h, i => by
    simp only [qtb, Bool.and_eq_true, qn9] at h
    cases i with
    | zero => simp; omega
    | succ i => have := qtc ms ts (by simpa using hl) h.2.2 i; simpa using this
def qa6 : List Int → Bool
  | [] => true
  | b :: l => inR b 0 1000000 && qa6 l
theorem qa7 : ∀ (l : List Int), qa6 l = true → ∀ x ∈ l, 0 ≤ x ∧ x ≤ 1000000
  | [], h, x, hx => by cases hx
  | b :: l, h, x, hx => by
    simp only [qa6, Bool.and_eq_true, qn9] at h
    rcases List.mem_cons.1 hx with rfl | hx
    · exact h.1
    · exact qa7 l h.2 x hx
def stOk (r : Int) (l : List Cell) (m t b : List Int) : Bool :=
  qa4 r l && (decide (m.length = l.length) && (decide (t.length = l.length) && (decide ((b.length : Int) = r) && (qtb m t && (qa6 b && decide (isum m ≤ 10000000))))))
theorem qsp (k : Nat) (hk : 2000000 ≤ k) (fu : List (Nat × Nat)) (r : Int) (z1 z2 z3 z4 : Bool) (l : List Cell) (m t b : List Int) (hm : (m.length : Int) ≤ 1048576) (hb : (b.length : Int) ≤ 1048576) (hx : ∀ x ∈ m, 0 ≤ x ∧ x ≤ 10000000) : ∀ (n i : Nat), i ≤ b.length → b.length - i < n →
    lp (k + 6) spec_StateOk [] fu 9 (n) (qxe (i : Int) z1 l z2 m z3 t z4 b r) = some [.bool (qa6 (b.drop i) && decide (isum m ≤ 10000000))]
  | 0, i, hi, hn => by omega
  | n + 1, i, hi, hn => by
    rw [qp4]
    by_cases h : i < b.length
    · rw [qh2 h 0]
      have e := qsp k hk fu r z1 z2 z3 z4 l m t b hm hb hx n (i + 1) (by omega) (by omega)
      simp (disch := omega) only [nI, dT, Bool.and_true, Int.toNat_natCast, qfj, bit, qgp, q0l, e, qhm, qa9, nth0, qzt, qhl, qa6, Bool.and_assoc]
    · rw [List.drop_of_length_le (by omega)]
      have hx' : ∀ x ∈ m, 0 ≤ x ∧ x ≤ 1000000000000 := fun x hh => by have := hx x hh; omega
      rw [show decide ((i : Int) < nI b.length) = false by apply dF; simp only [nI]; omega, qhj, qfy _ (by omega) _ _ hm hx']
      simp (disch := omega) only [qa9, nth0, qzu, qa6, Bool.true_and]
theorem qso (k : Nat) (hk : 2000000 ≤ k) (fu : List (Nat × Nat)) (r : Int) (z1 z2 z3 z4 : Bool) (l : List Cell) (m t b : List Int) (hm : (m.length : Int) ≤ 1048576) (ht : t.length = m.length) : ∀ (n i : Nat), i ≤ m.length → m.length - i < n →
    lp (k + 6) spec_StateOk [] fu 4 (n) (qxd (i : Int) z1 l z2 m z3 t z4 b r) = cond (qtb (m.drop i) (t.drop i)) (lp (k + 6) spec_StateOk [] fu 9 (k + 6) (qxe 0 z1 l z2 m z3 t z4 b r)) (some [.bool false])
  | 0, i, hi, hn => by omega
  | n + 1, i, hi, hn => by
    rw [qp3]
    by_cases h : i < m.length
    · rw [qh2 h 0, qh2 (l := t) (by omega : i < t.length) 0]
      have e := qso k hk fu r z1 z2 z3 z4 l m t b hm ht n (i + 1) (by omega) (by omega)
      by_cases h1 : inR (m.getD i 0) 0 10000000 = true
      · have h2 := qn9.1 h1
        simp (disch := omega) only [nI, dT, Bool.and_true, Int.toNat_natCast, qfj, h1, bit, q0l, qgp, e, qhk, qhi, qa9, nth0, qzt, qhl, Bool.true_and, qtb]
      · have h1 : inR (m.getD i 0) 0 10000000 = false := by simpa using h1
        simp (disch := omega) only [nI, dT, Bool.and_true, Int.toNat_natCast, qfj, h1, bit, qgp, q0l, qa9, nth0, qzt, qhl, Bool.not_false, qtb, Bool.false_and, qhj]
    · rw [List.drop_of_length_le (by omega), List.drop_of_length_le (by omega)]
      simp (disch := omega) only [nI, dF, dT, Bool.and_false, Int.toNat_natCast, bit, qgp, q0l, qhj, qtb, qhl]
theorem qe7 (k : Nat) (hk : 2000000 ≤ k) (a0 : Int) (a1z : Bool) (a1 : List (Int × Int × Int)) (a2z : Bool) (a2 : List Int) (a3z : Bool) (a3 : List Int) (a4z : Bool) (a4 : List Int) (hl : (a1.length : Int) ≤ 1048576) (hb : (a4.length : Int) ≤ 1048576) : go (k + 7) spec_StateOk [(.agg [(.int .i64 (a0)), (.arr false (a1z) (.r3 (a1))), (.arr false (a2z) (.ints .i64 (a2))), (.arr false (a3z) (.ints .i64 (a3))), (.arr false (a4z) (.ints .i64 (a4)))])] = some [.bool (stOk a0 a1 a2 a3 a4)] := by
  rw [qly]
  simp (disch := omega) only [qeq, bit, nI, qa9, nth0, qzt]
  unfold stOk
  cases qa4 a0 a1
  · rfl
  by_cases h1 : a2.length = a1.length
  case neg => simp (disch := omega) only [Bool.not_true, dF, Bool.not_false, qhl, qhj, Bool.false_and, Bool.and_false]
  by_cases h2 : a3.length = a1.length
  case neg => simp (disch := omega) only [Bool.not_true, dT, dF, Bool.not_false, qhl, qhj, Bool.false_and, Bool.and_false]
  by_cases h3 : (a4.length : Int) = a0
  case neg => simp (disch := omega) only [Bool.not_true, dT, dF, Bool.not_false, qhl, qhj, Bool.false_and, Bool.and_false]
  simp (disch := omega) only [Bool.not_true, dT, qhj, Bool.true_and]
  refine Eq.trans (qso k hk [] a0 a1z a2z a3z a4z a1 a2 a3 a4 (by omega) (by omega) _ 0 (by omega) (by omega)) ?_
  simp only [List.drop_zero]
  cases h4 : qtb a2 a3
  · rfl
  · have hx := (qtd a2 a3 (by omega) h4).1
    have e := qsp k hk [] a0 a1z a2z a3z a4z a1 a2 a3 a4 (by omega) hb hx (k + 6) 0 (by omega) (by omega)
    simp only [List.drop_zero] at e
    simp only [qhl, Bool.true_and, dT (h1), dT (h2), dT (h3), decide_true]
    exact e
theorem qdb (k : Nat) (hk : 2000000 ≤ k) (a : Int) : go (k + 2) impl_isBed [(.int .i64 (a))] = some [.bool (inR a 0 1000000)] := by
  rw [qkd]; simp (disch := omega) only [qdy, bit, qa9, nth0, qzt]
theorem qda (k : Nat) (hk : 2000000 ≤ k) (a : Int) : go (k + 3) impl_State_hasCells_1 [(.int .i64 (a))] = some [.bool (!inR a 0 1000000)] := by
  rw [qjm]; simp (disch := omega) only [qdb, bit, qa9, nth0, qzt]
theorem qrz (k : Nat) (hk : 2000000 ≤ k) (fu : List (Nat × Nat)) (z : Bool) (l : List Int) (hl : (l.length : Int) ≤ 1048576) : ∀ (n i : Nat), i ≤ l.length → l.length - i < n →
    ∃ j : Int, lp (k + 3) slices_IndexFunc_int_int [] fu 2 (n) (qwy (l.length : Int) (i : Int) z l) = some [.int .i64 j] ∧ decide (0 ≤ j) = !qa6 (l.drop i)
  | 0, i, hi, hn => by omega
  | n + 1, i, hi, hn => by
    rw [qpo]
    by_cases h : i < l.length
    · rw [qh2 h 0]
      obtain ⟨j, e1, e2⟩ := qrz k hk fu z l hl n (i + 1) (by omega) (by omega)
      simp (disch := omega) only [dT, nI, Bool.and_true, Int.toNat_natCast, qda, bit, qgp, q0l, e1, qa9, nth0, qzt, qhl, qa6]
      cases inR (l.getD i 0) 0 1000000
      · exact ⟨i, rfl, by rw [dT (by omega)]; rfl⟩
      · exact ⟨j, rfl, by rw [e2]; rfl⟩
    · rw [List.drop_of_length_le (by omega)]
      simp (disch := omega) only [dF, dT, nI, Bool.and_false, Int.toNat_natCast, bit, qgp, q0l, qhj, qa6, Bool.not_true]
      exact ⟨-1, rfl, rfl⟩
theorem qbj (k : Nat) (hk : 2000000 ≤ k) (z : Bool) (l : List Int) (hl : (l.length : Int) ≤ 1048576) : go (k + 5) slices_ContainsFunc_int_int [.arr false z (.ints .i64 l), .fn impl_State_hasCells_1 []] = some [.bool (!qa6 l)] := by
  rw [qkv, qkz]
  obtain ⟨j, e1, e2⟩ := qrz k hk [] z l hl (k + 3) 0 (by omega) (by omega)
  have e1' := e1
  simp only [nI] at *
  rw [show ((0 : Nat) : Int) = 0 from rfl] at e1'
  rw [e1']
  simp (disch := omega) only [qa9, nth0, qzu]
  rw [show decide ((0 : Int) ≤ j) = !qa6 l from e2]
theorem qra (k : Nat) (hk : 2000000 ≤ k) (fu : List (Nat × Nat)) (r : Int) (z1 z2 z3 z4 : Bool) (l : List Cell) (m t b : List Int) (hm : (m.length : Int) ≤ 1048576) (ht : t.length = m.length) (s : List D)
    (hs : qtb m t = true → go (k + 5) impl_sum [.arr false z2 (.ints .i64 m)] = some [.int .i64 (isum m)]) (P : Bool) : ∀ (n i : Nat), i ≤ m.length → m.length - i < n → (qtb (m.drop i) (t.drop i) = true → qtb m t = true) →
    lp (k + 5) impl_State_hasCells [] fu 5 (n) (qwd (m.length : Int) (i : Int) z1 l z2 m z3 t z4 b r) = some [.bool (qtb (m.drop i) (t.drop i) && decide (isum m ≤ 10000000))]
  | 0, i, hi, hn, hq => by omega
  | n + 1, i, hi, hn, hq => by
    rw [qo3]
    by_cases h : i < m.length
    · rw [qh2 h 0, qh2 (l := t) (by omega : i < t.length) 0] at hq ⊢
      by_cases h1 : inR (m.getD i 0) 0 10000000 = true
      · have h2 := qn9.1 h1
        by_cases h3 : inR (t.getD i 0) 0 (1000 * m.getD i 0) = true
        · have e := qra k hk fu r z1 z2 z3 z4 l m t b hm ht s hs P n (i + 1) (by omega) (by omega) (fun hh => hq (by simp only [qtb, h1, h3, hh, Bool.and_self]))
          simp (disch := omega) only [dT, nI, Bool.and_true, Int.toNat_natCast, qdy, h1, bit, q0l, h3, qgp, e, qa9, nth0, qzt, Bool.not_true, qhj, qhl, qtb, Bool.true_and]
        · have h3 : inR (t.getD i 0) 0 (1000 * m.getD i 0) = false := by simpa using h3
          simp (disch := omega) only [dT, nI, Bool.and_true, Int.toNat_natCast, qdy, h1, bit, q0l, h3, qgp, qa9, nth0, qzt, Bool.not_false, qhl, Bool.not_true, qhj, qtb, Bool.false_and, Bool.and_false]
      · have h1 : inR (m.getD i 0) 0 10000000 = false := by simpa using h1
        simp (disch := omega) only [dT, nI, Bool.and_true, Int.toNat_natCast, qdy, h1, bit, qgp, q0l, qa9, nth0, qzt, qhl, Bool.not_false, qtb, Bool.false_and]
    · rw [List.drop_of_length_le (by omega), List.drop_of_length_le (by omega)] at hq ⊢
      have e := hs (hq rfl)
      simp (disch := omega) only [dF, dT, nI, Bool.and_false, Int.toNat_natCast, bit, qgp, q0l, qhj, e, qa9, nth0, qzu, qtb, Bool.true_and]
theorem qc9 (k : Nat) (hk : 2000000 ≤ k) (a0 : Int) (a1z : Bool) (a1 : List (Int × Int × Int)) (a2z : Bool) (a2 : List Int) (a3z : Bool) (a3 : List Int) (a4z : Bool) (a4 : List Int) (hl : (a1.length : Int) ≤ 1048576) (hb : (a4.length : Int) ≤ 1048576) : go (k + 6) impl_State_hasCells [(.agg [(.int .i64 (a0)), (.arr false (a1z) (.r3 (a1))), (.arr false (a2z) (.ints .i64 (a2))), (.arr false (a3z) (.ints .i64 (a3))), (.arr false (a4z) (.ints .i64 (a4)))])] = some [.bool (decide (a2.length = a1.length) && (decide (a3.length = a1.length) && (decide ((a4.length : Int) = a0) && (qtb a2 a3 && (qa6 a4 && decide (isum a2 ≤ 10000000))))))] := by
  rw [qjl]
  by_cases h1 : a2.length = a1.length
  case neg => simp (disch := omega) only [nI, dF, Bool.not_false, bit, qhl, Bool.false_and]
  by_cases h2 : a3.length = a1.length
  case neg => simp (disch := omega) only [nI, dT, Bool.not_true, dF, Bool.not_false, bit, qhl, qhj, Bool.false_and, Bool.and_false]
  by_cases h3 : (a4.length : Int) = a0
  case neg => simp (disch := omega) only [nI, dT, Bool.not_true, dF, Bool.not_false, bit, qhl, qhj, Bool.false_and, Bool.and_false]
  simp (disch := omega) only [nI, dT, Bool.not_true, qbj, bit, qa9, nth0, qzt, qhj, Bool.true_and]
  cases h5 : qa6 a4
  · cases qtb a2 a3 <;> rfl
  have e := qra k hk [] a0 a1z a2z a3z a4z a1 a2 a3 a4 (by omega) (by omega) [] (fun hm => by
    have hx := (qtd a2 a3 (by omega) hm).1
    exact qdu _ (by omega) _ _ (by omega) (fun x hh => by have := hx x hh; omega)) true (k + 5) 0 (by omega) (by omega) (fun h => h)
  simp only [List.drop_zero] at e
  simp only [Bool.not_true, qhj, Bool.true_and]
  exact e
theorem qck (k : Nat) (hk : 2000000 ≤ k) (a0 : Int) (a1z : Bool) (a1 : List (Int × Int × Int)) (a2z : Bool) (a2 : List Int) (a3z : Bool) (a3 : List Int) (a4z : Bool) (a4 : List Int) (hl : (a1.length : Int) ≤ 1048576) (hb : (a4.length : Int) ≤ 1048576) : go (k + 8) impl_StateOk [(.agg [(.int .i64 (a0)), (.arr false (a1z) (.r3 (a1))), (.arr false (a2z) (.ints .i64 (a2))), (.arr false (a3z) (.ints .i64 (a3))), (.arr false (a4z) (.ints .i64 (a4)))])] = some [.bool (stOk a0 a1 a2 a3 a4)] := by
  rw [qje]
  simp (disch := omega) only [qb1, bit, qc9, qa9, nth0, qzt]
  unfold stOk
  cases qa4 a0 a1 <;> rfl
end Go.Proofs.YtoldpdhhfmlckaaGreat
end
section
namespace Go.Proofs.YtoldpdhhfmlckaaGreat
open Go.Ev
theorem qjy (k : Nat) (a0 : Int) (a1z : Bool) (a1 : List (Int × Int × Int)) (a2z : Bool) (a2 : List Int) (a3z : Bool) (a3 : List Int) (a4z : Bool) (a4 : List Int) (b : Int) : go (k + 1) impl_State_surface [(.agg [(.int .i64 (a0)), (.arr false (a1z) (.r3 (a1))), (.arr false (a2z) (.ints .i64 (a2))), (.arr false (a3z) (.ints .i64 (a3))), (.arr false (a4z) (.ints .i64 (a4)))]), (.int .i64 (b))] =
 cond (decide ((0 : Int) ≤ b) && decide (b < nI (List.length a1)))
 (cond (decide ((0 : Int) ≤ Prod.fst (List.getD a1 (Int.toNat b) zz3)) && decide (Prod.fst (List.getD a1 (Int.toNat b) zz3) < nI (List.length a4)))
 (cond (decide ((0 : Int) ≤ b) && decide (b < nI (List.length a2)))
 (cond (decide ((0 : Int) ≤ Prod.fst (Prod.snd (List.getD a1 (Int.toNat b) zz3))))
 (some [(.int .i64 (IntKind.wrap .i64 (List.getD a4 (Int.toNat (Prod.fst (List.getD a1 (Int.toNat b) zz3))) (0 : Int) + IntKind.wrap .i64 (List.getD a2 (Int.toNat b) (0 : Int) * (2 : Int) ^ shiftN .i64 (Prod.fst (Prod.snd (List.getD a1 (Int.toNat b) zz3)))))))])
 (none))
 (none))
 (none))
 (none) := by kernel_rfl
end Go.Proofs.YtoldpdhhfmlckaaGreat
end
section
namespace Go.Proofs.YtoldpdhhfmlckaaGreat
open Go.Ev
theorem q0e {l : Int} (h : inR l 0 4 = true) : 1 ≤ q0d l ∧ q0d l ≤ 16 := by
  rcases lev h with rfl | rfl | rfl | rfl | rfl <;> decide
theorem q0c {x : Cell} (h : idOk x.1 x.2.1 x.2.2 = true) : qyv x.1 x.2.1 x.2.2 = x.1 * 16 + x.2.2 * q0d x.2.1 ∧ 0 ≤ x.2.2 * q0d x.2.1 ∧ 1 ≤ q0d x.2.1 := by
  have := qn7 h
  exact ⟨by simp [qyv, h], (iw h).1, (q0e this.2.2.1).1⟩
theorem qtq : ∀ (l : List Cell) (r p : Int), qtl r p l = true → 1 ≤ r ∧ r ≤ 8 ∧ p + l.length ≤ 16 * r ∧ (∀ i, i < l.length → 0 ≤ (l.getD i zz3).1 ∧ (l.getD i zz3).1 < r ∧ idOk (l.getD i zz3).1 (l.getD i zz3).2.1 (l.getD i zz3).2.2 = true) ∧ (l = [] → p = 16 * r)
  | [], r, p, h => by
    simp only [qtl, Bool.and_eq_true, qn9, decide_eq_true_eq] at h
    simp; omega
  | x :: l, r, p, h => by
    simp only [qtl, Bool.and_eq_true, decide_eq_true_eq] at h
    obtain ⟨h1, h2, h3⟩ := h
    have w := q0c h1
    have ih := qtq l r _ h3
    have ds := qn7 h1
    refine ⟨ih.1, ih.2.1, by simp only [List.length_cons]; omega, fun i hi => ?_, by simp⟩
    cases i with
    | zero => simp only [List.getD_cons_zero]; refine ⟨by omega, by omega, h1⟩
    | succ i => simp only [List.getD_cons_succ]; exact ih.2.2.2.1 i (by simpa using hi)
theorem qtr {l : List Cell} {r : Int} (h : qtl r 0 l = true) : 1 ≤ l.length ∧ l.length ≤ 128 := by
  have f := qtq l r 0 h
  cases l with
  | nil => have := f.2.2.2.2 rfl; omega
  | cons x l => simp only [List.length_cons] at f ⊢; omega
structure StF (r : Int) (l : List Cell) (m t b : List Int) : Prop where
  mesh : qtl r 0 l = true
  bal : unb l < 0
  ml : m.length = l.length
  tl : t.length = l.length
  bl : (b.length : Int) = r
  mt : qtb m t = true
  bed : qa6 b = true
  sum : isum m ≤ 10000000
theorem stF {r : Int} {l : List Cell} {m t b : List Int} : stOk r l m t b = true ↔ StF r l m t b := by
  unfold stOk qa4
  simp only [Bool.and_eq_true, decide_eq_true_eq]
  exact ⟨fun h => ⟨h.1.1, h.1.2, h.2.1, h.2.2.1, h.2.2.2.1, h.2.2.2.2.1, h.2.2.2.2.2.1, h.2.2.2.2.2.2⟩, fun h => ⟨⟨h.mesh, h.bal⟩, h.ml, h.tl, h.bl, h.mt, h.bed, h.sum⟩⟩
theorem shp {l : Int} (h : inR l 0 4 = true) : (2 : Int) ^ shiftN .i64 l = pow2 l := by
  rcases lev h with rfl | rfl | rfl | rfl | rfl <;> simp [sh0, sh1, sh2, sh3, sh4, p20, p21, p22, p23, p24]
theorem mulp {m l : Int} (h : inR l 0 4 = true) (h0 : 0 ≤ m) : m ≤ m * pow2 l ∧ m * pow2 l ≤ 16 * m := by
  rcases lev h with rfl | rfl | rfl | rfl | rfl <;> simp only [p20, p21, p22, p23, p24] <;> omega
section
variable {r : Int} {l : List Cell} {m t b : List Int}
theorem StF.len (F : StF r l m t b) : 1 ≤ l.length ∧ l.length ≤ 128 := qtr F.mesh
theorem StF.rr (F : StF r l m t b) : 1 ≤ r ∧ r ≤ 8 := ⟨(qtq l r 0 F.mesh).1, (qtq l r 0 F.mesh).2.1⟩
theorem StF.lev (F : StF r l m t b) (i : Nat) : inR (l.getD i zz3).2.1 0 4 = true := by
  have := qts l r 0 F.mesh i
  simp only [qqx] at this
  rw [qn9]; exact this
theorem StF.root (F : StF r l m t b) {i : Nat} (h : i < l.length) : 0 ≤ (l.getD i zz3).1 ∧ (l.getD i zz3).1 < r := ⟨((qtq l r 0 F.mesh).2.2.2.1 i h).1, ((qtq l r 0 F.mesh).2.2.2.1 i h).2.1⟩
theorem StF.at (F : StF r l m t b) (i : Nat) : 0 ≤ m.getD i 0 ∧ m.getD i 0 ≤ 10000000 ∧ 0 ≤ t.getD i 0 ∧ t.getD i 0 ≤ 1000 * m.getD i 0 := qtc m t (by rw [F.ml, F.tl]) F.mt i
theorem StF.bedAt (F : StF r l m t b) (i : Nat) : 0 ≤ b.getD i 0 ∧ b.getD i 0 ≤ 1000000 := by
  by_cases h : i < b.length
  · exact qa7 b F.bed _ (qnw h 0)
  · rw [qnv (by omega)]; omega
theorem StF.mmem (F : StF r l m t b) : ∀ x ∈ m, 0 ≤ x ∧ x ≤ 1000000000000 := fun x hx => by have := (qtd m t (by rw [F.ml, F.tl]) F.mt).1 x hx; omega
theorem StF.tmem (F : StF r l m t b) : ∀ x ∈ t, 0 ≤ x ∧ x ≤ 1000000000000 := fun x hx => by have := (qtd m t (by rw [F.ml, F.tl]) F.mt).2 x hx; omega
theorem StF.msum (F : StF r l m t b) : 0 ≤ isum m ∧ isum m ≤ 10000000 := ⟨(qoh m F.mmem).1, F.sum⟩
theorem StF.tsum (F : StF r l m t b) : 0 ≤ isum t ∧ isum t ≤ 128000000000000 := by
  have h := qoh t F.tmem
  have := F.len; have := F.tl
  refine ⟨h.1, ?_⟩
  have : (t.length : Int) ≤ 128 := by omega
  calc isum t ≤ 1000000000000 * (t.length : Int) := h.2
    _ ≤ 1000000000000 * 128 := Int.mul_le_mul_of_nonneg_left this (by omega)
end
def surf (l : List Cell) (m b : List Int) (i : Nat) : Int := b.getD (l.getD i zz3).1.toNat 0 + m.getD i 0 * pow2 (l.getD i zz3).2.1
theorem qza {r : Int} {l : List Cell} {m t b : List Int} (F : StF r l m t b) (i : Nat) : 0 ≤ surf l m b i ∧ surf l m b i ≤ 161000000 := by
  have h1 := F.bedAt (l.getD i zz3).1.toNat
  have h2 := F.at i
  have h3 := mulp (F.lev i) h2.1
  unfold surf; omega
theorem qdv (k : Nat) (hk : 2000000 ≤ k) (r : Int) (z1 z2 z3 z4 : Bool) (l : List Cell) (m t b : List Int) (F : StF r l m t b) (i : Nat) (hi : i < l.length) :
    go (k + 1) impl_State_surface [.agg [.int .i64 r, .arr false z1 (.r3 l), .arr false z2 (.ints .i64 m), .arr false z3 (.ints .i64 t), .arr false z4 (.ints .i64 b)], .int .i64 (i : Int)] = some [.int .i64 (surf l m b i)] := by
  rw [qjy]
  have h1 := F.root hi; have h2 := F.ml; have h3 := F.bl; have h4 := F.lev i; have h5 := lev0 h4; have h6 := F.at i; have h7 := qza F i; have h8 := mulp h4 h6.1; have h9 := F.len
  unfold surf at h7 ⊢
  simp (disch := omega) only [dT, nI, Bool.and_true, Int.toNat_natCast, shp h4, q0l, qhl]
def gap (a b : Int) : Int := if b < a then a - b else b - a
end Go.Proofs.YtoldpdhhfmlckaaGreat
end
section
namespace Go.Proofs.YtoldpdhhfmlckaaGreat
open Go.Ev
def qoc (t lv : Int) : Bool := inR lv 0 4 && (decide (0 ≤ t) && decide (Int.tmod t (q0d lv) = 0))
theorem q0h {l : Int} (h : inR l 0 4 = true) : 0 < q0d l := by
  rcases lev h with rfl | rfl | rfl | rfl | rfl <;> decide
theorem qb0 (k : Nat) (hk : 2000000 ≤ k) (a : Int) (b : Int) : go (k + 4) impl_IsActive [(.int .i64 (a)), (.int .i64 (b))] = some [.bool (qoc a b)] := by
  rw [qil]
  simp (disch := omega) only [qdc, bit, qcp, qa9, nth0, qzu, qzt]
  unfold qoc
  cases h : inR b 0 4
  · simp
  · have := q0h h
    simp (disch := omega) only [dF, Bool.not_false, qhl, Bool.true_and]
    cases decide ((0 : Int) ≤ a) <;> simp
def qnh (l : List Cell) (i : Nat) : Int := max (qqx l (i + 1)) (qqx l i)
theorem qc6 (k : Nat) (hk : 2000000 ≤ k) (a0 : Int) (a1z : Bool) (a1 : List Cell) (i : Nat) (hi : i + 1 < a1.length) (hl : (a1.length : Int) ≤ 1048576) : go (k + 1) impl_Mesh_faceLevel [.agg [.int .i64 a0, .arr false a1z (.r3 a1)], .int .i64 (i : Int)] = some [.int .i64 (qnh a1 i)] := by
  rw [qiw]
  simp (disch := omega) only [dT, nI, Bool.and_true, qgp, q0l, Int.toNat_natCast, imax, qhl]
  rfl
def qao (t : Int) (l : List Cell) (i : Nat) : Bool := decide (i + 1 < l.length) && qoc t (qnh l i)
end Go.Proofs.YtoldpdhhfmlckaaGreat
end
section
namespace Go.Proofs.YtoldpdhhfmlckaaGreat
open Go.Ev
theorem qfl (k : Nat) (hk : 2000000 ≤ k) (a0 : Int) (a1z : Bool) (a1 : List (Int × Int × Int)) (h1 : (a1.length : Int) ≤ 1048576) : go (k + 1) spec_l04Copy [(.agg [(.int .i64 (a0)), (.arr false (a1z) (.r3 (a1)))])] = some [.agg [.int .i64 a0, .arr true false (.r3 a1)]] := by
  rw [ql7]
  simp (disch := omega) only [qt2, big0, dT, Bool.false_and, qhl]
theorem qfw (k : Nat) (hk : 2000000 ≤ k) (a0 : Int) (a1z : Bool) (a1 : List (Int × Int × Int)) (a2z : Bool) (a2 : List Int) (a3z : Bool) (a3 : List Int) (a4z : Bool) (a4 : List Int) (h1 : (a1.length : Int) ≤ 1048576) (h2 : (a2.length : Int) ≤ 1048576) (h3 : (a3.length : Int) ≤ 1048576) (h4 : (a4.length : Int) ≤ 1048576) : go (k + 2) spec_l07Copy [(.agg [(.int .i64 (a0)), (.arr false (a1z) (.r3 (a1))), (.arr false (a2z) (.ints .i64 (a2))), (.arr false (a3z) (.ints .i64 (a3))), (.arr false (a4z) (.ints .i64 (a4)))])] = some [.agg [.int .i64 a0, .arr true false (.r3 a1), .arr true false (.ints .i64 a2), .arr true false (.ints .i64 a3), .arr true false (.ints .i64 a4)]] := by
  rw [qmi]
  simp (disch := omega) only [qfl, qt2, big0, dT, Bool.false_and, qhl, qa9, nth0, qgr, qzu, qgs, qt3, quv]
theorem qd4 (k : Nat) (hk : 2000000 ≤ k) (a : List Int) (hl : (a.length : Int) ≤ 1048576) : go (k + 1) slices_Clone_int_int [.arr false false (.ints .i64 a)] = some [.arr true false (.ints .i64 a)] := by
  rw [qku]
  simp (disch := omega) only [qt2, big0, dT, Bool.false_and, qhl, qhj]
theorem qd3 (k : Nat) (hk : 2000000 ≤ k) (a : List Cell) (hl : (a.length : Int) ≤ 1048576) : go (k + 1) slices_Clone_impl_Id_impl_Id [.arr false false (.r3 a)] = some [.arr true false (.r3 a)] := by
  rw [qkt]
  simp (disch := omega) only [qt2, big0, dT, Bool.false_and, qhl, qhj]
theorem qcz (k : Nat) (hk : 2000000 ≤ k) (a0 : Int) (a1 : List Cell) (h1 : (a1.length : Int) ≤ 1048576) : go (k + 2) impl_copyMesh [.agg [.int .i64 a0, .arr false false (.r3 a1)]] = some [.agg [.int .i64 a0, .arr true false (.r3 a1)]] := by
  rw [qj8]
  simp (disch := omega) only [qd3, qa9, nth0, qt3, quv]
theorem qc0 (k : Nat) (hk : 2000000 ≤ k) (a0 : Int) (a1 : List Cell) (a2 a3 a4 : List Int) (h1 : (a1.length : Int) ≤ 1048576) (h2 : (a2.length : Int) ≤ 1048576) (h3 : (a3.length : Int) ≤ 1048576) (h4 : (a4.length : Int) ≤ 1048576) :
    go (k + 3) impl_copyState [.agg [.int .i64 a0, .arr false false (.r3 a1), .arr false false (.ints .i64 a2), .arr false false (.ints .i64 a3), .arr false false (.ints .i64 a4)]] = some [.agg [.int .i64 a0, .arr true false (.r3 a1), .arr true false (.ints .i64 a2), .arr true false (.ints .i64 a3), .arr true false (.ints .i64 a4)]] := by
  rw [qj9]
  simp (disch := omega) only [qcz, qd4, qa9, nth0, qt3, qob, qgr, qzu, qgs, quv]
end Go.Proofs.YtoldpdhhfmlckaaGreat
end
section
namespace Go.Proofs.YtoldpdhhfmlckaaGreat
open Go.Ev
theorem qk3 (k : Nat) (a0 a1 a2 : Int) : go (k + 1) spec_BorderOk [(.agg [(.int .i64 (a0)), (.int .i64 (a1)), (.int .i64 (a2))])] =
 (go k spec_l01In [(.int .i64 (a0)), (.int .i64 (0 : Int)), (.int .i64 ((10000 : Int)))]).bind fun r0 =>
 cond (bit (nth r0 0))
 ((go k spec_l01In [(.int .i64 (a1)), (.int .i64 (0 : Int)), (.int .i64 ((1000 : Int)))]).bind fun r1 =>
 cond (bit (nth r1 0))
 ((go k spec_l01In [(.int .i64 (a2)), (.int .i64 (0 : Int)), (.int .i64 ((250 : Int)))]).bind fun r2 =>
 some [(.bool (bit (nth r2 0)))])
 (some [(.bool (false))]))
 (some [(.bool (false))]) := by kernel_rfl
theorem qia (k : Nat) (a0 a1 a2 : Int) : go (k + 1) impl_BorderOk [(.agg [(.int .i64 (a0)), (.int .i64 (a1)), (.int .i64 (a2))])] =
 (go k impl_within [(.int .i64 (a0)), (.int .i64 (0 : Int)), (.int .i64 ((10000 : Int)))]).bind fun r0 =>
 cond (bit (nth r0 0))
 ((go k impl_within [(.int .i64 (a1)), (.int .i64 (0 : Int)), (.int .i64 ((1000 : Int)))]).bind fun r1 =>
 cond (bit (nth r1 0))
 ((go k impl_within [(.int .i64 (a2)), (.int .i64 (0 : Int)), (.int .i64 ((250 : Int)))]).bind fun r2 =>
 some [(.bool (bit (nth r2 0)))])
 (some [(.bool (false))]))
 (some [(.bool (false))]) := by kernel_rfl
theorem qkf (k : Nat) (a : Int) : go (k + 1) impl_isRain [(.int .i64 (a))] =
 (go k impl_within [(.int .i64 (a)), (.int .i64 (0 : Int)), (.int .i64 ((10000 : Int)))]).bind fun r0 =>
 some [(.bool (bit (nth r0 0)))] := by kernel_rfl
theorem qkg (k : Nat) (a : Int) : go (k + 1) impl_isRate [(.int .i64 (a))] =
 (go k impl_within [(.int .i64 (a)), (.int .i64 (0 : Int)), (.int .i64 ((1000 : Int)))]).bind fun r0 =>
 some [(.bool (bit (nth r0 0)))] := by kernel_rfl
theorem qlo (k : Nat) (a0 a1 a2 a3 a4 a5 a6 a7 a8 : Int) : go (k + 1) spec_PlanOk [(.agg [(.int .i64 (a0)), (.int .i64 (a1)), (.int .i64 (a2)), (.int .i64 (a3)), (.int .i64 (a4)), (.int .i64 (a5)), (.int .i64 (a6)), (.int .i64 (a7)), (.int .i64 (a8))])] =
 (go k spec_BorderOk [(.agg [(.int .i64 (a0)), (.int .i64 (a1)), (.int .i64 (a2))])]).bind fun r0 =>
 cond (bit (nth r0 0))
 ((go k spec_l01In [(.int .i64 (a3)), (.int .i64 (0 : Int)), (.int .i64 ((10000 : Int)))]).bind fun r1 =>
 cond (bit (nth r1 0))
 ((go k spec_l01In [(.int .i64 (a4)), (.int .i64 (0 : Int)), (.int .i64 ((10000 : Int)))]).bind fun r2 =>
 cond (bit (nth r2 0))
 ((go k spec_l01In [(.int .i64 (a5)), (.int .i64 (0 : Int)), (.int .i64 ((1000 : Int)))]).bind fun r3 =>
 cond (bit (nth r3 0))
 ((go k spec_l01In [(.int .i64 (a6)), (.int .i64 (0 : Int)), (.int .i64 ((1000000 : Int)))]).bind fun r4 =>
 cond (bit (nth r4 0))
 ((go k spec_l01In [(.int .i64 (a7)), (.int .i64 (0 : Int)), (.int .i64 ((1000000 : Int)))]).bind fun r5 =>
 cond (bit (nth r5 0))
 ((go k spec_l01In [(.int .i64 (a8)), (.int .i64 (0 : Int)), (.int .i64 ((100 : Int)))]).bind fun r6 =>
 some [(.bool (bit (nth r6 0)))])
 (some [(.bool (false))]))
 (some [(.bool (false))]))
 (some [(.bool (false))]))
 (some [(.bool (false))]))
 (some [(.bool (false))]))
 (some [(.bool (false))]) := by kernel_rfl
theorem qi5 (k : Nat) (a0 a1 a2 a3 a4 a5 a6 a7 a8 : Int) : go (k + 1) impl_PlanOk [(.agg [(.int .i64 (a0)), (.int .i64 (a1)), (.int .i64 (a2)), (.int .i64 (a3)), (.int .i64 (a4)), (.int .i64 (a5)), (.int .i64 (a6)), (.int .i64 (a7)), (.int .i64 (a8))])] =
 (go k impl_BorderOk [(.agg [(.int .i64 (a0)), (.int .i64 (a1)), (.int .i64 (a2))])]).bind fun r0 =>
 cond (bit (nth r0 0))
 ((go k impl_isRain [(.int .i64 (a3))]).bind fun r1 =>
 cond (bit (nth r1 0))
 ((go k impl_isRain [(.int .i64 (a4))]).bind fun r2 =>
 cond (bit (nth r2 0))
 ((go k impl_isRate [(.int .i64 (a5))]).bind fun r3 =>
 cond (bit (nth r3 0))
 ((go k impl_within [(.int .i64 (a6)), (.int .i64 (0 : Int)), (.int .i64 ((1000000 : Int)))]).bind fun r4 =>
 cond (bit (nth r4 0))
 ((go k impl_within [(.int .i64 (a7)), (.int .i64 (0 : Int)), (.int .i64 ((1000000 : Int)))]).bind fun r5 =>
 cond (bit (nth r5 0))
 ((go k impl_within [(.int .i64 (a8)), (.int .i64 (0 : Int)), (.int .i64 ((100 : Int)))]).bind fun r6 =>
 some [(.bool (bit (nth r6 0)))])
 (some [(.bool (false))]))
 (some [(.bool (false))]))
 (some [(.bool (false))]))
 (some [(.bool (false))]))
 (some [(.bool (false))]))
 (some [(.bool (false))]) := by kernel_rfl
end Go.Proofs.YtoldpdhhfmlckaaGreat
end
section
namespace Go.Proofs.YtoldpdhhfmlckaaGreat
open Go.Ev
def qbf (a b c : Int) : Bool := inR a 0 10000 && (inR b 0 1000 && inR c 0 250)
theorem qec (k : Nat) (hk : 2000000 ≤ k) (a0 : Int) (a1 : Int) (a2 : Int) : go (k + 2) spec_BorderOk [(.agg [(.int .i64 (a0)), (.int .i64 (a1)), (.int .i64 (a2))])] = some [.bool (qbf a0 a1 a2)] := by
  rw [qk3]
  simp (disch := omega) only [qfj, bit, qa9, nth0, qzt, qhn]
  rfl
theorem qbo (k : Nat) (hk : 2000000 ≤ k) (a0 : Int) (a1 : Int) (a2 : Int) : go (k + 2) impl_BorderOk [(.agg [(.int .i64 (a0)), (.int .i64 (a1)), (.int .i64 (a2))])] = some [.bool (qbf a0 a1 a2)] := by
  rw [qia]
  simp (disch := omega) only [qdy, bit, qa9, nth0, qzt, qhn]
  rfl
theorem qdd (k : Nat) (hk : 2000000 ≤ k) (a : Int) : go (k + 2) impl_isRain [(.int .i64 (a))] = some [.bool (inR a 0 10000)] := by
  rw [qkf]
  simp (disch := omega) only [qdy, bit, qa9, nth0, qzt]
theorem qde (k : Nat) (hk : 2000000 ≤ k) (a : Int) : go (k + 2) impl_isRate [(.int .i64 (a))] = some [.bool (inR a 0 1000)] := by
  rw [qkg]
  simp (disch := omega) only [qdy, bit, qa9, nth0, qzt]
def quq (a0 a1 a2 a3 a4 a5 a6 a7 a8 : Int) : Bool := qbf a0 a1 a2 && (inR a3 0 10000 && (inR a4 0 10000 && (inR a5 0 1000 && (inR a6 0 1000000 && (inR a7 0 1000000 && inR a8 0 100)))))
theorem qew (k : Nat) (hk : 2000000 ≤ k) (a0 : Int) (a1 : Int) (a2 : Int) (a3 : Int) (a4 : Int) (a5 : Int) (a6 : Int) (a7 : Int) (a8 : Int) : go (k + 3) spec_PlanOk [(.agg [(.int .i64 (a0)), (.int .i64 (a1)), (.int .i64 (a2)), (.int .i64 (a3)), (.int .i64 (a4)), (.int .i64 (a5)), (.int .i64 (a6)), (.int .i64 (a7)), (.int .i64 (a8))])] = some [.bool (quq a0 a1 a2 a3 a4 a5 a6 a7 a8)] := by
  rw [qlo]
  simp (disch := omega) only [qec, bit, qfj, qa9, nth0, qzt, qhn]
  rfl
theorem qca (k : Nat) (hk : 2000000 ≤ k) (a0 : Int) (a1 : Int) (a2 : Int) (a3 : Int) (a4 : Int) (a5 : Int) (a6 : Int) (a7 : Int) (a8 : Int) : go (k + 3) impl_PlanOk [(.agg [(.int .i64 (a0)), (.int .i64 (a1)), (.int .i64 (a2)), (.int .i64 (a3)), (.int .i64 (a4)), (.int .i64 (a5)), (.int .i64 (a6)), (.int .i64 (a7)), (.int .i64 (a8))])] = some [.bool (quq a0 a1 a2 a3 a4 a5 a6 a7 a8)] := by
  rw [qi5]
  simp (disch := omega) only [qbo, bit, qdd, qde, qdy, qa9, nth0, qzt, qhn]
  rfl
end Go.Proofs.YtoldpdhhfmlckaaGreat
end
section
namespace Go.Proofs.YtoldpdhhfmlckaaGreat
open Go.Ev
def qqv (a b c d : Int) : Bool := inR a 0 1000000000000000 && (inR b 0 1000000000000000 && (inR c 0 1000000000000000 && inR d 0 1000000000000000))
def q0j (a0 : Int) (a1 : List Cell) (a2 a3 a4 : List Int) (b0 b1 b2 b3 b4 b5 b6 b7 b8 s c0 c1 c2 c3 f g : Int) : Bool :=
  stOk a0 a1 a2 a3 a4 && (quq b0 b1 b2 b3 b4 b5 b6 b7 b8 && (inR s 0 100000 && (qqv c0 c1 c2 c3 && (decide (isum a2 - c0 + c1 = f) && decide (isum a3 - c2 + c3 = g)))))
end Go.Proofs.YtoldpdhhfmlckaaGreat
end
section
namespace Go.Proofs.YtoldpdhhfmlckaaGreat
open Go.Ev
def okp : Int → List Cell → Bool
  | _, [] => true
  | p, x :: l => idOk x.1 x.2.1 x.2.2 && (decide (qyv x.1 x.2.1 x.2.2 = p) && okp (p + q0d x.2.1) l)
def endp : Int → List Cell → Int
  | p, [] => p
  | p, x :: l => endp (p + q0d x.2.1) l
theorem qtm : ∀ (l : List Cell) (r p : Int), qtl r p l = (okp p l && (inR r 1 8 && decide (endp p l = r * 16)))
  | [], r, p => rfl
  | x :: l, r, p => by
    simp only [qtl, okp, endp]
    by_cases h : qyv x.1 x.2.1 x.2.2 = p
    · rw [h, qtm l r]; simp only [Bool.and_assoc]; rfl
    · rw [dF h]; simp
theorem qtn {l : List Cell} {r p : Int} : qtl r p l = true ↔ okp p l = true ∧ (1 ≤ r ∧ r ≤ 8) ∧ endp p l = r * 16 := by
  rw [qtm]; simp only [Bool.and_eq_true, qn9, decide_eq_true_eq]
theorem qt8 {x : Cell} {l : List Cell} {p : Int} : okp p (x :: l) = true ↔ idOk x.1 x.2.1 x.2.2 = true ∧ qyv x.1 x.2.1 x.2.2 = p ∧ okp (p + q0d x.2.1) l = true := by
  simp only [okp, Bool.and_eq_true, decide_eq_true_eq]
theorem qng (x : Cell) (l : List Cell) (p : Int) : endp p (x :: l) = endp (p + q0d x.2.1) l := rfl
theorem qt7 : ∀ (a b : List Cell) (p : Int), okp p (a ++ b) = (okp p a && okp (endp p a) b)
  | [], b, p => by simp [okp, endp]
  | x :: a, b, p => by simp only [List.cons_append, okp, endp, qt7 a b, Bool.and_assoc]
theorem qnf : ∀ (a b : List Cell) (p : Int), endp p (a ++ b) = endp (endp p a) b
  | [], b, p => by simp [endp]
  | x :: a, b, p => by simp only [List.cons_append, endp, qnf a b]
theorem qz0 (l : List Cell) : ∀ n i, (qzz l n i < 0 ↔ ∀ j, i ≤ j → j < i + n → ¬ (1 < qqx l j - qqx l (j + 1) ∨ qqx l j - qqx l (j + 1) < -1)) ∧ (0 ≤ qzz l n i → ∃ j : Nat, qzz l n i = j ∧ i ≤ j ∧ j < i + n ∧ (1 < qqx l j - qqx l (j + 1) ∨ qqx l j - qqx l (j + 1) < -1))
  | 0, i => by refine ⟨⟨fun _ j h1 h2 => by omega, fun _ => by simp [qzz]⟩, fun h => by simp [qzz] at h⟩
  | n + 1, i => by
    have ih := qz0 l n (i + 1)
    unfold qzz
    by_cases g : 1 < qqx l i - qqx l (i + 1) ∨ qqx l i - qqx l (i + 1) < -1
    · rw [if_pos g]
      refine ⟨⟨fun h => by omega, fun h => absurd g (h i (Nat.le_refl _) (by omega))⟩, fun _ => ⟨i, rfl, Nat.le_refl _, by omega, g⟩⟩
    · rw [if_neg g]
      refine ⟨⟨fun h j h1 h2 => ?_, fun h => ih.1.2 fun j h1 h2 => h j (by omega) (by omega)⟩, fun h => ?_⟩
      · by_cases e : j = i
        · subst e; exact g
        · exact ih.1.1 h j (by omega) (by omega)
      · obtain ⟨j, e, h1, h2, h3⟩ := ih.2 h
        exact ⟨j, e, by omega, by omega, h3⟩
theorem qz2 (l : List Cell) : unb l < 0 ↔ ∀ j, j + 1 < l.length → -1 ≤ qqx l j - qqx l (j + 1) ∧ qqx l j - qqx l (j + 1) ≤ 1 := by
  unfold unb
  rw [(qz0 l _ _).1]
  refine ⟨fun h j hj => ?_, fun h j _ hj => ?_⟩
  · have := h j (by omega) (by omega); omega
  · have := h j (by omega); omega
theorem qz1 {l : List Cell} (h : 0 ≤ unb l) : ∃ j : Nat, unb l = j ∧ j + 1 < l.length ∧ (1 < qqx l j - qqx l (j + 1) ∨ qqx l j - qqx l (j + 1) < -1) := by
  unfold unb at *
  obtain ⟨j, e, h1, h2, h3⟩ := (qz0 l _ _).2 h
  exact ⟨j, e, by omega, h3⟩
end Go.Proofs.YtoldpdhhfmlckaaGreat
end
section
namespace Go.Proofs.YtoldpdhhfmlckaaGreat
open Go.Ev
theorem w0 : q0d 0 = 16 := by decide
theorem w1_ : q0d 1 = 8 := by decide
theorem w2_ : q0d 2 = 4 := by decide
theorem w3_ : q0d 3 = 2 := by decide
theorem w4_ : q0d 4 = 1 := by decide
theorem qn6 {r l i : Int} : idOk r l i = true ↔ (0 ≤ r ∧ r ≤ 7) ∧ (0 ≤ l ∧ l ≤ 4) ∧ 0 ≤ i ∧ i < pow2 l := by
  simp only [idOk, Bool.and_eq_true, qn9, decide_eq_true_eq]
theorem qyx {r l i : Int} (h : idOk r l i = true) : qyv r l i = r * 16 + i * q0d l := by simp [qyv, h]
abbrev ch0 (x : Cell) : Cell := (x.1, x.2.1 + 1, 2 * x.2.2)
abbrev ch1 (x : Cell) : Cell := (x.1, x.2.1 + 1, 2 * x.2.2 + 1)
theorem qhd {r l i : Int} (h : idOk r l i = true) (hl : l < 4) : idOk r (l + 1) (2 * i) = true ∧ idOk r (l + 1) (2 * i + 1) = true ∧ qyv r (l + 1) (2 * i) = qyv r l i ∧ qyv r (l + 1) (2 * i + 1) = qyv r l i + q0d (l + 1) ∧ q0d (l + 1) + q0d (l + 1) = q0d l := by
  have h' := qn6.1 h
  rcases lev (qn9.2 h'.2.1) with rfl | rfl | rfl | rfl | rfl
  · have p := h'.2.2; simp only [p20] at p
    have a : idOk r 1 (2 * i) = true := qn6.2 ⟨h'.1, by omega, by rw [p21]; omega⟩
    have b : idOk r 1 (2 * i + 1) = true := qn6.2 ⟨h'.1, by omega, by rw [p21]; omega⟩
    refine ⟨a, b, ?_, ?_, rfl⟩
    · show qyv r 1 (2 * i) = _; rw [qyx a, qyx h, w0, w1_]; omega
    · show qyv r 1 (2 * i + 1) = _ + q0d 1; rw [qyx b, qyx h, w0, w1_]; omega
  · have p := h'.2.2; simp only [p21] at p
    have a : idOk r 2 (2 * i) = true := qn6.2 ⟨h'.1, by omega, by rw [p22]; omega⟩
    have b : idOk r 2 (2 * i + 1) = true := qn6.2 ⟨h'.1, by omega, by rw [p22]; omega⟩
    refine ⟨a, b, ?_, ?_, rfl⟩
    · show qyv r 2 (2 * i) = _; rw [qyx a, qyx h, w1_, w2_]; omega
    · show qyv r 2 (2 * i + 1) = _ + q0d 2; rw [qyx b, qyx h, w1_, w2_]; omega
  · have p := h'.2.2; simp only [p22] at p
    have a : idOk r 3 (2 * i) = true := qn6.2 ⟨h'.1, by omega, by rw [p23]; omega⟩
    have b : idOk r 3 (2 * i + 1) = true := qn6.2 ⟨h'.1, by omega, by rw [p23]; omega⟩
    refine ⟨a, b, ?_, ?_, rfl⟩
    · show qyv r 3 (2 * i) = _; rw [qyx a, qyx h, w2_, w3_]; omega
    · show qyv r 3 (2 * i + 1) = _ + q0d 3; rw [qyx b, qyx h, w2_, w3_]; omega
  · have p := h'.2.2; simp only [p23] at p
    have a : idOk r 4 (2 * i) = true := qn6.2 ⟨h'.1, by omega, by rw [p24]; omega⟩
    have b : idOk r 4 (2 * i + 1) = true := qn6.2 ⟨h'.1, by omega, by rw [p24]; omega⟩
    refine ⟨a, b, ?_, ?_, rfl⟩
    · show qyv r 4 (2 * i) = _; rw [qyx a, qyx h, w3_, w4_]; omega
    · show qyv r 4 (2 * i + 1) = _ + q0d 4; rw [qyx b, qyx h, w3_, w4_]; omega
  · omega
def qym (l : List Cell) (i : Nat) : List Cell := l.take i ++ ch0 (l.getD i zz3) :: ch1 (l.getD i zz3) :: l.drop (i + 1)
theorem qyn {l : List Cell} {i : Nat} (h : i < l.length) : (qym l i).length = l.length + 1 := by
  simp only [qym, List.length_append, List.length_take, List.length_cons, List.length_drop]; omega
theorem qhv {α : Type} {l : List α} {i : Nat} (h : i < l.length) (d : α) : l = l.take i ++ l.getD i d :: l.drop (i + 1) := by
  rw [← qh2 h d, List.take_append_drop]
theorem qyp {l : List Cell} {r p : Int} {i : Nat} (h : qtl r p l = true) (hi : i < l.length) (hl : (l.getD i zz3).2.1 < 4) : qtl r p (qym l i) = true := by
  rw [qtn] at *
  have e := qhv hi zz3
  have h1 := h
  rw [e, qt7, qnf] at h1
  unfold qym
  rw [qt7, qnf]
  simp only [qt8, qng, Bool.and_eq_true] at h1 ⊢
  have c := qhd h1.1.2.1 hl
  refine ⟨⟨h1.1.1, c.1, ?_, c.2.1, ?_, ?_⟩, h1.2.1, ?_⟩
  · rw [c.2.2.1]; exact h1.1.2.2.1
  · rw [c.2.2.2.1, h1.1.2.2.1]
  · rw [Int.add_assoc, c.2.2.2.2]; exact h1.1.2.2.2
  · rw [Int.add_assoc, c.2.2.2.2]; exact h1.2.2
def qhg (l : List Cell) (i : Nat) : Nat := if qqx l (i + 1) < qqx l i then i + 1 else i
theorem qhh {l : List Cell} {r p : Int} {i : Nat} (h : qtl r p l = true) (hi : i + 1 < l.length) (hu : 1 < qqx l i - qqx l (i + 1) ∨ qqx l i - qqx l (i + 1) < -1) : qhg l i < l.length ∧ qqx l (qhg l i) < 4 := by
  have h1 := qts _ _ _ h i; have h2 := qts _ _ _ h (i + 1)
  unfold qhg
  by_cases g : qqx l (i + 1) < qqx l i
  · rw [if_pos g]; exact ⟨hi, by omega⟩
  · rw [if_neg g]; exact ⟨by omega, by omega⟩
def balN : Nat → List Cell → List Cell
  | 0, l => l
  | n + 1, l => if unb l < 0 then l else balN n (qym l (qhg l (unb l).toNat))
theorem qa3 : ∀ (n : Nat) (l : List Cell) (r : Int), qtl r 0 l = true → 129 ≤ n + l.length → qtl r 0 (balN n l) = true ∧ unb (balN n l) < 0
  | 0, l, r, h, hn => by have := qtr h; omega
  | n + 1, l, r, h, hn => by
    unfold balN
    by_cases g : unb l < 0
    · rw [if_pos g]; exact ⟨h, g⟩
    · rw [if_neg g]
      obtain ⟨j, e, h1, h2⟩ := qz1 (by omega : 0 ≤ unb l)
      have c := qhh h h1 h2
      rw [e, Int.toNat_natCast]
      exact qa3 n _ r (qyp h c.1 c.2) (by rw [qyn c.1]; omega)
def bal (l : List Cell) : List Cell := balN (129 - l.length) l
theorem qa5 {l : List Cell} {r : Int} (h : qtl r 0 l = true) : qtl r 0 (bal l) = true ∧ unb (bal l) < 0 := qa3 _ l r h (by have := qtr h; omega)
abbrev par (x : Cell) : Cell := (x.1, x.2.1 - 1, x.2.2 / 2)
def sib (a b : Cell) : Bool := idOk a.1 a.2.1 a.2.2 && (idOk b.1 b.2.1 b.2.2 && (decide (a.1 = b.1) && (decide (a.2.1 = b.2.1) && (decide (a.2.2 % 2 = 0) && decide (b.2.2 = a.2.2 + 1)))))
theorem qui {r l i : Int} (h : idOk r l i = true) (h' : idOk r l (i + 1) = true) (he : i % 2 = 0) : 1 ≤ l ∧ idOk r (l - 1) (i / 2) = true ∧ qyv r (l - 1) (i / 2) = qyv r l i ∧ qyv r l (i + 1) = qyv r l i + q0d l ∧ q0d l + q0d l = q0d (l - 1) := by
  have a := qn6.1 h; have b := qn6.1 h'
  have hl : 1 ≤ l := by
    rcases Int.lt_or_le l 1 with g | g
    · have : l = 0 := by omega
      subst this; rw [p20] at b; omega
    · exact g
  have q : l - 1 + 1 = l := by omega
  have hi : 2 * (i / 2) = i := by omega
  have p0 : idOk r (l - 1) (i / 2) = true := by
    rcases lev (qn9.2 a.2.1) with rfl | rfl | rfl | rfl | rfl
    · omega
    · rw [p21] at b; exact qn6.2 ⟨a.1, by omega, by rw [show (1 : Int) - 1 = 0 from rfl, p20]; omega⟩
    · rw [p22] at b; exact qn6.2 ⟨a.1, by omega, by rw [show (2 : Int) - 1 = 1 from rfl, p21]; omega⟩
    · rw [p23] at b; exact qn6.2 ⟨a.1, by omega, by rw [show (3 : Int) - 1 = 2 from rfl, p22]; omega⟩
    · rw [p24] at b; exact qn6.2 ⟨a.1, by omega, by rw [show (4 : Int) - 1 = 3 from rfl, p23]; omega⟩
  have c := qhd p0 (by omega)
  rw [q, hi] at c
  exact ⟨hl, p0, c.2.2.1.symm, by rw [c.2.2.2.1, c.2.2.1], c.2.2.2.2⟩
def qth (l : List Cell) (i : Nat) : List Cell := l.take i ++ par (l.getD i zz3) :: l.drop (i + 2)
theorem qti {l : List Cell} {i : Nat} (h : i + 1 < l.length) : (qth l i).length + 1 = l.length := by
  simp only [qth, List.length_append, List.length_take, List.length_cons, List.length_drop]; omega
theorem qtj {l : List Cell} {r p : Int} {i : Nat} (h : qtl r p l = true) (hi : i + 1 < l.length) (hs : sib (l.getD i zz3) (l.getD (i + 1) zz3) = true) : qtl r p (qth l i) = true := by
  rw [qtn] at *
  have e := qhv (by omega : i < l.length) zz3
  rw [qh2 hi zz3] at e
  have h1 := h
  rw [e, qt7, qnf] at h1
  unfold qth
  rw [qt7, qnf]
  simp only [sib, Bool.and_eq_true, decide_eq_true_eq] at hs
  simp only [qt8, qng, Bool.and_eq_true] at h1 ⊢
  obtain ⟨s1, s2, s3, s4, s5, s6⟩ := hs
  have s2' := s2
  rw [← s3, ← s4, s6] at s2'
  have c := qui s1 s2' s5
  have e2 : q0d (l.getD (i + 1) zz3).2.1 = q0d (l.getD i zz3).2.1 := by rw [s4]
  rw [e2] at h1
  refine ⟨⟨h1.1.1, c.2.1, ?_, ?_⟩, h1.2.1, ?_⟩
  · rw [c.2.2.1]; exact h1.1.2.2.1
  · rw [← c.2.2.2.2, ← Int.add_assoc]; exact h1.1.2.2.2.2.2
  · rw [← c.2.2.2.2, ← Int.add_assoc]; exact h1.2.2
end Go.Proofs.YtoldpdhhfmlckaaGreat
end
section
namespace Go.Proofs.YtoldpdhhfmlckaaGreat
open Go.Ev
def tab (L : Nat) (g : Nat → Int) : List Int := (List.range L).map g
theorem qzf (L : Nat) (g : Nat → Int) : (tab L g).length = L := by simp [tab]
theorem qze {L : Nat} {g : Nat → Int} {i : Nat} (h : i < L) : (tab L g).getD i 0 = g i := by simp [tab, h]
theorem qzd {L : Nat} {g g' : Nat → Int} (h : ∀ j, j < L → g j = g' j) : tab L g = tab L g' := by
  unfold tab
  exact List.map_congr_left fun j hj => h j (by simpa using hj)
theorem qzh {L : Nat} {g : Nat → Int} (i : Nat) (v : Int) : (tab L g).set i v = tab L (fun j => if j = i then v else g j) := by
  apply List.ext_getElem
  · simp [tab]
  · intro j h1 h2
    simp only [tab, List.getElem_set, List.getElem_map, List.getElem_range]
    by_cases h : i = j
    · simp [h]
    · rw [if_neg h, if_neg (fun e => h e.symm)]
theorem qzg (l : List Int) : l = tab l.length (fun j => l.getD j 0) := by
  apply List.ext_getElem
  · simp [tab]
  · intro j h1 h2
    simp [tab, h1]
theorem qzj (L : Nat) : List.replicate L (0 : Int) = tab L (fun _ => 0) := by
  apply List.ext_getElem
  · simp [tab]
  · intro j h1 h2; simp [tab]
theorem qzo {x y B : Int} (hy : 0 < y) (h : -B ≤ x) (h' : x ≤ B) : -B ≤ Int.tdiv x y ∧ Int.tdiv x y ≤ B := by
  by_cases hx : 0 ≤ x
  · rw [Int.tdiv_eq_ediv_of_nonneg hx]
    have h1 := Int.ediv_nonneg hx (by omega : 0 ≤ y)
    have h2 := Int.ediv_le_self y hx
    omega
  · obtain ⟨z, rfl⟩ : ∃ z, x = -z := ⟨-x, by omega⟩
    rw [Int.neg_tdiv, Int.tdiv_eq_ediv_of_nonneg (by omega : 0 ≤ z)]
    have h1 := Int.ediv_nonneg (by omega : 0 ≤ z) (by omega : 0 ≤ y)
    have h2 := Int.ediv_le_self y (by omega : 0 ≤ z)
    omega
theorem qtx {x w A : Int} (hx : -A ≤ x) (hx' : x ≤ A) (hw : 0 ≤ w) (hw' : w ≤ 16) : -(16 * A) ≤ x * w ∧ x * w ≤ 16 * A := by
  have hA : 0 ≤ A := by omega
  have h1 : x * w ≤ A * w := Int.mul_le_mul_of_nonneg_right hx' hw
  have h2 : A * w ≤ A * 16 := Int.mul_le_mul_of_nonneg_left hw' hA
  have h3 : (-A) * w ≤ x * w := Int.mul_le_mul_of_nonneg_right hx hw
  have h4 : (-A) * w = -(A * w) := Int.neg_mul A w
  omega
def qx7 (t p m : Int) : Int := cond (inR m 1 10000000 && (inR p 0 m && inR t 0 (1000 * m))) (Int.tdiv (t * p) m) 0
theorem qyb {t p m : Int} (hm : inR m 1 10000000 = true) (hp : inR p 0 m = true) (ht : inR t 0 (1000 * m) = true) : 0 ≤ t * p ∧ t * p ≤ 100000000000000000 := by
  rw [qn9] at *
  refine ⟨Int.mul_nonneg (by omega) (by omega), ?_⟩
  calc t * p ≤ 10000000000 * p := Int.mul_le_mul_of_nonneg_right (by omega) (by omega)
    _ ≤ 10000000000 * 10000000 := Int.mul_le_mul_of_nonneg_left (by omega) (by omega)
theorem qx9 (t p m : Int) : 0 ≤ qx7 t p m ∧ qx7 t p m ≤ 100000000000000000 := by
  unfold qx7
  cases hm : inR m 1 10000000
  · simp
  cases hp : inR p 0 m
  · simp
  cases ht : inR t 0 (1000 * m)
  · simp
  have := qyb hm hp ht
  have hm' := qn9.1 hm
  simp only [Bool.and_self, qhl]
  rw [Int.tdiv_eq_ediv_of_nonneg this.1]
  exact ⟨Int.ediv_nonneg this.1 (by omega), Int.le_trans (Int.ediv_le_self m this.1) this.2⟩
theorem qya {t p m : Int} (ht : 0 ≤ t) (hp : 0 ≤ p) (h : t ≤ 1000 * m) : qx7 t p m ≤ 1000 * p := by
  unfold qx7
  cases hh : (inR m 1 10000000 && (inR p 0 m && inR t 0 (1000 * m)))
  · simp only [qhj]; omega
  · simp only [Bool.and_eq_true, qn9] at hh
    simp only [qhl]
    rw [Int.tdiv_eq_ediv_of_nonneg (Int.mul_nonneg ht hp)]
    apply Int.ediv_le_of_le_mul (by omega)
    calc t * p ≤ (1000 * m) * p := Int.mul_le_mul_of_nonneg_right h hp
      _ = 1000 * p * m := by rw [Int.mul_assoc, Int.mul_assoc, Int.mul_comm m p]
def loOk (t m r l : Int) : Bool := inR m 1 10000000 && (inR t 0 (1000 * m) && (inR r 0 m && inR l 0 (m - r)))
def loA (t m r l : Int) : Int := cond (loOk t m r l) (qx7 t r m) 0
def loB (t m r l : Int) : Int := cond (loOk t m r l) (qx7 t (r + l) m - qx7 t r m) 0
def quo (sa sb la lb : Int) : Int := Int.tdiv ((sa - sb) * q0d (max lb la)) (32 * (q0d la + q0d lb))
def quh (sa sb ma mb la lb : Int) : Int := max (0 - mb / 4) (min (ma / 4) (quo sa sb la lb))
def fl (l : List Cell) (m b : List Int) (i : Nat) : Int := quh (surf l m b i) (surf l m b (i + 1)) (m.getD i 0) (m.getD (i + 1) 0) (qqx l i) (qqx l (i + 1))
def ff (t : Int) (l : List Cell) (m b : List Int) (i : Nat) : Int := cond (qao t l i) (fl l m b i) 0
theorem qnm {t : Int} {l : List Cell} {m b : List Int} {i : Nat} (h : l.length ≤ i + 1) : ff t l m b i = 0 := by
  unfold ff qao
  rw [dF (p := i + 1 < l.length) (by omega)]; rfl
theorem qnp {r : Int} {l : List Cell} {m t b : List Int} (F : StF r l m t b) (i : Nat) : 0 - m.getD (i + 1) 0 / 4 ≤ fl l m b i ∧ fl l m b i ≤ m.getD i 0 / 4 := by
  have h1 := F.at i; have h2 := F.at (i + 1)
  unfold fl quh
  omega
theorem qnn {r : Int} {l : List Cell} {m t b : List Int} (F : StF r l m t b) (tk : Int) (i : Nat) : 0 - m.getD (i + 1) 0 / 4 ≤ ff tk l m b i ∧ ff tk l m b i ≤ m.getD i 0 / 4 := by
  have h1 := F.at i; have h2 := F.at (i + 1); have h3 := qnp F i
  unfold ff
  cases qao tk l i
  · simp only [qhj]; omega
  · simp only [qhl]; omega
def rgt (tk : Int) (l : List Cell) (m b : List Int) (i : Nat) : Int := max 0 (ff tk l m b i)
def lft (tk : Int) (l : List Cell) (m b : List Int) (i : Nat) : Int := if 1 ≤ i then max 0 (0 - ff tk l m b (i - 1)) else 0
def outA (tk : Int) (l : List Cell) (m t b : List Int) (i : Nat) : Int := loA (t.getD i 0) (m.getD i 0) (rgt tk l m b i) (lft tk l m b i)
def outB (tk : Int) (l : List Cell) (m t b : List Int) (i : Nat) : Int := loB (t.getD i 0) (m.getD i 0) (rgt tk l m b i) (lft tk l m b i)
def stM (tk : Int) (l : List Cell) (m b : List Int) (j : Nat) : Int := m.getD j 0 - ff tk l m b j + (if 1 ≤ j then ff tk l m b (j - 1) else 0)
def stT (tk : Int) (l : List Cell) (m t b : List Int) (j : Nat) : Int := t.getD j 0 - outA tk l m t b j - outB tk l m t b j + (if 1 ≤ j then outA tk l m t b (j - 1) else 0) + outB tk l m t b (j + 1)
theorem qqz (t m l : Int) : loA t m 0 l = 0 := by
  unfold loA qx7
  cases loOk t m 0 l
  · rfl
  · simp
theorem qq0 (t m r : Int) : loB t m r 0 = 0 := by
  unfold loB
  cases loOk t m r 0
  · rfl
  · simp
theorem quc {tk : Int} {l : List Cell} {m t b : List Int} {i : Nat} (h : rgt tk l m b i = 0) : outA tk l m t b i = 0 := by unfold outA; rw [h, qqz]
theorem que {tk : Int} {l : List Cell} {m t b : List Int} {i : Nat} (h : lft tk l m b i = 0) : outB tk l m t b i = 0 := by unfold outB; rw [h, qq0]
theorem qub (tk : Int) (l : List Cell) (m t b : List Int) (i : Nat) : 0 ≤ outA tk l m t b i ∧ outA tk l m t b i ≤ 100000000000000000 := by
  unfold outA loA
  cases loOk (t.getD i 0) (m.getD i 0) (rgt tk l m b i) (lft tk l m b i)
  · simp
  · exact qx9 _ _ _
theorem qud (tk : Int) (l : List Cell) (m t b : List Int) (i : Nat) : -100000000000000000 ≤ outB tk l m t b i ∧ outB tk l m t b i ≤ 100000000000000000 := by
  unfold outB loB
  cases loOk (t.getD i 0) (m.getD i 0) (rgt tk l m b i) (lft tk l m b i)
  · simp
  · have h1 := qx9 (t.getD i 0) (rgt tk l m b i) (m.getD i 0)
    have h2 := qx9 (t.getD i 0) (rgt tk l m b i + lft tk l m b i) (m.getD i 0)
    simp only [qhl]; omega
def upd (G : Nat → Int) (i : Nat) (A B : Int) (j : Nat) : Int := if 1 ≤ i ∧ j = i - 1 then G j + B else if j = i + 1 then G j + A else if j = i then G j - A - B else G j
end Go.Proofs.YtoldpdhhfmlckaaGreat
end
section
namespace Go.Proofs.YtoldpdhhfmlckaaGreat
open Go.Ev
def qy4 (g : Nat → Int) : Nat → Int
  | 0 => 0
  | n + 1 => qy4 g n + g n
theorem qod : ∀ (a b : List Int), isum (a ++ b) = isum a + isum b
  | [], b => by simp [isum]
  | x :: a, b => by simp only [List.cons_append, isum, qod a b]; omega
theorem qol (g : Nat → Int) : ∀ n, isum (tab n g) = qy4 g n
  | 0 => by simp [tab, isum, qy4]
  | n + 1 => by
    have := qol g n
    unfold tab at *
    rw [List.range_succ, List.map_append, qod, this]
    simp [isum, qy4]
theorem qok (l : List Int) : isum l = qy4 (fun j => l.getD j 0) l.length := by
  have h := qzg l
  have e := qol (fun j => l.getD j 0) l.length
  rw [← h] at e; exact e
theorem qte : ∀ (m t : List Int), m.length = t.length → (∀ i, i < m.length → (0 ≤ m.getD i 0 ∧ m.getD i 0 ≤ 10000000) ∧ 0 ≤ t.getD i 0 ∧ t.getD i 0 ≤ 1000 * m.getD i 0) → qtb m t = true
  | [], t, hl, h => by simp [qtb]
  | x :: m, [], hl, h => by simp at hl
  | x :: m, y :: t, hl, h => by
    have h0 := h 0 (by simp)
    simp only [List.getD_cons_zero] at h0
    have ih := qte m t (by simpa using hl) fun i hi => by simpa using h (i + 1) (by simpa using hi)
    simp only [qtb, ih, Bool.and_true, Bool.and_eq_true, qn9]
    exact h0
theorem qnc : ∀ (l : List Int), (∀ x ∈ l, 0 ≤ x) → ∀ x ∈ l, x ≤ isum l
  | [], h, x, hx => by cases hx
  | y :: l, h, x, hx => by
    have hn : 0 ≤ isum l := by
      clear hx
      induction l with
      | nil => simp [isum]
      | cons z l ih =>
        have := ih (fun w hw => h w (by simp only [List.mem_cons] at *; rcases hw with rfl | hw <;> simp_all))
        have := h z (by simp)
        simp only [isum]; omega
    have hy := h y (by simp)
    simp only [isum]
    rcases List.mem_cons.1 hx with rfl | hx
    · omega
    · have := qnc l (fun w hw => h w (by simp [hw])) x hx
      omega
theorem qx8 {t p m : Int} (hm : 1 ≤ m) (hm' : m ≤ 10000000) (hp : 0 ≤ p) (hp' : p ≤ m) (ht : 0 ≤ t) (ht' : t ≤ 1000 * m) : qx7 t p m = t * p / m := by
  unfold qx7
  rw [qn9.2 ⟨hm, hm'⟩, qn9.2 ⟨hp, hp'⟩, qn9.2 ⟨ht, ht'⟩]
  simp only [Bool.and_self, qhl]
  exact Int.tdiv_eq_ediv_of_nonneg (Int.mul_nonneg ht hp)
theorem qyc {t p m : Int} (hm : 1 ≤ m) (hp : 0 ≤ p) (hp' : p ≤ m) (ht : 0 ≤ t) (ht' : t ≤ 1000 * m) : 0 ≤ t * p / m ∧ t * p / m ≤ t ∧ t - 1000 * (m - p) ≤ t * p / m := by
  refine ⟨Int.ediv_nonneg (Int.mul_nonneg ht hp) (by omega), ?_, ?_⟩
  · apply Int.ediv_le_of_le_mul (by omega)
    exact Int.mul_le_mul_of_nonneg_left hp' ht
  · apply Int.le_ediv_of_mul_le (by omega)
    have h1 : t * (m - p) ≤ 1000 * m * (m - p) := Int.mul_le_mul_of_nonneg_right ht' (by omega)
    have e1 : t * (m - p) = t * m - t * p := Int.mul_sub t m p
    have e2 : 1000 * m * (m - p) = 1000 * (m - p) * m := by rw [Int.mul_assoc, Int.mul_comm m (m - p), ← Int.mul_assoc]
    have e3 : (t - 1000 * (m - p)) * m = t * m - 1000 * (m - p) * m := Int.sub_mul _ _ _
    omega
theorem qyd {t r l m : Int} (hm : 1 ≤ m) (hr : 0 ≤ r) (hl : 0 ≤ l) (ht : 0 ≤ t) (ht' : t ≤ 1000 * m) : t * r / m ≤ t * (r + l) / m ∧ t * (r + l) / m ≤ t * r / m + 1000 * l := by
  have e : t * (r + l) = t * r + t * l := Int.mul_add t r l
  have n := Int.mul_nonneg ht hl
  have h1 : t * l ≤ 1000 * m * l := Int.mul_le_mul_of_nonneg_right ht' hl
  have e2 : 1000 * m * l = 1000 * l * m := by rw [Int.mul_assoc, Int.mul_comm m l, ← Int.mul_assoc]
  refine ⟨Int.ediv_le_ediv (by omega) (by omega), ?_⟩
  rw [← Int.add_mul_ediv_right _ _ (by omega : m ≠ 0)]
  exact Int.ediv_le_ediv (by omega) (by omega)
section
variable {r : Int} {l : List Cell} {m t b : List Int}
theorem qvo (F : StF r l m t b) (tk : Int) (i : Nat) : 0 ≤ rgt tk l m b i ∧ rgt tk l m b i ≤ m.getD i 0 / 4 := by
  have := qnn F tk i; have := F.at i
  unfold rgt; omega
theorem qqy (F : StF r l m t b) (tk : Int) (i : Nat) : 0 ≤ lft tk l m b i ∧ lft tk l m b i ≤ m.getD i 0 / 4 := by
  have h := qnn F tk (i - 1); have := F.at i
  unfold lft
  by_cases g : 1 ≤ i
  · rw [if_pos g]; rw [show i - 1 + 1 = i by omega] at h; omega
  · rw [if_neg g]; omega
theorem quf (F : StF r l m t b) (tk : Int) (i : Nat) : 0 ≤ outA tk l m t b i ∧ outA tk l m t b i ≤ 1000 * rgt tk l m b i ∧ 0 ≤ outB tk l m t b i ∧ outB tk l m t b i ≤ 1000 * lft tk l m b i ∧
    outA tk l m t b i + outB tk l m t b i ≤ t.getD i 0 ∧ t.getD i 0 - 1000 * (m.getD i 0 - rgt tk l m b i - lft tk l m b i) ≤ outA tk l m t b i + outB tk l m t b i := by
  have h := F.at i; have R := qvo F tk i; have L := qqy F tk i
  by_cases hm : 1 ≤ m.getD i 0
  · have ok : loOk (t.getD i 0) (m.getD i 0) (rgt tk l m b i) (lft tk l m b i) = true := by
      unfold loOk
      rw [qn9.2 ⟨hm, h.2.1⟩, qn9.2 ⟨h.2.2.1, h.2.2.2⟩, qn9.2 ⟨R.1, by omega⟩, qn9.2 ⟨L.1, by omega⟩]; rfl
    have s1 := qx8 (t := t.getD i 0) (p := rgt tk l m b i) hm h.2.1 R.1 (by omega) h.2.2.1 h.2.2.2
    have s2 := qx8 (t := t.getD i 0) (p := rgt tk l m b i + lft tk l m b i) hm h.2.1 (by omega) (by omega) h.2.2.1 h.2.2.2
    have c1 := qyc (t := t.getD i 0) (p := rgt tk l m b i + lft tk l m b i) hm (by omega) (by omega) h.2.2.1 h.2.2.2
    have c2 := qyd (t := t.getD i 0) (r := rgt tk l m b i) (l := lft tk l m b i) hm R.1 L.1 h.2.2.1 h.2.2.2
    have c3 := qya (t := t.getD i 0) (p := rgt tk l m b i) (m := m.getD i 0) h.2.2.1 R.1 h.2.2.2
    have c4 := (qx9 (t.getD i 0) (rgt tk l m b i) (m.getD i 0)).1
    unfold outA outB loA loB
    rw [ok]
    simp only [qhl]
    omega
  · have z : m.getD i 0 = 0 := by omega
    have ok : loOk (t.getD i 0) (m.getD i 0) (rgt tk l m b i) (lft tk l m b i) = false := by
      unfold loOk
      have : inR (m.getD i 0) 1 10000000 = false := by rw [← Bool.not_eq_true, qn9]; omega
      rw [this]; rfl
    unfold outA outB loA loB
    rw [ok]
    simp only [qhj]
    omega
theorem qyq (F : StF r l m t b) (tk : Int) (j : Nat) : stM tk l m b j = m.getD j 0 - rgt tk l m b j - lft tk l m b j + (if 1 ≤ j then rgt tk l m b (j - 1) else 0) + lft tk l m b (j + 1) := by
  unfold stM rgt lft
  rw [if_pos (show 1 ≤ j + 1 by omega), Nat.add_sub_cancel]
  by_cases g : 1 ≤ j
  · simp only [if_pos g]; omega
  · simp only [if_neg g]; omega
theorem qyr (F : StF r l m t b) (tk : Int) (j : Nat) : 0 ≤ stM tk l m b j := by
  rw [qyq F]
  have R := qvo F tk j; have L := qqy F tk j; have R' := qvo F tk (j - 1); have L' := qqy F tk (j + 1); have := F.at j
  by_cases g : 1 ≤ j
  · rw [if_pos g]; omega
  · rw [if_neg g]; omega
theorem qyt (F : StF r l m t b) (tk : Int) (j : Nat) : 0 ≤ stT tk l m t b j ∧ stT tk l m t b j ≤ 1000 * stM tk l m b j := by
  rw [qyq F]
  unfold stT
  have a := quf F tk j; have a1 := quf F tk (j - 1); have a2 := quf F tk (j + 1)
  by_cases g : 1 ≤ j
  · rw [if_pos g, if_pos g]; omega
  · rw [if_neg g, if_neg g]; omega
theorem qys (tk : Int) (l : List Cell) (m b : List Int) : ∀ n, qy4 (stM tk l m b) n = qy4 (fun j => m.getD j 0) n - (if 1 ≤ n then ff tk l m b (n - 1) else 0)
  | 0 => by simp [qy4]
  | n + 1 => by
    have ih := qys tk l m b n
    simp only [qy4, ih]
    rw [if_pos (show 1 ≤ n + 1 by omega), Nat.add_sub_cancel]
    unfold stM
    by_cases g : 1 ≤ n
    · simp only [if_pos g]; omega
    · simp only [if_neg g]; omega
theorem qyu (tk : Int) (l : List Cell) (m t b : List Int) : ∀ n, qy4 (stT tk l m t b) n = qy4 (fun j => t.getD j 0) n - (if 1 ≤ n then outA tk l m t b (n - 1) else 0) - outB tk l m t b 0 + outB tk l m t b n
  | 0 => by simp [qy4]; omega
  | n + 1 => by
    have ih := qyu tk l m t b n
    simp only [qy4, ih]
    rw [if_pos (show 1 ≤ n + 1 by omega), Nat.add_sub_cancel]
    unfold stT
    by_cases g : 1 ≤ n
    · simp only [if_pos g]; omega
    · simp only [if_neg g]; omega
theorem qy0 (F : StF r l m t b) (tk : Int) : isum (tab l.length (stM tk l m b)) = isum m := by
  have L := F.len
  rw [qol, qys, qok m, F.ml, if_pos L.1, qnm (by omega)]; omega
theorem qy1 (F : StF r l m t b) (tk : Int) : isum (tab l.length (stT tk l m t b)) = isum t := by
  have L := F.len
  have z1 : outA tk l m t b (l.length - 1) = 0 := quc (by unfold rgt; rw [qnm (by omega)]; rfl)
  have z2 : outB tk l m t b 0 = 0 := que (by unfold lft; rw [if_neg (by omega)])
  have z3 : outB tk l m t b l.length = 0 := que (by unfold lft; rw [if_pos L.1, qnm (by omega)]; rfl)
  rw [qol, qyu, qok t, F.tl, if_pos L.1, z1, z2, z3]; omega
theorem qyz (F : StF r l m t b) (tk : Int) : StF r l (tab l.length (stM tk l m b)) (tab l.length (stT tk l m t b)) b := by
  have hs := qy0 F tk
  have hn : ∀ x ∈ tab l.length (stM tk l m b), 0 ≤ x := by
    intro x hx
    simp only [tab, List.mem_map] at hx
    obtain ⟨j, _, rfl⟩ := hx
    exact qyr F tk j
  refine ⟨F.mesh, F.bal, qzf _ _, qzf _ _, F.bl, ?_, F.bed, by rw [hs]; exact F.sum⟩
  refine qte _ _ (by rw [qzf, qzf]) fun i hi => ?_
  rw [qzf] at hi
  have h1 := qnc _ hn _ (qnw (by rw [qzf]; exact hi : i < (tab l.length (stM tk l m b)).length) 0)
  rw [hs] at h1
  have := F.sum
  rw [qze hi] at *
  rw [qze hi]
  exact ⟨⟨qyr F tk i, by omega⟩, qyt F tk i⟩
end
end Go.Proofs.YtoldpdhhfmlckaaGreat
end
section
namespace Go.Proofs.YtoldpdhhfmlckaaGreat
open Go.Ev
theorem qjk (k : Nat) (a0 : Int) (a1z : Bool) (a1 : List (Int × Int × Int)) (a2z : Bool) (a2 : List Int) (a3z : Bool) (a3 : List Int) (a4z : Bool) (a4 : List Int) (b : Int) : go (k + 1) impl_State_flux [(.agg [(.int .i64 (a0)), (.arr false (a1z) (.r3 (a1))), (.arr false (a2z) (.ints .i64 (a2))), (.arr false (a3z) (.ints .i64 (a3))), (.arr false (a4z) (.ints .i64 (a4)))]), (.int .i64 (b))] =
 (go k impl_State_side [(.agg [(.int .i64 (a0)), (.arr false (a1z) (.r3 (a1))), (.arr false (a2z) (.ints .i64 (a2))), (.arr false (a3z) (.ints .i64 (a3))), (.arr false (a4z) (.ints .i64 (a4)))]), (.int .i64 (b))]).bind fun r0 =>
 (go k impl_State_side [(.agg [(.int .i64 (a0)), (.arr false (a1z) (.r3 (a1))), (.arr false (a2z) (.ints .i64 (a2))), (.arr false (a3z) (.ints .i64 (a3))), (.arr false (a4z) (.ints .i64 (a4)))]), (.int .i64 (IntKind.wrap .i64 (b + (1 : Int))))]).bind fun r1 =>
 (go k impl_flux [(.agg [(.int .i64 (D.toInt (D.cell 0 (nth r0 0)))), (.int .i64 (D.toInt (D.cell 1 (nth r0 0)))), (.int .i64 (D.toInt (D.cell 2 (nth r0 0))))]), (.agg [(.int .i64 (D.toInt (D.cell 0 (nth r1 0)))), (.int .i64 (D.toInt (D.cell 1 (nth r1 0)))), (.int .i64 (D.toInt (D.cell 2 (nth r1 0))))])]).bind fun r2 =>
 some [(.int .i64 (D.toInt (nth r2 0)))] := by kernel_rfl
theorem qjw (k : Nat) (a0 : Int) (a1z : Bool) (a1 : List (Int × Int × Int)) (a2z : Bool) (a2 : List Int) (a3z : Bool) (a3 : List Int) (a4z : Bool) (a4 : List Int) (b : Int) : go (k + 1) impl_State_side [(.agg [(.int .i64 (a0)), (.arr false (a1z) (.r3 (a1))), (.arr false (a2z) (.ints .i64 (a2))), (.arr false (a3z) (.ints .i64 (a3))), (.arr false (a4z) (.ints .i64 (a4)))]), (.int .i64 (b))] =
 cond (decide ((0 : Int) ≤ b) && decide (b < nI (List.length a1)))
 (cond (decide ((0 : Int) ≤ b) && decide (b < nI (List.length a2)))
 ((go k impl_State_surface [(.agg [(.int .i64 (a0)), (.arr false (a1z) (.r3 (a1))), (.arr false (a2z) (.ints .i64 (a2))), (.arr false (a3z) (.ints .i64 (a3))), (.arr false (a4z) (.ints .i64 (a4)))]), (.int .i64 (b))]).bind fun r0 =>
 some [(.agg [(.int .i64 (Prod.fst (Prod.snd (List.getD a1 (Int.toNat b) zz3)))), (.int .i64 (List.getD a2 (Int.toNat b) (0 : Int))), (.int .i64 (D.toInt (nth r0 0)))])])
 (none))
 (none) := by kernel_rfl
theorem qkc (k : Nat) (a0 a1 a2 b0 b1 b2 : Int) : go (k + 1) impl_flux [(.agg [(.int .i64 (a0)), (.int .i64 (a1)), (.int .i64 (a2))]), (.agg [(.int .i64 (b0)), (.int .i64 (b1)), (.int .i64 (b2))])] =
 (go k impl_WidthOf [(.int .i64 (a0))]).bind fun r0 =>
 (go k impl_WidthOf [(.int .i64 (b0))]).bind fun r1 =>
 (go k impl_WidthOf [(.int .i64 (if b0 > a0 then b0 else a0))]).bind fun r2 =>
 (go k impl_DivTrunc [(.int .i64 (IntKind.wrap .i64 (IntKind.wrap .i64 (a2 - b2) * D.toInt (nth r2 0)))), (.int .i64 (IntKind.wrap .i64 ((32 : Int) * IntKind.wrap .i64 (D.toInt (nth r0 0) + D.toInt (nth r1 0)))))]).bind fun r3 =>
 (go k impl_Clamp [(.int .i64 (D.toInt (nth r3 0))), (.int .i64 (IntKind.wrap .i64 ((0 : Int) - IntKind.wrap .i64 (Int.tdiv b1 (4 : Int))))), (.int .i64 (IntKind.wrap .i64 (Int.tdiv a1 (4 : Int))))]).bind fun r4 =>
 some [(.int .i64 (D.toInt (nth r4 0)))] := by kernel_rfl
theorem qib (k : Nat) (a b c : Int) : go (k + 1) impl_Clamp [(.int .i64 (a)), (.int .i64 (b)), (.int .i64 (c))] =
 cond (decide (c < b))
 (some [(.int .i64 (b))])
 (some [(.int .i64 (if c < if b > a then b else a then c else if b > a then b else a))]) := by kernel_rfl
theorem qif (k : Nat) (a b : Int) : go (k + 1) impl_DivTrunc [(.int .i64 (a)), (.int .i64 (b))] =
 cond (decide (b ≤ (0 : Int)))
 (some [(.int .i64 (0 : Int))])
 (cond (!decide (b = (0 : Int)))
 (some [(.int .i64 (IntKind.wrap .i64 (Int.tdiv a b)))])
 (none)) := by kernel_rfl
theorem qir (k : Nat) (a b c d : Int) : go (k + 1) impl_LeafOut [(.int .i64 (a)), (.int .i64 (b)), (.int .i64 (c)), (.int .i64 (d))] =
 (go k impl_within [(.int .i64 (b)), (.int .i64 ((1 : Int))), (.int .i64 ((10000000 : Int)))]).bind fun r0 =>
 cond (!bit (nth r0 0))
 (some [(.int .i64 (0 : Int)), (.int .i64 (0 : Int))])
 ((go k impl_within [(.int .i64 (a)), (.int .i64 (0 : Int)), (.int .i64 (IntKind.wrap .i64 ((1000 : Int) * b)))]).bind fun r1 =>
 cond (!bit (nth r1 0))
 (some [(.int .i64 (0 : Int)), (.int .i64 (0 : Int))])
 ((go k impl_within [(.int .i64 (c)), (.int .i64 (0 : Int)), (.int .i64 (b))]).bind fun r2 =>
 cond (!bit (nth r2 0))
 (some [(.int .i64 (0 : Int)), (.int .i64 (0 : Int))])
 ((go k impl_within [(.int .i64 (d)), (.int .i64 (0 : Int)), (.int .i64 (IntKind.wrap .i64 (b - c)))]).bind fun r3 =>
 cond (!bit (nth r3 0))
 (some [(.int .i64 (0 : Int)), (.int .i64 (0 : Int))])
 ((go k impl_ShareOut [(.int .i64 (a)), (.int .i64 (c)), (.int .i64 (b))]).bind fun r4 =>
 (go k impl_ShareOut [(.int .i64 (a)), (.int .i64 (IntKind.wrap .i64 (c + d))), (.int .i64 (b))]).bind fun r5 =>
 some [(.int .i64 (D.toInt (nth r4 0))), (.int .i64 (IntKind.wrap .i64 (D.toInt (nth r5 0) - D.toInt (nth r4 0))))])))) := by kernel_rfl
theorem qjb (k : Nat) (a b c : Int) : go (k + 1) impl_ShareOut [(.int .i64 (a)), (.int .i64 (b)), (.int .i64 (c))] =
 (go k impl_within [(.int .i64 (c)), (.int .i64 ((1 : Int))), (.int .i64 ((10000000 : Int)))]).bind fun r0 =>
 cond (!bit (nth r0 0))
 (some [(.int .i64 (0 : Int))])
 ((go k impl_within [(.int .i64 (b)), (.int .i64 (0 : Int)), (.int .i64 (c))]).bind fun r1 =>
 cond (!bit (nth r1 0))
 (some [(.int .i64 (0 : Int))])
 ((go k impl_within [(.int .i64 (a)), (.int .i64 (0 : Int)), (.int .i64 (IntKind.wrap .i64 ((1000 : Int) * c)))]).bind fun r2 =>
 cond (!bit (nth r2 0))
 (some [(.int .i64 (0 : Int))])
 (cond (!decide (c = (0 : Int)))
 (some [(.int .i64 (IntKind.wrap .i64 (Int.tdiv (IntKind.wrap .i64 (a * b)) c)))])
 (none)))) := by kernel_rfl
def qv4 (x0 x1 x2 : Int) (z3 : Bool) (l4 : List (Int × Int × Int)) (x5 : Int) (z6 : Bool) (l7 : List Int) : St := ⟨fill 26 [(1, (.int .i64 (x0))), (2, (.ptr 1 (0) (0))), (5, (.sl 2 none)), (11, (.int .i64 (x1))), (12, (.int .i64 (x2)))], [], [(.arr false (z3) (.r3 (l4))), (.box true [(.int .i64 (x5)), (.sl 0 none)]), (.arr true (z6) (.ints .i64 (l7)))]⟩
theorem qiu (k : Nat) (a0 : Int) (a1z : Bool) (a1 : List (Int × Int × Int)) (b : Int) : go (k + 1) impl_Mesh_active [(.agg [(.int .i64 (a0)), (.arr false (a1z) (.r3 (a1)))]), (.int .i64 (b))] =
 lp k impl_Mesh_active [] [] 3 k (qv4 b (IntKind.wrap .i64 (nI (List.length a1) - (1 : Int))) (0 : Int) a1z a1 a0 false ([])) := by kernel_rfl
theorem qou (k n : Nat) (fu : List (Nat × Nat)) (x0 x1 x2 : Int) (z3 : Bool) (l4 : List (Int × Int × Int)) (x5 : Int) (z6 : Bool) (l7 : List Int) : lp k impl_Mesh_active [] fu 3 (n + 1) (qv4 x0 x1 x2 z3 l4 x5 z6 l7) =
 cond (decide (x2 < x1))
 ((go k impl_Mesh_faceLevel [(.agg [(.int .i64 (x5)), (.arr false (z3) (.r3 (l4)))]), (.int .i64 (x2))]).bind fun r0 =>
 (go k impl_IsActive [(.int .i64 (x0)), (.int .i64 (D.toInt (nth r0 0)))]).bind fun r1 =>
 cond (bit (nth r1 0))
 (cond (decide (List.length (l7 ++ [x2]) ≤ bigLen))
 (lp k impl_Mesh_active [] fu 3 n (qv4 x0 x1 (IntKind.wrap .i64 (x2 + (1 : Int))) z3 l4 x5 (z6 && decide (List.length (l7 ++ [x2]) = 0)) (l7 ++ [x2])))
 (none))
 (lp k impl_Mesh_active [] fu 3 n (qv4 x0 x1 (IntKind.wrap .i64 (x2 + (1 : Int))) z3 l4 x5 z6 l7)))
 (some [(.arr true (z6) (.ints .i64 (l7)))]) := by kernel_rfl
def qwg (x0 x1 : Int) (z2 : Bool) (l3 : List (Int × Int × Int)) (z4 : Bool) (l5 : List Int) (z6 : Bool) (l7 : List Int) (z8 : Bool) (l9 : List Int) (x10 : Int) (z11 : Bool) (l12 : List Int) (z13 : Bool) (l14 : List Int) (z15 : Bool) (l16 : List Int) (z17 : Bool) (l18 : List Int) : St := ⟨fill 155 [(0, (.ptr 4 (0) (0))), (4, (.sl 5 none)), (5, (.sl 6 none)), (9, (.ptr 8 (0) (0))), (10, (.ptr 10 (0) (0))), (11, (.fn impl_State_move_1 [(.ptr 8 (0) (0)), (.ptr 10 (0) (0))])), (69, (.int .i64 (x0))), (70, (.int .i64 (x1)))], [(.ptr 4 (0) (0))], [(.arr true (z2) (.r3 (l3))), (.arr true (z4) (.ints .i64 (l5))), (.arr true (z6) (.ints .i64 (l7))), (.arr true (z8) (.ints .i64 (l9))), (.box true [(.int .i64 (x10)), (.sl 0 none), (.sl 1 none), (.sl 2 none), (.sl 3 none)]), (.arr true (z11) (.ints .i64 (l12))), (.arr true (z13) (.ints .i64 (l14))), (.arr true (z15) (.ints .i64 (l16))), (.box true [(.sl 7 none)]), (.arr true (z17) (.ints .i64 (l18))), (.box true [(.sl 9 none)])]⟩
def qwh (x0 x1 : Int) (z2 : Bool) (l3 : List (Int × Int × Int)) (z4 : Bool) (l5 : List Int) (z6 : Bool) (l7 : List Int) (z8 : Bool) (l9 : List Int) (x10 : Int) (z11 : Bool) (l12 : List Int) (z13 : Bool) (l14 : List Int) : St := ⟨fill 155 [(0, (.ptr 4 (0) (0))), (9, (.ptr 6 (0) (0))), (10, (.ptr 8 (0) (0))), (124, (.int .i64 (x0))), (125, (.int .i64 (x1)))], [(.ptr 4 (0) (0))], [(.arr true (z2) (.r3 (l3))), (.arr true (z4) (.ints .i64 (l5))), (.arr true (z6) (.ints .i64 (l7))), (.arr true (z8) (.ints .i64 (l9))), (.box true [(.int .i64 (x10)), (.sl 0 none), (.sl 1 none), (.sl 2 none), (.sl 3 none)]), (.arr true (z11) (.ints .i64 (l12))), (.box true [(.sl 5 none)]), (.arr true (z13) (.ints .i64 (l14))), (.box true [(.sl 7 none)])]⟩
def qwi (x0 x1 : Int) (z2 : Bool) (l3 : List (Int × Int × Int)) (z4 : Bool) (l5 : List Int) (z6 : Bool) (l7 : List Int) (z8 : Bool) (l9 : List Int) (x10 : Int) (z11 : Bool) (l12 : List Int) (z13 : Bool) (l14 : List Int) (z15 : Bool) (l16 : List Int) : St := ⟨fill 155 [(0, (.ptr 4 (0) (0))), (4, (.sl 5 none)), (5, (.sl 6 none)), (28, (.sl 7 none)), (29, (.int .i64 (x0))), (30, (.int .i64 (x1)))], [(.ptr 4 (0) (0))], [(.arr true (z2) (.r3 (l3))), (.arr true (z4) (.ints .i64 (l5))), (.arr true (z6) (.ints .i64 (l7))), (.arr true (z8) (.ints .i64 (l9))), (.box true [(.int .i64 (x10)), (.sl 0 none), (.sl 1 none), (.sl 2 none), (.sl 3 none)]), (.arr true (z11) (.ints .i64 (l12))), (.arr true (z13) (.ints .i64 (l14))), (.arr false (z15) (.ints .i64 (l16)))]⟩
theorem qjp (k : Nat) (a0 : Int) (a1z : Bool) (a1 : List (Int × Int × Int)) (a2z : Bool) (a2 : List Int) (a3z : Bool) (a3 : List Int) (a4z : Bool) (a4 : List Int) (bz : Bool) (b : List Int) : go (k + 1) impl_State_move [(.ptr true [(.int .i64 (a0)), (.arr true (a1z) (.r3 (a1))), (.arr true (a2z) (.ints .i64 (a2))), (.arr true (a3z) (.ints .i64 (a3))), (.arr true (a4z) (.ints .i64 (a4)))]), (.arr false (bz) (.ints .i64 (b)))] =
 cond (decide ((0 : Int) ≤ nI (List.length a2)) && decide (nI (List.length a2) ≤ nI (List.length a2)) && decide (nI (List.length a2) ≤ nI bigLen))
 (cond (decide ((0 : Int) ≤ nI (List.length a2)) && decide (nI (List.length a2) ≤ nI (List.length a2)) && decide (nI (List.length a2) ≤ nI bigLen))
 (lp k impl_State_move [(.ptr true [(.int .i64 (a0)), (.arr true (a1z) (.r3 (a1))), (.arr true (a2z) (.ints .i64 (a2))), (.arr true (a3z) (.ints .i64 (a3))), (.arr true (a4z) (.ints .i64 (a4)))])] [] 2 k (qwi (nI (List.length b)) (0 : Int) a1z a1 a2z a2 a3z a3 a4z a4 a0 false (List.replicate (Int.toNat (nI (List.length a2))) (0 : Int)) false (List.replicate (Int.toNat (nI (List.length a2))) (0 : Int)) bz b))
 (none))
 (none) := by kernel_rfl
theorem qo6 (k n : Nat) (fu : List (Nat × Nat)) (a0 : Int) (a1z : Bool) (a1 : List (Int × Int × Int)) (a2z : Bool) (a2 : List Int) (a3z : Bool) (a3 : List Int) (a4z : Bool) (a4 : List Int) (x0 x1 : Int) (z2 : Bool) (l3 : List (Int × Int × Int)) (z4 : Bool) (l5 : List Int) (z6 : Bool) (l7 : List Int) (z8 : Bool) (l9 : List Int) (x10 : Int) (z11 : Bool) (l12 : List Int) (z13 : Bool) (l14 : List Int) (z15 : Bool) (l16 : List Int) (z17 : Bool) (l18 : List Int) : lp k impl_State_move [(.ptr true [(.int .i64 (a0)), (.arr true (a1z) (.r3 (a1))), (.arr true (a2z) (.ints .i64 (a2))), (.arr true (a3z) (.ints .i64 (a3))), (.arr true (a4z) (.ints .i64 (a4)))])] fu 12 (n + 1) (qwg x0 x1 z2 l3 z4 l5 z6 l7 z8 l9 x10 z11 l12 z13 l14 z15 l16 z17 l18) =
 cond (decide (x1 < x0))
 (cond (decide ((0 : Int) ≤ x1) && decide (x1 < nI (List.length l7)))
 (cond (decide ((0 : Int) ≤ x1) && decide (x1 < nI (List.length l5)))
 (cond (decide ((0 : Int) ≤ x1) && decide (x1 < nI (List.length l12)))
 (cond (decide ((0 : Int) ≤ x1) && decide (x1 < nI (List.length l14)))
 ((go k impl_LeafOut [(.int .i64 (List.getD l7 (Int.toNat x1) (0 : Int))), (.int .i64 (List.getD l5 (Int.toNat x1) (0 : Int))), (.int .i64 (List.getD l12 (Int.toNat x1) (0 : Int))), (.int .i64 (List.getD l14 (Int.toNat x1) (0 : Int)))]).bind fun r0 =>
 cond (decide ((0 : Int) ≤ x1) && decide (x1 < nI (List.length l12)))
 ((go k impl_State_move_1 [(.int .i64 (x1)), (.int .i64 (IntKind.wrap .i64 (x1 + (1 : Int)))), (.int .i64 (List.getD l12 (Int.toNat x1) (0 : Int))), (.int .i64 (D.toInt (nth r0 0))), (.ptr true [(.arr true (z15) (.ints .i64 (l16)))]), (.ptr true [(.arr true (z17) (.ints .i64 (l18)))])]).bind fun r1 =>
 cond (decide ((0 : Int) ≤ x1) && decide (x1 < nI (List.length l14)))
 ((go k impl_State_move_1 [(.int .i64 (x1)), (.int .i64 (IntKind.wrap .i64 (x1 - (1 : Int)))), (.int .i64 (List.getD l14 (Int.toNat x1) (0 : Int))), (.int .i64 (D.toInt (nth r0 1))), (.ptr true [(.arr true (D.nil (D.cell 0 (nth r1 0))) (.ints .i64 (D.ints (D.cell 0 (nth r1 0)))))]), (.ptr true [(.arr true (D.nil (D.cell 0 (nth r1 1))) (.ints .i64 (D.ints (D.cell 0 (nth r1 1)))))])]).bind fun r2 =>
 lp k impl_State_move [(.ptr true [(.int .i64 (a0)), (.arr true (a1z) (.r3 (a1))), (.arr true (a2z) (.ints .i64 (a2))), (.arr true (a3z) (.ints .i64 (a3))), (.arr true (a4z) (.ints .i64 (a4)))])] fu 12 n (qwg x0 (IntKind.wrap .i64 (x1 + (1 : Int))) z2 l3 z4 l5 z6 l7 z8 l9 x10 z11 l12 z13 l14 (D.nil (D.cell 0 (nth r2 0))) (D.ints (D.cell 0 (nth r2 0))) (D.nil (D.cell 0 (nth r2 1))) (D.ints (D.cell 0 (nth r2 1)))))
 (none))
 (none))
 (none))
 (none))
 (none))
 (none))
 (lp k impl_State_move [(.ptr true [(.int .i64 (a0)), (.arr true (a1z) (.r3 (a1))), (.arr true (a2z) (.ints .i64 (a2))), (.arr true (a3z) (.ints .i64 (a3))), (.arr true (a4z) (.ints .i64 (a4)))])] fu 19 k (qwh (nI (List.length l5)) (0 : Int) z2 l3 z4 l5 z6 l7 z8 l9 x10 z15 l16 z17 l18)) := by kernel_rfl
theorem qo7 (k n : Nat) (fu : List (Nat × Nat)) (a0 : Int) (a1z : Bool) (a1 : List (Int × Int × Int)) (a2z : Bool) (a2 : List Int) (a3z : Bool) (a3 : List Int) (a4z : Bool) (a4 : List Int) (x0 x1 : Int) (z2 : Bool) (l3 : List (Int × Int × Int)) (z4 : Bool) (l5 : List Int) (z6 : Bool) (l7 : List Int) (z8 : Bool) (l9 : List Int) (x10 : Int) (z11 : Bool) (l12 : List Int) (z13 : Bool) (l14 : List Int) : lp k impl_State_move [(.ptr true [(.int .i64 (a0)), (.arr true (a1z) (.r3 (a1))), (.arr true (a2z) (.ints .i64 (a2))), (.arr true (a3z) (.ints .i64 (a3))), (.arr true (a4z) (.ints .i64 (a4)))])] fu 19 (n + 1) (qwh x0 x1 z2 l3 z4 l5 z6 l7 z8 l9 x10 z11 l12 z13 l14) =
 cond (decide (x1 < x0))
 (cond (decide ((0 : Int) ≤ x1) && decide (x1 < nI (List.length l5)))
 (cond (decide ((0 : Int) ≤ x1) && decide (x1 < nI (List.length l12)))
 (cond (decide ((0 : Int) ≤ x1) && decide (x1 < nI (List.length l5)))
 (cond (decide ((0 : Int) ≤ x1) && decide (x1 < nI (List.length l7)))
 (cond (decide ((0 : Int) ≤ x1) && decide (x1 < nI (List.length l14)))
 (cond (decide ((0 : Int) ≤ x1) && decide (x1 < nI (List.length l7)))
 (lp k impl_State_move [(.ptr true [(.int .i64 (a0)), (.arr true (a1z) (.r3 (a1))), (.arr true (a2z) (.ints .i64 (a2))), (.arr true (a3z) (.ints .i64 (a3))), (.arr true (a4z) (.ints .i64 (a4)))])] fu 19 n (qwh x0 (IntKind.wrap .i64 (x1 + (1 : Int))) z2 l3 z4 (List.set l5 (Int.toNat x1) (IntKind.wrap .i64 (List.getD l5 (Int.toNat x1) (0 : Int) + List.getD l12 (Int.toNat x1) (0 : Int)))) z6 (List.set l7 (Int.toNat x1) (IntKind.wrap .i64 (List.getD l7 (Int.toNat x1) (0 : Int) + List.getD l14 (Int.toNat x1) (0 : Int)))) z8 l9 x10 z11 l12 z13 l14))
 (none))
 (none))
 (none))
 (none))
 (none))
 (none))
 (some [(.ptr true [(.int .i64 (x10)), (.arr true (z2) (.r3 (l3))), (.arr true (z4) (.ints .i64 (l5))), (.arr true (z6) (.ints .i64 (l7))), (.arr true (z8) (.ints .i64 (l9)))])]) := by kernel_rfl
theorem qo8 (k n : Nat) (fu : List (Nat × Nat)) (a0 : Int) (a1z : Bool) (a1 : List (Int × Int × Int)) (a2z : Bool) (a2 : List Int) (a3z : Bool) (a3 : List Int) (a4z : Bool) (a4 : List Int) (x0 x1 : Int) (z2 : Bool) (l3 : List (Int × Int × Int)) (z4 : Bool) (l5 : List Int) (z6 : Bool) (l7 : List Int) (z8 : Bool) (l9 : List Int) (x10 : Int) (z11 : Bool) (l12 : List Int) (z13 : Bool) (l14 : List Int) (z15 : Bool) (l16 : List Int) : lp k impl_State_move [(.ptr true [(.int .i64 (a0)), (.arr true (a1z) (.r3 (a1))), (.arr true (a2z) (.ints .i64 (a2))), (.arr true (a3z) (.ints .i64 (a3))), (.arr true (a4z) (.ints .i64 (a4)))])] fu 2 (n + 1) (qwi x0 x1 z2 l3 z4 l5 z6 l7 z8 l9 x10 z11 l12 z13 l14 z15 l16) =
 cond (decide (x1 < x0))
 (cond (decide ((0 : Int) ≤ x1) && decide (x1 < nI (List.length l16)))
 ((go k impl_State_flux [(.agg [(.int .i64 (x10)), (.arr false (z2) (.r3 (l3))), (.arr false (z4) (.ints .i64 (l5))), (.arr false (z6) (.ints .i64 (l7))), (.arr false (z8) (.ints .i64 (l9)))]), (.int .i64 (List.getD l16 (Int.toNat x1) (0 : Int)))]).bind fun r0 =>
 cond (decide ((0 : Int) < D.toInt (nth r0 0)))
 (cond (decide ((0 : Int) ≤ List.getD l16 (Int.toNat x1) (0 : Int)) && decide (List.getD l16 (Int.toNat x1) (0 : Int) < nI (List.length l12)))
 (lp k impl_State_move [(.ptr true [(.int .i64 (a0)), (.arr true (a1z) (.r3 (a1))), (.arr true (a2z) (.ints .i64 (a2))), (.arr true (a3z) (.ints .i64 (a3))), (.arr true (a4z) (.ints .i64 (a4)))])] fu 2 n (qwi x0 (IntKind.wrap .i64 (x1 + (1 : Int))) z2 l3 z4 l5 z6 l7 z8 l9 x10 z11 (List.set l12 (Int.toNat (List.getD l16 (Int.toNat x1) (0 : Int))) (D.toInt (nth r0 0))) z13 l14 z15 l16))
 (none))
 (cond (decide ((0 : Int) ≤ IntKind.wrap .i64 (List.getD l16 (Int.toNat x1) (0 : Int) + (1 : Int))) && decide (IntKind.wrap .i64 (List.getD l16 (Int.toNat x1) (0 : Int) + (1 : Int)) < nI (List.length l14)))
 (lp k impl_State_move [(.ptr true [(.int .i64 (a0)), (.arr true (a1z) (.r3 (a1))), (.arr true (a2z) (.ints .i64 (a2))), (.arr true (a3z) (.ints .i64 (a3))), (.arr true (a4z) (.ints .i64 (a4)))])] fu 2 n (qwi x0 (IntKind.wrap .i64 (x1 + (1 : Int))) z2 l3 z4 l5 z6 l7 z8 l9 x10 z11 l12 z13 (List.set l14 (Int.toNat (IntKind.wrap .i64 (List.getD l16 (Int.toNat x1) (0 : Int) + (1 : Int)))) (IntKind.wrap .i64 ((0 : Int) - D.toInt (nth r0 0)))) z15 l16))
 (none)))
 (none))
 (cond (decide ((0 : Int) ≤ nI (List.length l5)) && decide (nI (List.length l5) ≤ nI (List.length l5)) && decide (nI (List.length l5) ≤ nI bigLen))
 (cond (decide ((0 : Int) ≤ nI (List.length l5)) && decide (nI (List.length l5) ≤ nI (List.length l5)) && decide (nI (List.length l5) ≤ nI bigLen))
 (lp k impl_State_move [(.ptr true [(.int .i64 (a0)), (.arr true (a1z) (.r3 (a1))), (.arr true (a2z) (.ints .i64 (a2))), (.arr true (a3z) (.ints .i64 (a3))), (.arr true (a4z) (.ints .i64 (a4)))])] fu 12 k (qwg (nI (List.length l5)) (0 : Int) z2 l3 z4 l5 z6 l7 z8 l9 x10 z11 l12 z13 l14 false (List.replicate (Int.toNat (nI (List.length l5))) (0 : Int)) false (List.replicate (Int.toNat (nI (List.length l5))) (0 : Int))))
 (none))
 (none)) := by kernel_rfl
theorem qjq (k : Nat) (v0 v1 v2 v3 : Int) (v4 : Bool) (v5 : List Int) (v6 : Bool) (v7 : List Int) : go (k + 1) impl_State_move_1 [(.int .i64 (v0)), (.int .i64 (v1)), (.int .i64 (v2)), (.int .i64 (v3)), (.ptr true [(.arr true (v4) (.ints .i64 (v5)))]), (.ptr true [(.arr true (v6) (.ints .i64 (v7)))])] =
 cond (decide ((0 : Int) < v2))
 (cond (decide ((0 : Int) ≤ v0) && decide (v0 < nI (List.length v5)))
 (cond (decide ((0 : Int) ≤ v0) && decide (v0 < nI (List.length v5)))
 (cond (decide ((0 : Int) ≤ v1) && decide (v1 < nI (List.length (List.set v5 (Int.toNat v0) (IntKind.wrap .i64 (List.getD v5 (Int.toNat v0) (0 : Int) - v2))))))
 (cond (decide ((0 : Int) ≤ v1) && decide (v1 < nI (List.length (List.set v5 (Int.toNat v0) (IntKind.wrap .i64 (List.getD v5 (Int.toNat v0) (0 : Int) - v2))))))
 (cond (decide ((0 : Int) ≤ v0) && decide (v0 < nI (List.length v7)))
 (cond (decide ((0 : Int) ≤ v0) && decide (v0 < nI (List.length v7)))
 (cond (decide ((0 : Int) ≤ v1) && decide (v1 < nI (List.length (List.set v7 (Int.toNat v0) (IntKind.wrap .i64 (List.getD v7 (Int.toNat v0) (0 : Int) - v3))))))
 (cond (decide ((0 : Int) ≤ v1) && decide (v1 < nI (List.length (List.set v7 (Int.toNat v0) (IntKind.wrap .i64 (List.getD v7 (Int.toNat v0) (0 : Int) - v3))))))
 (some [(.ptr true [(.arr true (v4) (.ints .i64 (List.set (List.set v5 (Int.toNat v0) (IntKind.wrap .i64 (List.getD v5 (Int.toNat v0) (0 : Int) - v2))) (Int.toNat v1) (IntKind.wrap .i64 (List.getD (List.set v5 (Int.toNat v0) (IntKind.wrap .i64 (List.getD v5 (Int.toNat v0) (0 : Int) - v2))) (Int.toNat v1) (0 : Int) + v2)))))]), (.ptr true [(.arr true (v6) (.ints .i64 (List.set (List.set v7 (Int.toNat v0) (IntKind.wrap .i64 (List.getD v7 (Int.toNat v0) (0 : Int) - v3))) (Int.toNat v1) (IntKind.wrap .i64 (List.getD (List.set v7 (Int.toNat v0) (IntKind.wrap .i64 (List.getD v7 (Int.toNat v0) (0 : Int) - v3))) (Int.toNat v1) (0 : Int) + v3)))))])])
 (none))
 (none))
 (none))
 (none))
 (none))
 (none))
 (none))
 (none))
 (some [(.ptr true [(.arr true (v4) (.ints .i64 (v5)))]), (.ptr true [(.arr true (v6) (.ints .i64 (v7)))])]) := by kernel_rfl

end Go.Proofs.YtoldpdhhfmlckaaGreat
end
section
namespace Go.Proofs.YtoldpdhhfmlckaaGreat
open Go.Ev
set_option maxRecDepth 20000
theorem qch (k : Nat) (hk : 2000000 ≤ k) (a : Int) (b : Int) (c : Int) : go (k + 2) impl_ShareOut [(.int .i64 (a)), (.int .i64 (b)), (.int .i64 (c))] = some [.int .i64 (qx7 a b c)] := by
  rw [qjb]
  unfold qx7
  cases hm : inR c 1 10000000
  · simp (disch := omega) only [qdy, hm, bit, qa9, nth0, qzt, Bool.not_false, qhl, Bool.false_and, qhj]
  cases hp : inR b 0 c
  · simp (disch := omega) only [qdy, hm, bit, hp, qa9, nth0, qzt, Bool.not_false, qhl, Bool.not_true, qhj, Bool.false_and, Bool.and_false]
  have hm' := qn9.1 hm
  cases ht : inR a 0 (1000 * c)
  · simp (disch := omega) only [qdy, hm, bit, hp, q0l, ht, dF, Bool.not_false, qhl, qa9, nth0, qzt, Bool.not_true, qhj, Bool.and_false]
  have q := qyb hm hp ht
  have q2 : 0 ≤ Int.tdiv (a * b) c ∧ Int.tdiv (a * b) c ≤ 100000000000000000 := by
    have := qzo (x := a * b) (y := c) (B := 100000000000000000) (by omega) (by omega) (by omega)
    rw [Int.tdiv_eq_ediv_of_nonneg q.1] at *
    exact ⟨Int.ediv_nonneg q.1 (by omega), this.2⟩
  simp (disch := omega) only [qdy, hm, bit, hp, q0l, ht, dF, Bool.not_false, qhl, qa9, nth0, qzt, Bool.not_true, qhj, Bool.and_true]
theorem qb4 (k : Nat) (hk : 2000000 ≤ k) (a : Int) (b : Int) (c : Int) (d : Int) : go (k + 3) impl_LeafOut [(.int .i64 (a)), (.int .i64 (b)), (.int .i64 (c)), (.int .i64 (d))] = some [.int .i64 (loA a b c d), .int .i64 (loB a b c d)] := by
  rw [qir]
  unfold loA loB loOk
  cases hm : inR b 1 10000000
  · simp (disch := omega) only [qdy, hm, bit, qa9, nth0, qzt, Bool.not_false, qhl, Bool.false_and, qhj]
  have hm' := qn9.1 hm
  cases ht : inR a 0 (1000 * b)
  · simp (disch := omega) only [qdy, hm, bit, q0l, ht, qa9, nth0, qzt, Bool.not_false, qhl, Bool.not_true, qhj, Bool.false_and, Bool.and_false]
  cases hr : inR c 0 b
  · simp (disch := omega) only [qdy, hm, bit, q0l, ht, hr, qa9, nth0, qzt, Bool.not_false, qhl, Bool.not_true, qhj, Bool.false_and, Bool.and_false]
  have hr' := qn9.1 hr
  cases hl : inR d 0 (b - c)
  · simp (disch := omega) only [qdy, hm, bit, q0l, ht, hr, hl, qa9, nth0, qzt, Bool.not_false, qhl, Bool.not_true, qhj, Bool.and_false]
  have hl' := qn9.1 hl
  have s1 := qx9 a c b; have s2 := qx9 a (c + d) b
  simp (disch := omega) only [qdy, hm, bit, q0l, ht, hr, hl, qch, qa9, nth0, qzu, qzt, Bool.not_true, qhj, Bool.and_true, qhl]
theorem qbt (k : Nat) (hk : 2000000 ≤ k) (a b : Int) (hb : 0 < b) (ha : -1000000000000 ≤ a) (ha' : a ≤ 1000000000000) : go (k + 1) impl_DivTrunc [.int .i64 a, .int .i64 b] = some [.int .i64 (Int.tdiv a b)] := by
  rw [qif]
  have := qzo hb ha ha'
  simp (disch := omega) only [dF, Bool.not_false, q0l, qhl, qhj]
theorem qbp (k : Nat) (hk : 2000000 ≤ k) (a b c : Int) (h : b ≤ c) : go (k + 1) impl_Clamp [.int .i64 a, .int .i64 b, .int .i64 c] = some [.int .i64 (max b (min c a))] := by
  rw [qib]
  simp (disch := omega) only [dF, imax, imin, qhj]
  rw [show min c (max b a) = max b (min c a) by omega]
theorem qc7 (k : Nat) (hk : 2000000 ≤ k) (e c a f d b : Int) (ha : 0 ≤ a ∧ a ≤ 161000000) (hb : 0 ≤ b ∧ b ≤ 161000000) (hc : 0 ≤ c ∧ c ≤ 10000000) (hd : 0 ≤ d ∧ d ≤ 10000000) (he : inR e 0 4 = true) (hf : inR f 0 4 = true) :
    go (k + 4) impl_flux [.agg [.int .i64 e, .int .i64 c, .int .i64 a], .agg [.int .i64 f, .int .i64 d, .int .i64 b]] = some [.int .i64 (quh a b c d e f)] := by
  rw [qkc]
  have w1 := q0e he; have w2 := q0e hf; have w3 := q0f (max f e)
  have p := qtx (x := a - b) (w := q0d (max f e)) (A := 161000000) (by omega) (by omega) w3.1 w3.2
  have t := qzo (x := (a - b) * q0d (max f e)) (y := 32 * (q0d e + q0d f)) (B := 2576000000) (by omega) (by omega) (by omega)
  have t1 : Int.tdiv c 4 = c / 4 := Int.tdiv_eq_ediv_of_nonneg (by omega)
  have t2 : Int.tdiv d 4 = d / 4 := Int.tdiv_eq_ediv_of_nonneg (by omega)
  simp (disch := omega) only [qcp, imax, q0l, t2, t1, qbp, qa9, nth0, qzu, qbt]
  rfl
theorem qds (k : Nat) (hk : 2000000 ≤ k) (r : Int) (z1 z2 z3 z4 : Bool) (l : List Cell) (m t b : List Int) (F : StF r l m t b) (i : Nat) (hi : i < l.length) :
    go (k + 2) impl_State_side [.agg [.int .i64 (r), .arr false (z1) (.r3 (l)), .arr false (z2) (.ints .i64 (m)), .arr false (z3) (.ints .i64 (t)), .arr false (z4) (.ints .i64 (b))], .int .i64 (i : Int)] = some [.agg [.int .i64 (qqx l i), .int .i64 (m.getD i 0), .int .i64 (surf l m b i)]] := by
  rw [qjw]
  have hl := F.len; have hm := F.ml
  have e1 := qdv (k + 1 - 1) (by omega) r z1 z2 z3 z4 l m t b F i hi
  rw [show k + 1 - 1 + 1 = k + 1 by omega] at e1
  simp (disch := omega) only [dT, nI, Bool.and_true, e1, Int.toNat_natCast, qa9, nth0, qzu, qhl]
theorem qdr (k : Nat) (hk : 2000000 ≤ k) (r : Int) (z1 z2 z3 z4 : Bool) (l : List Cell) (m t b : List Int) (F : StF r l m t b) (i : Nat) (hi : i + 1 < l.length) :
    go (k + 5) impl_State_flux [.agg [.int .i64 (r), .arr false (z1) (.r3 (l)), .arr false (z2) (.ints .i64 (m)), .arr false (z3) (.ints .i64 (t)), .arr false (z4) (.ints .i64 (b))], .int .i64 (i : Int)] = some [.int .i64 (fl l m b i)] := by
  rw [qjk]
  have hl := F.len
  have h1 := F.at i; have h2 := F.at (i + 1); have s1 := qza F i; have s2 := qza F (i + 1)
  have v1 := F.lev i; have v2 := F.lev (i + 1)
  have e1 := qds (k + 4 - 2) (by omega) r z1 z2 z3 z4 l m t b F i (by omega)
  have e2 := qds (k + 4 - 2) (by omega) r z1 z2 z3 z4 l m t b F (i + 1) hi
  rw [show k + 4 - 2 + 2 = k + 4 by omega] at e1 e2
  have e3 := qc7 (k + 4 - 4) (by omega) (qqx l i) (m.getD i 0) (surf l m b i) (qqx l (i + 1)) (m.getD (i + 1) 0) (surf l m b (i + 1)) s1 s2 ⟨h1.1, h1.2.1⟩ ⟨h2.1, h2.2.1⟩ v1 v2
  rw [show k + 4 - 4 + 4 = k + 4 by omega] at e3
  simp (disch := omega) only [e1, qgp, q0l, e2, qa9, nth0, qgr, qzu, qgs, qg3, e3]
  rfl
def nats (l : List Nat) : List Int := l.map (fun i : Nat => (i : Int))
theorem qt1 (l : List Nat) : (nats l).length = l.length := by simp [nats]
theorem qt0 {l : List Nat} {i : Nat} (h : i < l.length) : (nats l).getD i 0 = ((l.getD i 0 : Nat) : Int) := by simp [nats, h]
def qap (tk : Int) (l : List Cell) : Nat → Nat → List Nat
  | 0, _ => []
  | n + 1, i => if qoc tk (qnh l i) = true then i :: qap tk l n (i + 1) else qap tk l n (i + 1)
theorem qaq (tk : Int) (l : List Cell) : ∀ n i, (qap tk l n i).length ≤ n
  | 0, i => by simp [qap]
  | n + 1, i => by
    have := qaq tk l n (i + 1)
    unfold qap
    split
    · simp only [List.length_cons]; omega
    · omega
theorem qar (tk : Int) (l : List Cell) : ∀ n i j, j ∈ qap tk l n i ↔ (i ≤ j ∧ j < i + n) ∧ qoc tk (qnh l j) = true
  | 0, i, j => by simp [qap]; omega
  | n + 1, i, j => by
    have ih := qar tk l n (i + 1) j
    unfold qap
    split
    · rename_i h
      rw [List.mem_cons, ih]
      constructor
      · rintro (rfl | ⟨h1, h2⟩)
        · exact ⟨by omega, h⟩
        · exact ⟨by omega, h2⟩
      · rintro ⟨h1, h2⟩
        by_cases e : j = i
        · exact .inl e
        · exact .inr ⟨by omega, h2⟩
    · rename_i h
      rw [ih]
      constructor
      · rintro ⟨h1, h2⟩; exact ⟨by omega, h2⟩
      · rintro ⟨h1, h2⟩
        refine ⟨?_, h2⟩
        by_cases e : j = i
        · subst e; exact absurd h2 h
        · omega
def acts (tk : Int) (l : List Cell) : List Nat := qap tk l (l.length - 1) 0
theorem qro (k : Nat) (hk : 2000000 ≤ k) (fu : List (Nat × Nat)) (z : Bool) (tk r : Int) (l : List Cell) (hl : (l.length : Int) ≤ 1000) (h1 : 1 ≤ l.length) : ∀ (n i : Nat) (acc : List Nat), i ≤ l.length - 1 → l.length - 1 - i < n → acc.length ≤ i →
    lp (k + 4) impl_Mesh_active [] fu 3 (n) (qv4 tk ((l.length - 1 : Nat) : Int) (i : Int) z l r false (nats acc)) = some [.arr true false (.ints .i64 (nats (acc ++ qap tk l (l.length - 1 - i) i)))]
  | 0, i, acc, hi, hn, ha => by omega
  | n + 1, i, acc, hi, hn, ha => by
    rw [qou]
    have nl := qt1 acc
    by_cases h : i < l.length - 1
    · rw [show l.length - 1 - i = (l.length - 1 - (i + 1)) + 1 by omega, qap]
      have eL := qc6 (k + 4 - 1) (by omega) r z l i (by omega) (by omega)
      rw [show k + 4 - 1 + 1 = k + 4 by omega] at eL
      have hd : (i : Int) < ((l.length - 1 : Nat) : Int) := by omega
      rw [dT hd, qhl, eL, qa9, nth0, qzu, qb0 _ (by omega), qa9, nth0, bit, qzt]
      cases g : qoc tk (qnh l i)
      · have e := qro k hk fu z tk r l hl h1 n (i + 1) acc (by omega) (by omega) (by omega)
        rw [if_neg (by simp), qhj]
        simp (disch := omega) only [qgp, q0l, e]
      · have e := qro k hk fu z tk r l hl h1 n (i + 1) (acc ++ [i]) (by omega) (by omega) (by simp; omega)
        rw [if_pos rfl, qhl]
        have q : nats acc ++ [(i : Int)] = nats (acc ++ [i]) := by simp [nats]
        have ql : (nats (acc ++ [i])).length = acc.length + 1 := by simp [nats]
        rw [show acc ++ i :: qap tk l (l.length - 1 - (i + 1)) (i + 1) = (acc ++ [i]) ++ qap tk l (l.length - 1 - (i + 1)) (i + 1) by simp]
        simp (disch := omega) only [q, ql, big0, dT, qgp, q0l, dF, Bool.and_false, e, qhl]
    · simp (disch := omega) only [dF, bit, big0, qgp, q0l, Bool.false_and, qhj]
      rw [show l.length - 1 - i = 0 by omega, qap, List.append_nil]
theorem qcu (k : Nat) (hk : 2000000 ≤ k) (a0 : Int) (a1z : Bool) (a1 : List (Int × Int × Int)) (b : Int) (hl : (a1.length : Int) ≤ 1000) (h1 : 1 ≤ a1.length) : go (k + 5) impl_Mesh_active [(.agg [(.int .i64 (a0)), (.arr false (a1z) (.r3 (a1)))]), (.int .i64 (b))] = some [.arr true false (.ints .i64 (nats (acts b a1)))] := by
  rw [qiu]
  have e := qro k hk [] a1z b a0 a1 hl h1 (k + 4) 0 [] (by omega) (by omega) (by simp)
  rw [List.nil_append, show nats [] = [] from rfl] at e
  simp (disch := omega) only [nI, qgo, q0l]
  exact e
end Go.Proofs.YtoldpdhhfmlckaaGreat
end
section
namespace Go.Proofs.YtoldpdhhfmlckaaGreat
open Go.Ev
set_option maxRecDepth 20000
theorem qum (o : Bool) (d0 : D) (l : List D) : (D.ptr o (d0 :: l)).cell 0 = d0 := Eq.trans rfl rfl
theorem qtg {fs : List Nat} {p : Nat} (h : p < fs.length) (j : Nat) : j ∈ fs.take (p + 1) ↔ j ∈ fs.take p ∨ j = fs.getD p 0 := by
  rw [List.take_succ_eq_append_getElem h, List.mem_append, List.mem_singleton]
  simp [h]
def Rk (tk : Int) (l : List Cell) (m b : List Int) (fs : List Nat) (j : Nat) : Int := if j ∈ fs then rgt tk l m b j else 0
def Lk (tk : Int) (l : List Cell) (m b : List Int) (fs : List Nat) (j : Nat) : Int := if 1 ≤ j ∧ j - 1 ∈ fs then lft tk l m b j else 0
theorem qr5 (k : Nat) (hk : 2000000 ≤ k) (fu : List (Nat × Nat)) (a0 : Int) (a1z : Bool) (a1 : List Cell) (a2z : Bool) (a2 : List Int) (a3z : Bool) (a3 : List Int) (a4z : Bool) (a4 : List Int) (z1 z2 z3 z4 z5 : Bool) (r : Int) (l : List Cell) (m t b : List Int) (tk : Int) (F : StF r l m t b) (fs : List Nat) (hf : ∀ i ∈ fs, i + 1 < l.length ∧ qoc tk (qnh l i) = true) (hfl : (fs.length : Int) ≤ 1000) : ∀ (n p : Nat), p ≤ fs.length → fs.length - p < n →
    lp (k + 5) impl_State_move [(.ptr true [(.int .i64 (a0)), (.arr true (a1z) (.r3 (a1))), (.arr true (a2z) (.ints .i64 (a2))), (.arr true (a3z) (.ints .i64 (a3))), (.arr true (a4z) (.ints .i64 (a4)))])] fu 2 (n) (qwi (fs.length : Int) (p : Int) z1 l z2 m z3 t z4 b r false (tab l.length (Rk tk l m b (fs.take p))) false (tab l.length (Lk tk l m b (fs.take p))) z5 (nats fs)) = lp (k + 5) impl_State_move [(.ptr true [(.int .i64 (a0)), (.arr true (a1z) (.r3 (a1))), (.arr true (a2z) (.ints .i64 (a2))), (.arr true (a3z) (.ints .i64 (a3))), (.arr true (a4z) (.ints .i64 (a4)))])] fu 12 (k + 5) (qwg (l.length : Int) 0 z1 l z2 m z3 t z4 b r false (tab l.length (Rk tk l m b fs)) false (tab l.length (Lk tk l m b fs)) false (List.replicate l.length 0) false (List.replicate l.length 0))
  | 0, p, hp, hn => by omega
  | n + 1, p, hp, hn => by
    have hl := F.len; have hm := F.ml
    have nl := qt1 fs
    rw [qo8]
    by_cases h : p < fs.length
    · obtain ⟨h1, h2⟩ := hf _ (qnw h 0)
      have ng := qt0 h
      have hz : ff tk l m b (fs.getD p 0) = fl l m b (fs.getD p 0) := by unfold ff qao; rw [h2, dT h1]; rfl
      have b0 := qnp F (fs.getD p 0); have a0' := F.at (fs.getD p 0); have a1' := F.at (fs.getD p 0 + 1)
      have IH := qr5 k hk fu a0 a1z a1 a2z a2 a3z a3 a4z a4 z1 z2 z3 z4 z5 r l m t b tk F fs hf hfl n (p + 1) (by omega) (by omega)
      have eF := qdr (k + 5 - 5) (by omega) r z1 z2 z3 z4 l m t b F (fs.getD p 0) h1
      rw [show k + 5 - 5 + 5 = k + 5 by omega] at eF
      by_cases g : 0 < fl l m b (fs.getD p 0)
      · have q1 : tab l.length (fun j => if j = fs.getD p 0 then fl l m b (fs.getD p 0) else Rk tk l m b (fs.take p) j) = tab l.length (Rk tk l m b (fs.take (p + 1))) := qzd fun j hj => by
          unfold Rk
          simp only [qtg h]
          by_cases e : j = fs.getD p 0
          · rw [if_pos e, if_pos (.inr e), e]; unfold rgt; rw [hz]; omega
          · rw [if_neg e]; simp only [e, or_false]
        have q2 : tab l.length (Lk tk l m b (fs.take p)) = tab l.length (Lk tk l m b (fs.take (p + 1))) := qzd fun j hj => by
          unfold Lk
          simp only [qtg h]
          by_cases e : 1 ≤ j ∧ j - 1 = fs.getD p 0
          · have : lft tk l m b j = 0 := by unfold lft; rw [if_pos e.1, e.2, hz]; omega
            rw [this]; simp
          · have : (1 ≤ j ∧ (j - 1 ∈ fs.take p ∨ j - 1 = fs.getD p 0)) = (1 ≤ j ∧ j - 1 ∈ fs.take p) := propext ⟨fun hh => ⟨hh.1, hh.2.resolve_right fun e2 => e ⟨hh.1, e2⟩⟩, fun hh => ⟨hh.1, .inl hh.2⟩⟩
            simp only [this]
        rw [← q1, ← q2] at IH
        simp (disch := omega) only [dT, nI, nl, Bool.and_true, Int.toNat_natCast, ng, eF, qzf, qgp, q0l, qzh, qhl, qa9, nth0, qzu, IH, big0]
      · have q1 : tab l.length (fun j => if j = fs.getD p 0 + 1 then 0 - fl l m b (fs.getD p 0) else Lk tk l m b (fs.take p) j) = tab l.length (Lk tk l m b (fs.take (p + 1))) := qzd fun j hj => by
          unfold Lk
          simp only [qtg h]
          by_cases e : j = fs.getD p 0 + 1
          · rw [if_pos e, if_pos ⟨by omega, .inr (by omega)⟩]; unfold lft; rw [if_pos (by omega), show j - 1 = fs.getD p 0 by omega, hz]; omega
          · rw [if_neg e]
            have : (1 ≤ j ∧ (j - 1 ∈ fs.take p ∨ j - 1 = fs.getD p 0)) = (1 ≤ j ∧ j - 1 ∈ fs.take p) := propext ⟨fun hh => ⟨hh.1, hh.2.resolve_right fun e2 => e (by omega)⟩, fun hh => ⟨hh.1, .inl hh.2⟩⟩
            simp only [this]
        have q2 : tab l.length (Rk tk l m b (fs.take p)) = tab l.length (Rk tk l m b (fs.take (p + 1))) := qzd fun j hj => by
          unfold Rk
          simp only [qtg h]
          by_cases e : j = fs.getD p 0
          · have : rgt tk l m b j = 0 := by unfold rgt; rw [e, hz]; omega
            rw [this]; simp
          · simp only [e, or_false]
        rw [← q1, ← q2] at IH
        simp (disch := omega) only [dT, nI, nl, Bool.and_true, Int.toNat_natCast, ng, eF, qzf, qgp, q0l, qzh, qhl, qa9, nth0, qzu, dF, IH, qhj, big0]
    · rw [List.take_of_length_le (by omega)]
      simp (disch := omega) only [dF, dT, nI, Bool.and_false, Int.toNat_natCast, qgp, q0l, qhj, Bool.and_true, big0, qhl]
      rw [hm]
def gk (A B : Nat → Int) (k j : Nat) : Int := 0 - (if j < k then A j + B j else 0) + (if 1 ≤ j ∧ j ≤ k then A (j - 1) else 0) + (if j + 1 < k then B (j + 1) else 0)
theorem qn0 (L : Nat) (A B : Nat → Int) (i : Nat) : tab L (upd (gk A B i) i (A i) (B i)) = tab L (gk A B (i + 1)) := qzd fun j hj => by
  unfold upd
  by_cases g1 : 1 ≤ i ∧ j = i - 1
  · obtain ⟨g1, rfl⟩ := g1
    rw [if_pos ⟨g1, rfl⟩]
    unfold gk
    rw [if_pos (show i - 1 < i by omega), if_neg (show ¬ (i - 1 + 1 < i) by omega), if_pos (show i - 1 < i + 1 by omega), if_pos (show i - 1 + 1 < i + 1 by omega), show i - 1 + 1 = i by omega]
    have e2 : (1 ≤ i - 1 ∧ i - 1 ≤ i) = (1 ≤ i - 1 ∧ i - 1 ≤ i + 1) := by rw [eq_iff_iff]; omega
    simp only [e2]; omega
  · rw [if_neg g1]
    by_cases g2 : j = i + 1
    · subst g2
      rw [if_pos rfl]
      unfold gk
      rw [if_neg (show ¬ (i + 1 < i) by omega), if_neg (show ¬ (1 ≤ i + 1 ∧ i + 1 ≤ i) by omega), if_neg (show ¬ (i + 1 + 1 < i) by omega), if_neg (show ¬ (i + 1 < i + 1) by omega), if_pos (show 1 ≤ i + 1 ∧ i + 1 ≤ i + 1 by omega), if_neg (show ¬ (i + 1 + 1 < i + 1) by omega), Nat.add_sub_cancel]; omega
    · rw [if_neg g2]
      by_cases g3 : j = i
      · subst g3
        rw [if_pos rfl]
        unfold gk
        rw [if_neg (show ¬ (j < j) by omega), if_neg (show ¬ (j + 1 < j) by omega), if_pos (show j < j + 1 by omega), if_neg (show ¬ (j + 1 < j + 1) by omega)]
        have e2 : (1 ≤ j ∧ j ≤ j) = (1 ≤ j ∧ j ≤ j + 1) := by rw [eq_iff_iff]; omega
        simp only [e2]; omega
      · rw [if_neg g3]
        unfold gk
        have e1 : (j < i) = (j < i + 1) := by rw [eq_iff_iff]; omega
        have e2 : (1 ≤ j ∧ j ≤ i) = (1 ≤ j ∧ j ≤ i + 1) := by rw [eq_iff_iff]; omega
        have e3 : (j + 1 < i) = (j + 1 < i + 1) := by rw [eq_iff_iff]; omega
        simp only [e1, e2, e3]
theorem qnz {A B : Nat → Int} {C : Int} (hA : ∀ j, -C ≤ A j ∧ A j ≤ C) (hB : ∀ j, -C ≤ B j ∧ B j ≤ C) (k j : Nat) : -(4 * C) ≤ gk A B k j ∧ gk A B k j ≤ 4 * C := by
  have a := hA j; have b := hB j; have c := hA (j - 1); have d := hB (j + 1)
  unfold gk
  split <;> split <;> split <;> omega
theorem qn1 (L : Nat) (A B : Nat → Int) : List.replicate L (0 : Int) = tab L (gk A B 0) := by
  rw [qzj]
  refine qzd fun j hj => ?_
  unfold gk
  rw [if_neg (by omega), if_neg (by omega), if_neg (by omega)]; rfl
def sh (G : Nat → Int) (i u : Nat) (x : Int) (j : Nat) : Int := if j = u then G u + x else if j = i then G i - x else G j
theorem qd1 (k : Nat) (hk : 2000000 ≤ k) (L : Nat) (G H : Nat → Int) (i u : Nat) (x y : Int) (z z' : Bool) (hi : i < L) (hu : u < L) (hiu : i ≠ u) (hx : 0 < x) (hL : (L : Int) ≤ 1000) (hx2 : x ≤ 1000000000000000000) (hy : -1000000000000000000 ≤ y ∧ y ≤ 1000000000000000000)
    (g1 : -1000000000000000000 ≤ G i ∧ G i ≤ 1000000000000000000) (g2 : -1000000000000000000 ≤ G u ∧ G u ≤ 1000000000000000000) (g3 : -1000000000000000000 ≤ H i ∧ H i ≤ 1000000000000000000) (g4 : -1000000000000000000 ≤ H u ∧ H u ≤ 1000000000000000000) :
    go (k + 1) impl_State_move_1 [.int .i64 (i : Int), .int .i64 (u : Int), .int .i64 x, .int .i64 y, .ptr true [.arr true z (.ints .i64 (tab L G))], .ptr true [.arr true z' (.ints .i64 (tab L H))]] = some [.ptr true [.arr true z (.ints .i64 (tab L (sh G i u x)))], .ptr true [.arr true z' (.ints .i64 (tab L (sh H i u y)))]] := by
  rw [qjq]
  simp (disch := omega) only [dT, nI, qzf, Bool.and_true, Int.toNat_natCast, qze, q0l, qzh, if_neg, qhl]
  rfl
theorem qd2 (k : Nat) (hk : 2000000 ≤ k) (a b x y : Int) (z z' : Bool) (l l' : List Int) (hx : x = 0) :
    go (k + 1) impl_State_move_1 [.int .i64 a, .int .i64 b, .int .i64 x, .int .i64 y, .ptr true [.arr true z (.ints .i64 l)], .ptr true [.arr true z' (.ints .i64 l')]] = some [.ptr true [.arr true z (.ints .i64 l)], .ptr true [.arr true z' (.ints .i64 l')]] := by
  rw [qjq]
  simp (disch := omega) only [dF, nI, List.length_set, qhj]
theorem qx6 {G : Nat → Int} {i : Nat} {A B : Int} (g : 1 ≤ i) : sh (sh G i (i + 1) A) i (i - 1) B = upd G i A B := by
  funext j
  unfold sh upd
  by_cases q1 : j = i - 1
  · subst q1; simp (disch := omega) only [if_neg, if_pos, itT, and_true]
  · by_cases q2 : j = i + 1
    · subst q2; simp (disch := omega) only [if_pos, if_neg, itT]
    · by_cases q3 : j = i
      · subst q3; simp (disch := omega) only [if_pos, if_neg, itT]
      · simp (disch := omega) only [if_neg]
theorem sh_r {G : Nat → Int} {i : Nat} {A B : Int} (hB : B = 0) : sh G i (i + 1) A = upd G i A B := by
  funext j
  unfold sh upd
  subst hB
  by_cases q1 : 1 ≤ i ∧ j = i - 1
  · obtain ⟨q0, rfl⟩ := q1; simp (disch := omega) only [if_neg, and_true, Int.add_zero, if_pos]
  · by_cases q2 : j = i + 1
    · subst q2; simp (disch := omega) only [if_neg, itT]
    · by_cases q3 : j = i
      · subst q3; simp (disch := omega) only [itT, if_neg, Int.sub_zero]
      · simp (disch := omega) only [if_neg]
theorem sh_l {G : Nat → Int} {i : Nat} {A B : Int} (g : 1 ≤ i) (hA : A = 0) : sh G i (i - 1) B = upd G i A B := by
  funext j
  unfold sh upd
  subst hA
  by_cases q1 : j = i - 1
  · subst q1; simp (disch := omega) only [if_neg, itT, and_true, if_pos]
  · by_cases q2 : j = i + 1
    · subst q2; simp (disch := omega) only [if_neg, Int.add_zero, itT]
    · by_cases q3 : j = i
      · subst q3; simp (disch := omega) only [itT, if_neg, Int.sub_zero]
      · simp (disch := omega) only [if_neg]
theorem sh_0 {G : Nat → Int} {i : Nat} {A B : Int} (hA : A = 0) (hB : B = 0) : G = upd G i A B := by
  funext j
  unfold upd
  subst hA hB
  by_cases q1 : 1 ≤ i ∧ j = i - 1
  · simp (disch := omega) only [Int.add_zero, if_pos]
  · by_cases q2 : j = i + 1
    · subst q2; simp (disch := omega) only [Int.add_zero, if_neg, itT]
    · by_cases q3 : j = i
      · subst q3; simp (disch := omega) only [Int.sub_zero, itT, if_neg]
      · simp (disch := omega) only [if_neg]
theorem rgtB {r : Int} {l : List Cell} {m t b : List Int} (F : StF r l m t b) (tk : Int) (j : Nat) : 0 ≤ rgt tk l m b j ∧ rgt tk l m b j ≤ 2500000 := by
  have f1 := qnn F tk j; have a0 := F.at j
  unfold rgt; omega
theorem lftB {r : Int} {l : List Cell} {m t b : List Int} (F : StF r l m t b) (tk : Int) (j : Nat) : 0 ≤ lft tk l m b j ∧ lft tk l m b j ≤ 2500000 := by
  have f1 := qnn F tk (j - 1); have a0 := F.at (j - 1 + 1)
  unfold lft
  split <;> omega
set_option maxHeartbeats 1000000 in
theorem qr3 (k : Nat) (hk : 2000000 ≤ k) (fu : List (Nat × Nat)) (a0 : Int) (a1z : Bool) (a1 : List Cell) (a2z : Bool) (a2 : List Int) (a3z : Bool) (a3 : List Int) (a4z : Bool) (a4 : List Int) (z1 z2 z3 z4 : Bool) (r : Int) (l : List Cell) (m t b : List Int) (tk : Int) (F : StF r l m t b) : ∀ (n i : Nat), i ≤ l.length → l.length - i < n →
    lp (k + 5) impl_State_move [(.ptr true [(.int .i64 (a0)), (.arr true (a1z) (.r3 (a1))), (.arr true (a2z) (.ints .i64 (a2))), (.arr true (a3z) (.ints .i64 (a3))), (.arr true (a4z) (.ints .i64 (a4)))])] fu 12 (n) (qwg (l.length : Int) (i : Int) z1 l z2 m z3 t z4 b r false (tab l.length (rgt tk l m b)) false (tab l.length (lft tk l m b)) false (tab l.length (gk (rgt tk l m b) (lft tk l m b) i)) false (tab l.length (gk (outA tk l m t b) (outB tk l m t b) i))) =
      lp (k + 5) impl_State_move [(.ptr true [(.int .i64 (a0)), (.arr true (a1z) (.r3 (a1))), (.arr true (a2z) (.ints .i64 (a2))), (.arr true (a3z) (.ints .i64 (a3))), (.arr true (a4z) (.ints .i64 (a4)))])] fu 19 (k + 5) (qwh (l.length : Int) 0 z1 l z2 m z3 t z4 b r false (tab l.length (gk (rgt tk l m b) (lft tk l m b) l.length)) false (tab l.length (gk (outA tk l m t b) (outB tk l m t b) l.length)))
  | 0, i, hi, hn => by omega
  | n + 1, i, hi, hn => by
    have hl := F.len; have hm := F.ml; have ht := F.tl
    rw [qo6]
    by_cases h : i < l.length
    · have IH := qr3 k hk fu a0 a1z a1 a2z a2 a3z a3 a4z a4 z1 z2 z3 z4 r l m t b tk F n (i + 1) (by omega) (by omega)
      rw [← qn0 l.length (rgt tk l m b) (lft tk l m b) i, ← qn0 l.length (outA tk l m t b) (outB tk l m t b) i] at IH
      have B1 : ∀ p j, -10000000 ≤ gk (rgt tk l m b) (lft tk l m b) p j ∧ gk (rgt tk l m b) (lft tk l m b) p j ≤ 10000000 := fun p j => qnz (C := 2500000) (fun j => by have := rgtB F tk j; omega) (fun j => by have := lftB F tk j; omega) p j
      have B2 : ∀ p j, -400000000000000000 ≤ gk (outA tk l m t b) (outB tk l m t b) p j ∧ gk (outA tk l m t b) (outB tk l m t b) p j ≤ 400000000000000000 := fun p j => qnz (C := 100000000000000000) (fun j => by have := qub tk l m t b j; omega) (fun j => qud tk l m t b j) p j
      have r1 := rgtB F tk i; have r2 := lftB F tk i
      have A := qub tk l m t b i; have B := qud tk l m t b i
      have b1 := B1 i i; have b2 := B1 i (i + 1); have b3 := B1 i (i - 1); have c1 := B2 i i; have c2 := B2 i (i + 1); have c3 := B2 i (i - 1)
      have hA : loA (t.getD i 0) (m.getD i 0) (rgt tk l m b i) (lft tk l m b i) = outA tk l m t b i := rfl
      have hB : loB (t.getD i 0) (m.getD i 0) (rgt tk l m b i) (lft tk l m b i) = outB tk l m t b i := rfl
      have hi1 : 0 < rgt tk l m b i → i + 1 < l.length := fun g4 => by
        rcases Nat.lt_or_ge (i + 1) l.length with q | q
        · exact q
        · unfold rgt at g4; rw [qnm q] at g4; omega
      have hi0 : 0 < lft tk l m b i → 1 ≤ i := fun g4 => by
        rcases Nat.lt_or_ge 0 i with q | q
        · exact q
        · unfold lft at g4; rw [if_neg (by omega)] at g4; omega
      have zA : rgt tk l m b i = 0 → outA tk l m t b i = 0 := quc
      have zB : lft tk l m b i = 0 → outB tk l m t b i = 0 := que
      by_cases g4 : 0 < rgt tk l m b i
      · have i1 := hi1 g4
        have s1 := qd1 (k + 5 - 1) (by omega) l.length (gk (rgt tk l m b) (lft tk l m b) i) (gk (outA tk l m t b) (outB tk l m t b) i) i (i + 1) (rgt tk l m b i) (outA tk l m t b i) false false h i1 (by omega) g4 (by omega) (by omega) (by omega) (by omega) (by omega) (by omega) (by omega)
        rw [show k + 5 - 1 + 1 = k + 5 by omega] at s1
        by_cases g5 : 0 < lft tk l m b i
        · have i0 := hi0 g5
          have e1 : sh (gk (rgt tk l m b) (lft tk l m b) i) i (i + 1) (rgt tk l m b i) i = gk (rgt tk l m b) (lft tk l m b) i i - rgt tk l m b i := by unfold sh; rw [if_neg (by omega), if_pos rfl]
          have e2 : sh (gk (rgt tk l m b) (lft tk l m b) i) i (i + 1) (rgt tk l m b i) (i - 1) = gk (rgt tk l m b) (lft tk l m b) i (i - 1) := by unfold sh; rw [if_neg (by omega), if_neg (by omega)]
          have e3 : sh (gk (outA tk l m t b) (outB tk l m t b) i) i (i + 1) (outA tk l m t b i) i = gk (outA tk l m t b) (outB tk l m t b) i i - outA tk l m t b i := by unfold sh; rw [if_neg (by omega), if_pos rfl]
          have e4 : sh (gk (outA tk l m t b) (outB tk l m t b) i) i (i + 1) (outA tk l m t b i) (i - 1) = gk (outA tk l m t b) (outB tk l m t b) i (i - 1) := by unfold sh; rw [if_neg (by omega), if_neg (by omega)]
          have s2 := qd1 (k + 5 - 1) (by omega) l.length (sh (gk (rgt tk l m b) (lft tk l m b) i) i (i + 1) (rgt tk l m b i)) (sh (gk (outA tk l m t b) (outB tk l m t b) i) i (i + 1) (outA tk l m t b i)) i (i - 1) (lft tk l m b i) (outB tk l m t b i) false false h (by omega) (by omega) g5 (by omega) (by omega) (by omega) (by omega) (by omega) (by omega) (by omega)
          rw [show k + 5 - 1 + 1 = k + 5 by omega] at s2
          rw [← qx6 i0, ← qx6 i0] at IH
          simp (disch := omega) only [dT, nI, Bool.and_true, qzf, Int.toNat_natCast, qze, qb4, hA, hB, qgp, q0l, qgo, qhl, qa9, nth0, qzu, s1, nth1, qum, qt3, qob, s2]
          exact IH
        · have z0 : lft tk l m b i = 0 := by omega
          rw [← sh_r z0, ← sh_r (zB z0)] at IH
          simp (disch := omega) only [dT, nI, Bool.and_true, qzf, Int.toNat_natCast, qze, qb4, hA, hB, qgp, q0l, qd2, qa9, nth0, qum, qt3, qob, nth1, qhl, qzu, s1]
          exact IH
      · have z1' : rgt tk l m b i = 0 := by omega
        by_cases g5 : 0 < lft tk l m b i
        · have i0 := hi0 g5
          have s2 := qd1 (k + 5 - 1) (by omega) l.length (gk (rgt tk l m b) (lft tk l m b) i) (gk (outA tk l m t b) (outB tk l m t b) i) i (i - 1) (lft tk l m b i) (outB tk l m t b i) false false h (by omega) (by omega) g5 (by omega) (by omega) (by omega) (by omega) (by omega) (by omega) (by omega)
          rw [show k + 5 - 1 + 1 = k + 5 by omega] at s2
          rw [← sh_l i0 z1', ← sh_l i0 (zA z1')] at IH
          simp (disch := omega) only [dT, nI, Bool.and_true, qzf, Int.toNat_natCast, qze, qb4, hA, hB, qgp, q0l, qd2, qgo, qhl, qa9, nth0, qum, qt3, qob, nth1, qzu, s2]
          exact IH
        · have z0 : lft tk l m b i = 0 := by omega
          rw [← sh_0 z1' z0, ← sh_0 (zA z1') (zB z0)] at IH
          simp (disch := omega) only [dT, nI, Bool.and_true, qzf, Int.toNat_natCast, qze, qb4, hA, hB, qgp, q0l, qd2, qa9, nth0, qum, qt3, qob, nth1, qhl]
          exact IH
    · simp (disch := omega) only [dF, dT, nI, Bool.and_false, Bool.true_and, Int.toNat_natCast, qgp, q0l, qhj]
      rw [show i = l.length by omega, hm]
end Go.Proofs.YtoldpdhhfmlckaaGreat
end
section
namespace Go.Proofs.YtoldpdhhfmlckaaGreat
open Go.Ev
set_option maxRecDepth 20000
theorem qnx (tk : Int) (l : List Cell) (m b : List Int) {j : Nat} (hj : j < l.length) : m.getD j 0 + gk (rgt tk l m b) (lft tk l m b) l.length j = stM tk l m b j := by
  have e1 : lft tk l m b (j + 1) = max 0 (0 - ff tk l m b j) := by unfold lft; rw [if_pos (by omega), Nat.add_sub_cancel]
  have e2 : rgt tk l m b j = max 0 (ff tk l m b j) := rfl
  have e3 : (if j + 1 < l.length then lft tk l m b (j + 1) else 0) = max 0 (0 - ff tk l m b j) := by
    by_cases g : j + 1 < l.length
    · rw [if_pos g, e1]
    · rw [if_neg g, qnm (by omega)]; rfl
  unfold gk stM
  rw [if_pos hj, e3, e2]
  by_cases g : 1 ≤ j
  · have e4 : lft tk l m b j = max 0 (0 - ff tk l m b (j - 1)) := by unfold lft; rw [if_pos g]
    have e5 : rgt tk l m b (j - 1) = max 0 (ff tk l m b (j - 1)) := rfl
    rw [if_pos (by omega), if_pos g, e4, e5]; omega
  · have e4 : lft tk l m b j = 0 := by unfold lft; rw [if_neg g]
    rw [if_neg (by omega), if_neg g, e4]; omega
theorem qny (tk : Int) (l : List Cell) (m t b : List Int) {j : Nat} (hj : j < l.length) : t.getD j 0 + gk (outA tk l m t b) (outB tk l m t b) l.length j = stT tk l m t b j := by
  have e3 : (if j + 1 < l.length then outB tk l m t b (j + 1) else 0) = outB tk l m t b (j + 1) := by
    by_cases g : j + 1 < l.length
    · rw [if_pos g]
    · rw [if_neg g, que]
      unfold lft
      rw [if_pos (by omega), Nat.add_sub_cancel, qnm (by omega)]; rfl
  unfold gk stT
  rw [if_pos hj, e3]
  by_cases g : 1 ≤ j
  · rw [if_pos (by omega), if_pos g]; omega
  · rw [if_neg (by omega), if_neg g]; omega
theorem qr4 (k : Nat) (hk : 2000000 ≤ k) (fu : List (Nat × Nat)) (a0 : Int) (a1z : Bool) (a1 : List Cell) (a2z : Bool) (a2 : List Int) (a3z : Bool) (a3 : List Int) (a4z : Bool) (a4 : List Int) (z1 z2 z3 z4 : Bool) (r : Int) (l : List Cell) (m t b : List Int) (tk : Int) (F : StF r l m t b) : ∀ (n i : Nat), i ≤ l.length → l.length - i < n →
    lp (k + 5) impl_State_move [(.ptr true [(.int .i64 (a0)), (.arr true (a1z) (.r3 (a1))), (.arr true (a2z) (.ints .i64 (a2))), (.arr true (a3z) (.ints .i64 (a3))), (.arr true (a4z) (.ints .i64 (a4)))])] fu 19 (n) (qwh (l.length : Int) (i : Int) z1 l z2 (tab l.length (fun j => if j < i then stM tk l m b j else m.getD j 0)) z3 (tab l.length (fun j => if j < i then stT tk l m t b j else t.getD j 0)) z4 b r false (tab l.length (gk (rgt tk l m b) (lft tk l m b) l.length)) false (tab l.length (gk (outA tk l m t b) (outB tk l m t b) l.length))) =
      some [.ptr true [.int .i64 (r), .arr true (z1) (.r3 (l)), .arr true (z2) (.ints .i64 (tab l.length (stM tk l m b))), .arr true (z3) (.ints .i64 (tab l.length (stT tk l m t b))), .arr true (z4) (.ints .i64 (b))]]
  | 0, i, hi, hn => by omega
  | n + 1, i, hi, hn => by
    have hl := F.len
    rw [qo7]
    by_cases h : i < l.length
    · have IH := qr4 k hk fu a0 a1z a1 a2z a2 a3z a3 a4z a4 z1 z2 z3 z4 r l m t b tk F n (i + 1) (by omega) (by omega)
      have q1 : tab l.length (fun j => if j = i then stM tk l m b i else if j < i then stM tk l m b j else m.getD j 0) = tab l.length (fun j => if j < i + 1 then stM tk l m b j else m.getD j 0) := qzd fun j hj => by
        by_cases e : j = i
        · subst e; rw [if_pos rfl, if_pos (by omega)]
        · rw [if_neg e]
          by_cases e2 : j < i
          · rw [if_pos e2, if_pos (by omega)]
          · rw [if_neg e2, if_neg (by omega)]
      have q2 : tab l.length (fun j => if j = i then stT tk l m t b i else if j < i then stT tk l m t b j else t.getD j 0) = tab l.length (fun j => if j < i + 1 then stT tk l m t b j else t.getD j 0) := qzd fun j hj => by
        by_cases e : j = i
        · subst e; rw [if_pos rfl, if_pos (by omega)]
        · rw [if_neg e]
          by_cases e2 : j < i
          · rw [if_pos e2, if_pos (by omega)]
          · rw [if_neg e2, if_neg (by omega)]
      rw [← q1, ← q2] at IH
      have B1 := qnz (A := rgt tk l m b) (B := lft tk l m b) (C := 2500000) (fun j => by have := rgtB F tk j; omega) (fun j => by have := lftB F tk j; omega) l.length i
      have B2 := qnz (A := outA tk l m t b) (B := outB tk l m t b) (C := 100000000000000000) (fun j => by have := qub tk l m t b j; omega) (fun j => qud tk l m t b j) l.length i
      have a := F.at i
      have v1 : (if i < i then stM tk l m b i else m.getD i 0) = m.getD i 0 := if_neg (by omega)
      have v2 : (if i < i then stT tk l m t b i else t.getD i 0) = t.getD i 0 := if_neg (by omega)
      have e1 := qnx tk l m b h
      have e2 := qny tk l m t b h
      simp (disch := omega) only [dT, nI, qzf, Bool.and_true, qgp, q0l, Int.toNat_natCast, qze, v1, e1, qzh, v2, e2, qhl]
      exact IH
    · simp (disch := omega) only [dF, dT, nI, qzf, Bool.and_false, qgp, q0l, Int.toNat_natCast, qhj]
      have q1 : tab l.length (fun j => if j < i then stM tk l m b j else m.getD j 0) = tab l.length (stM tk l m b) := qzd fun j hj => by rw [if_pos (by omega)]
      have q2 : tab l.length (fun j => if j < i then stT tk l m t b j else t.getD j 0) = tab l.length (stT tk l m t b) := qzd fun j hj => by rw [if_pos (by omega)]
      rw [q1, q2]
theorem qau {tk : Int} {l : List Cell} : (∀ i ∈ acts tk l, i + 1 < l.length ∧ qoc tk (qnh l i) = true) ∧ (acts tk l).length ≤ l.length - 1 := by
  refine ⟨fun i hi => ?_, qaq tk l _ _⟩
  unfold acts at hi
  rw [qar] at hi
  exact ⟨by omega, hi.2⟩
theorem qno {tk : Int} {l : List Cell} {m b : List Int} {i : Nat} (h : i ∉ acts tk l) : ff tk l m b i = 0 := by
  unfold acts at h
  rw [qar] at h
  unfold ff qao
  by_cases g : i + 1 < l.length
  · have : qoc tk (qnh l i) = false := by
      rw [← Bool.not_eq_true]
      exact fun e => h ⟨⟨by omega, by omega⟩, e⟩
    rw [this]; simp
  · rw [dF g]; rfl
theorem qah (tk : Int) (l : List Cell) (m b : List Int) : tab l.length (Rk tk l m b (acts tk l)) = tab l.length (rgt tk l m b) := qzd fun j hj => by
  unfold Rk
  by_cases g : j ∈ acts tk l
  · rw [if_pos g]
  · rw [if_neg g]; unfold rgt; rw [qno g]; rfl
theorem qac (tk : Int) (l : List Cell) (m b : List Int) : tab l.length (Lk tk l m b (acts tk l)) = tab l.length (lft tk l m b) := qzd fun j hj => by
  unfold Lk
  by_cases g : 1 ≤ j ∧ j - 1 ∈ acts tk l
  · rw [if_pos g]
  · rw [if_neg g]; unfold lft
    by_cases g2 : 1 ≤ j
    · rw [if_pos g2, qno (fun e => g ⟨g2, e⟩)]; rfl
    · rw [if_neg g2]
theorem qai (tk : Int) (l : List Cell) (m b : List Int) : List.replicate l.length (0 : Int) = tab l.length (Rk tk l m b []) := by
  rw [qzj]
  exact qzd fun j hj => by unfold Rk; rw [if_neg (by simp)]
theorem qad (tk : Int) (l : List Cell) (m b : List Int) : List.replicate l.length (0 : Int) = tab l.length (Lk tk l m b []) := by
  rw [qzj]
  exact qzd fun j hj => by unfold Lk; rw [if_neg (by simp)]
theorem qdj (k : Nat) (hk : 2000000 ≤ k) (z1 z2 z3 z4 z5 : Bool) (r : Int) (l : List Cell) (m t b : List Int) (tk : Int) (F : StF r l m t b) :
    go (k + 6) impl_State_move [.ptr true [.int .i64 (r), .arr true (z1) (.r3 (l)), .arr true (z2) (.ints .i64 (m)), .arr true (z3) (.ints .i64 (t)), .arr true (z4) (.ints .i64 (b))], .arr false z5 (.ints .i64 (nats (acts tk l)))] = some [.ptr true [.int .i64 (r), .arr true (z1) (.r3 (l)), .arr true (z2) (.ints .i64 (tab l.length (stM tk l m b))), .arr true (z3) (.ints .i64 (tab l.length (stT tk l m t b))), .arr true (z4) (.ints .i64 (b))]] := by
  rw [qjp]
  have hl := F.len; have hm := F.ml; have ht := F.tl
  have ao := qau (tk := tk) (l := l)
  have e1 := qr5 k hk [] r z1 l z2 m z3 t z4 b z1 z2 z3 z4 z5 r l m t b tk F (acts tk l) ao.1 (by omega) (k + 5) 0 (by omega) (by omega)
  have e2 := qr3 k hk [] r z1 l z2 m z3 t z4 b z1 z2 z3 z4 r l m t b tk F (k + 5) 0 (by omega) (by omega)
  have e3 := qr4 k hk [] r z1 l z2 m z3 t z4 b z1 z2 z3 z4 r l m t b tk F (k + 5) 0 (by omega) (by omega)
  rw [List.take_zero, ← qai, ← qad, qah, qac] at e1
  rw [← qn1, ← qn1] at e2
  have q1 : tab l.length (fun j => if j < 0 then stM tk l m b j else m.getD j 0) = m := by
    refine Eq.trans (qzd fun j hj => ?_) (hm ▸ (qzg m).symm)
    rw [if_neg (by omega)]
  have q2 : tab l.length (fun j => if j < 0 then stT tk l m t b j else t.getD j 0) = t := by
    refine Eq.trans (qzd fun j hj => ?_) (ht ▸ (qzg t).symm)
    rw [if_neg (by omega)]
  rw [q1, q2] at e3
  have nl := qt1 (acts tk l)
  simp (disch := omega) only [nI, hm, dT, Bool.and_true, big0, nl, Int.toNat_natCast, qhl]
  exact e1.trans (e2.trans e3)
end Go.Proofs.YtoldpdhhfmlckaaGreat
end
section
namespace Go.Proofs.YtoldpdhhfmlckaaGreat
open Go.Ev
theorem ql4 (k : Nat) (v0 : Bool) (v1 : List Int) (v2 v3 : Int) : go (k + 1) spec_l01Byte [(.ptr true [(.arr false (v0) (.ints IntKind.u8 (v1))), (.int .i64 (v2)), (.int .i64 (v3))])] =
 cond (decide (v2 < nI (List.length v1)))
 (cond (decide ((0 : Int) ≤ v2) && decide (v2 < nI (List.length v1)))
 (some [(.int .i64 (bitN BinOp.and .i64 (IntKind.wrap .i64 (bitN BinOp.and .i64 (bitN BinOp.xor .i64 (Int.fdiv (IntKind.wrap .i64 (IntKind.wrap .i64 (v3 * (6364136223846793005 : Int)) + (1442695040888963407 : Int))) ((2 : Int) ^ shiftN .i64 (33 : Int))) (Int.fdiv (IntKind.wrap .i64 (IntKind.wrap .i64 (v3 * (6364136223846793005 : Int)) + (1442695040888963407 : Int))) ((2 : Int) ^ shiftN .i64 (45 : Int)))) (255 : Int) + IntKind.wrap .i64 (List.getD v1 (Int.toNat v2) (0 : Int)))) (255 : Int))), (.ptr true [(.arr false (v0) (.ints IntKind.u8 (v1))), (.int .i64 (IntKind.wrap .i64 (v2 + (1 : Int)))), (.int .i64 (IntKind.wrap .i64 (IntKind.wrap .i64 (v3 * (6364136223846793005 : Int)) + (1442695040888963407 : Int))))])])
 (none))
 (some [(.int .i64 (bitN BinOp.and .i64 (bitN BinOp.xor .i64 (Int.fdiv (IntKind.wrap .i64 (IntKind.wrap .i64 (v3 * (6364136223846793005 : Int)) + (1442695040888963407 : Int))) ((2 : Int) ^ shiftN .i64 (33 : Int))) (Int.fdiv (IntKind.wrap .i64 (IntKind.wrap .i64 (v3 * (6364136223846793005 : Int)) + (1442695040888963407 : Int))) ((2 : Int) ^ shiftN .i64 (45 : Int)))) (255 : Int))), (.ptr true [(.arr false (v0) (.ints IntKind.u8 (v1))), (.int .i64 (v2)), (.int .i64 (IntKind.wrap .i64 (IntKind.wrap .i64 (v3 * (6364136223846793005 : Int)) + (1442695040888963407 : Int))))])]) := by kernel_rfl
theorem ql3 (k : Nat) (v0 : Bool) (v1 : List Int) (v2 v3 v4 : Int) : go (k + 1) spec_l01Below [(.ptr true [(.arr false (v0) (.ints IntKind.u8 (v1))), (.int .i64 (v2)), (.int .i64 (v3))]), (.int .i64 (v4))] =
 cond (decide (v4 ≤ (0 : Int)))
 (some [(.int .i64 (0 : Int)), (.ptr true [(.arr false (v0) (.ints IntKind.u8 (v1))), (.int .i64 (v2)), (.int .i64 (v3))])])
 (cond (decide (v4 ≤ (256 : Int)))
 ((go k spec_l01Byte [(.ptr true [(.arr false (v0) (.ints IntKind.u8 (v1))), (.int .i64 (v2)), (.int .i64 (v3))])]).bind fun r0 =>
 cond (!decide (v4 = (0 : Int)))
 (some [(.int .i64 (Int.tmod (D.toInt (nth r0 0)) v4)), (.ptr true [(.arr false (v0) (.ints IntKind.u8 (v1))), (.int .i64 (D.toInt (D.cell 1 (nth r0 1)))), (.int .i64 (D.toInt (D.cell 2 (nth r0 1))))])])
 (none))
 ((go k spec_l01Byte [(.ptr true [(.arr false (v0) (.ints IntKind.u8 (v1))), (.int .i64 (v2)), (.int .i64 (v3))])]).bind fun r1 =>
 (go k spec_l01Byte [(.ptr true [(.arr false (v0) (.ints IntKind.u8 (v1))), (.int .i64 (D.toInt (D.cell 1 (nth r1 1)))), (.int .i64 (D.toInt (D.cell 2 (nth r1 1))))])]).bind fun r2 =>
 (go k spec_l01Byte [(.ptr true [(.arr false (v0) (.ints IntKind.u8 (v1))), (.int .i64 (D.toInt (D.cell 1 (nth r2 1)))), (.int .i64 (D.toInt (D.cell 2 (nth r2 1))))])]).bind fun r3 =>
 (go k spec_l01Byte [(.ptr true [(.arr false (v0) (.ints IntKind.u8 (v1))), (.int .i64 (D.toInt (D.cell 1 (nth r3 1)))), (.int .i64 (D.toInt (D.cell 2 (nth r3 1))))])]).bind fun r4 =>
 cond (!decide (v4 = (0 : Int)))
 (some [(.int .i64 (Int.tmod (IntKind.wrap .i64 (IntKind.wrap .i64 (IntKind.wrap .i64 (IntKind.wrap .i64 (D.toInt (nth r1 0) * (16777216 : Int)) + IntKind.wrap .i64 (D.toInt (nth r2 0) * (65536 : Int))) + IntKind.wrap .i64 (D.toInt (nth r3 0) * (256 : Int))) + D.toInt (nth r4 0))) v4)), (.ptr true [(.arr false (v0) (.ints IntKind.u8 (v1))), (.int .i64 (D.toInt (D.cell 1 (nth r4 1)))), (.int .i64 (D.toInt (D.cell 2 (nth r4 1))))])])
 (none))) := by kernel_rfl
theorem ql6 (k : Nat) (v0 : Bool) (v1 : List Int) (v2 v3 v4 : Int) : go (k + 1) spec_l01Once [(.ptr true [(.arr false (v0) (.ints IntKind.u8 (v1))), (.int .i64 (v2)), (.int .i64 (v3))]), (.int .i64 (v4))] =
 (go k spec_l01Below [(.ptr true [(.arr false (v0) (.ints IntKind.u8 (v1))), (.int .i64 (v2)), (.int .i64 (v3))]), (.int .i64 (v4))]).bind fun r0 =>
 some [(.bool (decide (D.toInt (nth r0 0) = (0 : Int)))), (.ptr true [(.arr false (v0) (.ints IntKind.u8 (v1))), (.int .i64 (D.toInt (D.cell 1 (nth r0 1)))), (.int .i64 (D.toInt (D.cell 2 (nth r0 1))))])] := by kernel_rfl
theorem qk4 (k : Nat) (a0 a1 a2 b : Int) : go (k + 1) spec_ChildOf [(.agg [(.int .i64 (a0)), (.int .i64 (a1)), (.int .i64 (a2))]), (.int .i64 (b))] =
 (go k spec_IdOk [(.agg [(.int .i64 (a0)), (.int .i64 (a1)), (.int .i64 (a2))])]).bind fun r0 =>
 cond (!bit (nth r0 0))
 (some [(.agg [(.int .i64 (0 : Int)), (.int .i64 (0 : Int)), (.int .i64 (0 : Int))]), (.bool (false))])
 (cond (decide (a1 = (4 : Int)))
 (some [(.agg [(.int .i64 (0 : Int)), (.int .i64 (0 : Int)), (.int .i64 (0 : Int))]), (.bool (false))])
 ((go k spec_l01In [(.int .i64 (b)), (.int .i64 (0 : Int)), (.int .i64 ((1 : Int)))]).bind fun r1 =>
 cond (!bit (nth r1 0))
 (some [(.agg [(.int .i64 (0 : Int)), (.int .i64 (0 : Int)), (.int .i64 (0 : Int))]), (.bool (false))])
 (some [(.agg [(.int .i64 (a0)), (.int .i64 (IntKind.wrap .i64 (a1 + (1 : Int)))), (.int .i64 (IntKind.wrap .i64 (IntKind.wrap .i64 ((2 : Int) * a2) + b)))]), (.bool (true))]))) := by kernel_rfl
def qxg (x0 x1 : Int) (z2 : Bool) (l3 : List Int) (x4 x5 : Int) (z6 : Bool) (l7 : List (Int × Int × Int)) (x8 x9 x10 : Int) : St := ⟨fill 44 [(0, (.ptr 1 (0) (0))), (2, (.int .i64 (x0))), (3, (.ptr 3 (0) (0))), (5, (.ptr 4 (0) (0))), (8, (.int .i64 (x1)))], [(.ptr 1 (0) (0)), (.ptr 3 (0) (0)), (.sl 0 none)], [(.arr false (z2) (.ints IntKind.u8 (l3))), (.box true [(.sl 0 none), (.int .i64 (x4)), (.int .i64 (x5))]), (.arr true (z6) (.r3 (l7))), (.box true [(.sl 2 none)]), (.box true [(.int .i64 (x8)), (.int .i64 (x9)), (.int .i64 (x10))])]⟩
theorem qma (k : Nat) (v0 : Bool) (v1 : List Int) (v2 v3 v4 v5 v6 v7 : Int) (v8 : Bool) (v9 : List (Int × Int × Int)) : go (k + 1) spec_l04Root [(.ptr true [(.arr false (v0) (.ints IntKind.u8 (v1))), (.int .i64 (v2)), (.int .i64 (v3))]), (.agg [(.int .i64 (v4)), (.int .i64 (v5)), (.int .i64 (v6))]), (.int .i64 (v7)), (.ptr true [(.arr true (v8) (.r3 (v9)))])] =
 cond (decide (v5 = (4 : Int)))
 (cond (decide (List.length (v9 ++ [(v4, v5, v6)]) ≤ bigLen))
 (some [(.ptr true [(.arr false (v0) (.ints IntKind.u8 (v1))), (.int .i64 (v2)), (.int .i64 (v3))]), (.ptr true [(.arr true (v8 && decide (List.length (v9 ++ [(v4, v5, v6)]) = 0)) (.r3 (v9 ++ [(v4, v5, v6)])))])])
 (none))
 ((go k spec_l01Once [(.ptr true [(.arr false (v0) (.ints IntKind.u8 (v1))), (.int .i64 (v2)), (.int .i64 (v3))]), (.int .i64 (v7))]).bind fun r0 =>
 cond (!bit (nth r0 0))
 (cond (decide (List.length (v9 ++ [(v4, v5, v6)]) ≤ bigLen))
 (some [(.ptr true [(.arr false (v0) (.ints IntKind.u8 (v1))), (.int .i64 (D.toInt (D.cell 1 (nth r0 1)))), (.int .i64 (D.toInt (D.cell 2 (nth r0 1))))]), (.ptr true [(.arr true (v8 && decide (List.length (v9 ++ [(v4, v5, v6)]) = 0)) (.r3 (v9 ++ [(v4, v5, v6)])))])])
 (none))
 (lp k spec_l04Root [(.ptr true [(.arr false (v0) (.ints IntKind.u8 (v1))), (.int .i64 (v2)), (.int .i64 (v3))]), (.ptr true [(.arr true (v8) (.r3 (v9)))])] [] 4 k (qxg v7 (0 : Int) v0 v1 (D.toInt (D.cell 1 (nth r0 1))) (D.toInt (D.cell 2 (nth r0 1))) v8 v9 v4 v5 v6))) := by kernel_rfl
theorem qp6 (k n : Nat) (fu : List (Nat × Nat)) (v0 : Bool) (v1 : List Int) (v2 v3 : Int) (v8 : Bool) (v9 : List (Int × Int × Int)) (x0 x1 : Int) (z2 : Bool) (l3 : List Int) (x4 x5 : Int) (z6 : Bool) (l7 : List (Int × Int × Int)) (x8 x9 x10 : Int) : lp k spec_l04Root [(.ptr true [(.arr false (v0) (.ints IntKind.u8 (v1))), (.int .i64 (v2)), (.int .i64 (v3))]), (.ptr true [(.arr true (v8) (.r3 (v9)))])] fu 4 (n + 1) (qxg x0 x1 z2 l3 x4 x5 z6 l7 x8 x9 x10) =
 cond (decide (x1 < (2 : Int)))
 ((go k spec_ChildOf [(.agg [(.int .i64 (x8)), (.int .i64 (x9)), (.int .i64 (x10))]), (.int .i64 (x1))]).bind fun r0 =>
 (go k spec_l04Root [(.ptr true [(.arr false (z2) (.ints IntKind.u8 (l3))), (.int .i64 (x4)), (.int .i64 (x5))]), (.agg [(.int .i64 (D.toInt (D.cell 0 (nth r0 0)))), (.int .i64 (D.toInt (D.cell 1 (nth r0 0)))), (.int .i64 (D.toInt (D.cell 2 (nth r0 0))))]), (.int .i64 (IntKind.wrap .i64 (x0 + (1 : Int)))), (.ptr true [(.arr true (z6) (.r3 (l7)))])]).bind fun r1 =>
 lp k spec_l04Root [(.ptr true [(.arr false (v0) (.ints IntKind.u8 (v1))), (.int .i64 (v2)), (.int .i64 (v3))]), (.ptr true [(.arr true (v8) (.r3 (v9)))])] fu 4 n (qxg x0 (IntKind.wrap .i64 (x1 + (1 : Int))) z2 l3 (D.toInt (D.cell 1 (nth r1 0))) (D.toInt (D.cell 2 (nth r1 0))) (D.nil (D.cell 0 (nth r1 1))) (D.r3 (D.cell 0 (nth r1 1))) x8 x9 x10))
 (some [(.ptr true [(.arr false (z2) (.ints IntKind.u8 (l3))), (.int .i64 (x4)), (.int .i64 (x5))]), (.ptr true [(.arr true (z6) (.r3 (l7)))])]) := by kernel_rfl
def qxf (x0 : Int) (z1 : Bool) (l2 : List Int) (x3 x4 : Int) (z5 : Bool) (l6 : List (Int × Int × Int)) (x7 : Int) (z8 : Bool) (l9 : List (Int × Int × Int)) (x10 : Int) : St := ⟨fill 24 [(0, (.ptr 1 (0) (0))), (2, (.ptr 3 (0) (0))), (3, (.ptr 5 (0) (0))), (4, (.int .i64 (x0)))], [(.ptr 1 (0) (0)), (.sl 0 none)], [(.arr false (z1) (.ints IntKind.u8 (l2))), (.box true [(.sl 0 none), (.int .i64 (x3)), (.int .i64 (x4))]), (.arr true (z5) (.r3 (l6))), (.box true [(.int .i64 (x7)), (.sl 2 none)]), (.arr true (z8) (.r3 (l9))), (.box true [(.int .i64 (x10)), (.sl 4 none)])]⟩
theorem ql9 (k : Nat) (v0 : Bool) (v1 : List Int) (v2 v3 : Int) : go (k + 1) spec_l04Mesh [(.ptr true [(.arr false (v0) (.ints IntKind.u8 (v1))), (.int .i64 (v2)), (.int .i64 (v3))])] =
 (go k spec_l01Below [(.ptr true [(.arr false (v0) (.ints IntKind.u8 (v1))), (.int .i64 (v2)), (.int .i64 (v3))]), (.int .i64 ((3 : Int)))]).bind fun r0 =>
 lp k spec_l04Mesh [(.ptr true [(.arr false (v0) (.ints IntKind.u8 (v1))), (.int .i64 (v2)), (.int .i64 (v3))])] [] 3 k (qxf (0 : Int) v0 v1 (D.toInt (D.cell 1 (nth r0 1))) (D.toInt (D.cell 2 (nth r0 1))) true ([]) (0 : Int) true ([]) (IntKind.wrap .i64 ((1 : Int) + D.toInt (nth r0 0)))) := by kernel_rfl
theorem qp5 (k n : Nat) (fu : List (Nat × Nat)) (v0 : Bool) (v1 : List Int) (v2 v3 x0 : Int) (z1 : Bool) (l2 : List Int) (x3 x4 : Int) (z5 : Bool) (l6 : List (Int × Int × Int)) (x7 : Int) (z8 : Bool) (l9 : List (Int × Int × Int)) (x10 : Int) : lp k spec_l04Mesh [(.ptr true [(.arr false (v0) (.ints IntKind.u8 (v1))), (.int .i64 (v2)), (.int .i64 (v3))])] fu 3 (n + 1) (qxf x0 z1 l2 x3 x4 z5 l6 x7 z8 l9 x10) =
 cond (decide (x0 < x10))
 ((go k spec_l01Below [(.ptr true [(.arr false (z1) (.ints IntKind.u8 (l2))), (.int .i64 (x3)), (.int .i64 (x4))]), (.int .i64 ((2 : Int)))]).bind fun r0 =>
 (go k spec_l04Root [(.ptr true [(.arr false (z1) (.ints IntKind.u8 (l2))), (.int .i64 (D.toInt (D.cell 1 (nth r0 1)))), (.int .i64 (D.toInt (D.cell 2 (nth r0 1))))]), (.agg [(.int .i64 (x0)), (.int .i64 (0 : Int)), (.int .i64 (0 : Int))]), (.int .i64 (IntKind.wrap .i64 ((1 : Int) + D.toInt (nth r0 0)))), (.ptr true [(.arr true (z8) (.r3 (l9)))])]).bind fun r1 =>
 lp k spec_l04Mesh [(.ptr true [(.arr false (v0) (.ints IntKind.u8 (v1))), (.int .i64 (v2)), (.int .i64 (v3))])] fu 3 n (qxf (IntKind.wrap .i64 (x0 + (1 : Int))) z1 l2 (D.toInt (D.cell 1 (nth r1 0))) (D.toInt (D.cell 2 (nth r1 0))) z5 l6 x7 (D.nil (D.cell 0 (nth r1 1))) (D.r3 (D.cell 0 (nth r1 1))) x10))
 (some [(.agg [(.int .i64 (x10)), (.arr true (z8) (.r3 (l9)))]), (.ptr true [(.arr false (z1) (.ints IntKind.u8 (l2))), (.int .i64 (x3)), (.int .i64 (x4))])]) := by kernel_rfl
def qw0 (x0 : Int) (z1 : Bool) (l2 : List (Int × Int × Int)) (x3 : Int) (z4 : Bool) (l5 : List (Int × Int × Int)) (x6 : Int) : St := ⟨fill 23 [(2, (.ptr 1 (0) (0))), (3, (.ptr 3 (0) (0))), (4, (.int .i64 (x0)))], [], [(.arr true (z1) (.r3 (l2))), (.box true [(.int .i64 (x3)), (.sl 0 none)]), (.arr true (z4) (.r3 (l5))), (.box true [(.int .i64 (x6)), (.sl 2 none)])]⟩
theorem qk2 (k : Nat) (a0 : Int) (a1z : Bool) (a1 : List (Int × Int × Int)) : go (k + 1) spec_Balance [(.agg [(.int .i64 (a0)), (.arr false (a1z) (.r3 (a1)))])] =
 (go k spec_l04Copy [(.agg [(.int .i64 (a0)), (.arr false (a1z) (.r3 (a1)))])]).bind fun r0 =>
 (go k spec_MeshOk [(.agg [(.int .i64 (a0)), (.arr false (a1z) (.r3 (a1)))])]).bind fun r1 =>
 cond (!bit (nth r1 0))
 (some [(.agg [(.int .i64 (D.toInt (D.cell 0 (nth r0 0)))), (.arr true (D.nil (D.cell 1 (nth r0 0))) (.r3 (D.r3 (D.cell 1 (nth r0 0)))))])])
 ((go k spec_l05First [(.agg [(.int .i64 (D.toInt (D.cell 0 (nth r0 0)))), (.arr false (D.nil (D.cell 1 (nth r0 0))) (.r3 (D.r3 (D.cell 1 (nth r0 0)))))])]).bind fun r2 =>
 lp k spec_Balance [] [] 5 k (qw0 (D.toInt (nth r2 0)) true ([]) (0 : Int) (D.nil (D.cell 1 (nth r0 0))) (D.r3 (D.cell 1 (nth r0 0))) (D.toInt (D.cell 0 (nth r0 0))))) := by kernel_rfl
theorem qpq (k n : Nat) (fu : List (Nat × Nat)) (x0 : Int) (z1 : Bool) (l2 : List (Int × Int × Int)) (x3 : Int) (z4 : Bool) (l5 : List (Int × Int × Int)) (x6 : Int) : lp k spec_Balance [] fu 5 (n + 1) (qw0 x0 z1 l2 x3 z4 l5 x6) =
 cond (decide ((0 : Int) ≤ x0))
 ((go k spec_l05Coarser [(.agg [(.int .i64 (x6)), (.arr false (z4) (.r3 (l5)))]), (.int .i64 (x0))]).bind fun r0 =>
 (go k spec_l05Split [(.agg [(.int .i64 (x6)), (.arr false (z4) (.r3 (l5)))]), (.int .i64 (D.toInt (nth r0 0)))]).bind fun r1 =>
 (go k spec_l05First [(.agg [(.int .i64 (D.toInt (D.cell 0 (nth r1 0)))), (.arr false (D.nil (D.cell 1 (nth r1 0))) (.r3 (D.r3 (D.cell 1 (nth r1 0)))))])]).bind fun r2 =>
 lp k spec_Balance [] fu 5 n (qw0 (D.toInt (nth r2 0)) z1 l2 x3 (D.nil (D.cell 1 (nth r1 0))) (D.r3 (D.cell 1 (nth r1 0))) (D.toInt (D.cell 0 (nth r1 0)))))
 (some [(.agg [(.int .i64 (x6)), (.arr true (z4) (.r3 (l5)))])]) := by kernel_rfl
theorem qmb (k : Nat) (a0 : Int) (a1z : Bool) (a1 : List (Int × Int × Int)) (b : Int) : go (k + 1) spec_l05Coarser [(.agg [(.int .i64 (a0)), (.arr false (a1z) (.r3 (a1)))]), (.int .i64 (b))] =
 cond (decide ((0 : Int) ≤ b) && decide (b < nI (List.length a1)))
 (cond (decide ((0 : Int) ≤ IntKind.wrap .i64 (b + (1 : Int))) && decide (IntKind.wrap .i64 (b + (1 : Int)) < nI (List.length a1)))
 (cond (decide (Prod.fst (Prod.snd (List.getD a1 (Int.toNat (IntKind.wrap .i64 (b + (1 : Int)))) zz3)) < Prod.fst (Prod.snd (List.getD a1 (Int.toNat b) zz3))))
 (some [(.int .i64 (IntKind.wrap .i64 (b + (1 : Int))))])
 (some [(.int .i64 (b))]))
 (none))
 (none) := by kernel_rfl
theorem qmf (k : Nat) (a0 : Int) (a1z : Bool) (a1 : List (Int × Int × Int)) (b : Int) : go (k + 1) spec_l05Split [(.agg [(.int .i64 (a0)), (.arr false (a1z) (.r3 (a1)))]), (.int .i64 (b))] =
 cond (decide ((0 : Int) ≤ b) && decide (b < nI (List.length a1)))
 ((go k spec_ChildOf [(.agg [(.int .i64 (Prod.fst (List.getD a1 (Int.toNat b) zz3))), (.int .i64 (Prod.fst (Prod.snd (List.getD a1 (Int.toNat b) zz3)))), (.int .i64 (Prod.snd (Prod.snd (List.getD a1 (Int.toNat b) zz3))))]), (.int .i64 (0 : Int))]).bind fun r0 =>
 cond (decide ((0 : Int) ≤ b) && decide (b < nI (List.length a1)))
 ((go k spec_ChildOf [(.agg [(.int .i64 (Prod.fst (List.getD a1 (Int.toNat b) zz3))), (.int .i64 (Prod.fst (Prod.snd (List.getD a1 (Int.toNat b) zz3)))), (.int .i64 (Prod.snd (Prod.snd (List.getD a1 (Int.toNat b) zz3))))]), (.int .i64 ((1 : Int)))]).bind fun r1 =>
 cond (decide ((0 : Int) ≤ (0 : Int)) && decide ((0 : Int) ≤ b) && decide (b ≤ nI (List.length a1)))
 (cond (decide (List.length ([] ++ List.take (Int.toNat b - Int.toNat (0 : Int)) (List.drop (0 + Int.toNat (0 : Int)) a1)) ≤ bigLen))
 (cond (decide (List.length ([] ++ List.take (Int.toNat b - Int.toNat (0 : Int)) (List.drop (0 + Int.toNat (0 : Int)) a1) ++ [(D.toInt (D.cell 0 (nth r0 0)), D.toInt (D.cell 1 (nth r0 0)), D.toInt (D.cell 2 (nth r0 0))), (D.toInt (D.cell 0 (nth r1 0)), D.toInt (D.cell 1 (nth r1 0)), D.toInt (D.cell 2 (nth r1 0)))]) ≤ bigLen))
 (cond (decide ((0 : Int) ≤ IntKind.wrap .i64 (b + (1 : Int))) && decide (IntKind.wrap .i64 (b + (1 : Int)) ≤ nI (List.length a1)) && decide (nI (List.length a1) ≤ nI (List.length a1)))
 (cond (decide (List.length ([] ++ List.take (Int.toNat b - Int.toNat (0 : Int)) (List.drop (0 + Int.toNat (0 : Int)) a1) ++ [(D.toInt (D.cell 0 (nth r0 0)), D.toInt (D.cell 1 (nth r0 0)), D.toInt (D.cell 2 (nth r0 0))), (D.toInt (D.cell 0 (nth r1 0)), D.toInt (D.cell 1 (nth r1 0)), D.toInt (D.cell 2 (nth r1 0)))] ++ List.take (Int.toNat (nI (List.length a1)) - Int.toNat (IntKind.wrap .i64 (b + (1 : Int)))) (List.drop (0 + Int.toNat (IntKind.wrap .i64 (b + (1 : Int)))) a1)) ≤ bigLen))
 (some [(.agg [(.int .i64 (a0)), (.arr true (false && decide (List.length ([] ++ List.take (Int.toNat b - Int.toNat (0 : Int)) (List.drop (0 + Int.toNat (0 : Int)) a1)) = 0) && decide (List.length ([] ++ List.take (Int.toNat b - Int.toNat (0 : Int)) (List.drop (0 + Int.toNat (0 : Int)) a1) ++ [(D.toInt (D.cell 0 (nth r0 0)), D.toInt (D.cell 1 (nth r0 0)), D.toInt (D.cell 2 (nth r0 0))), (D.toInt (D.cell 0 (nth r1 0)), D.toInt (D.cell 1 (nth r1 0)), D.toInt (D.cell 2 (nth r1 0)))]) = 0) && decide (List.length ([] ++ List.take (Int.toNat b - Int.toNat (0 : Int)) (List.drop (0 + Int.toNat (0 : Int)) a1) ++ [(D.toInt (D.cell 0 (nth r0 0)), D.toInt (D.cell 1 (nth r0 0)), D.toInt (D.cell 2 (nth r0 0))), (D.toInt (D.cell 0 (nth r1 0)), D.toInt (D.cell 1 (nth r1 0)), D.toInt (D.cell 2 (nth r1 0)))] ++ List.take (Int.toNat (nI (List.length a1)) - Int.toNat (IntKind.wrap .i64 (b + (1 : Int)))) (List.drop (0 + Int.toNat (IntKind.wrap .i64 (b + (1 : Int)))) a1)) = 0)) (.r3 ([] ++ List.take (Int.toNat b - Int.toNat (0 : Int)) (List.drop (0 + Int.toNat (0 : Int)) a1) ++ [(D.toInt (D.cell 0 (nth r0 0)), D.toInt (D.cell 1 (nth r0 0)), D.toInt (D.cell 2 (nth r0 0))), (D.toInt (D.cell 0 (nth r1 0)), D.toInt (D.cell 1 (nth r1 0)), D.toInt (D.cell 2 (nth r1 0)))] ++ List.take (Int.toNat (nI (List.length a1)) - Int.toNat (IntKind.wrap .i64 (b + (1 : Int)))) (List.drop (0 + Int.toNat (IntKind.wrap .i64 (b + (1 : Int)))) a1))))])])
 (none))
 (none))
 (none))
 (none))
 (none))
 (none))
 (none) := by kernel_rfl
theorem qme (k : Nat) (v0 : Bool) (v1 : List Int) (v2 v3 : Int) : go (k + 1) spec_l05Mesh [(.ptr true [(.arr false (v0) (.ints IntKind.u8 (v1))), (.int .i64 (v2)), (.int .i64 (v3))])] =
 (go k spec_l04Mesh [(.ptr true [(.arr false (v0) (.ints IntKind.u8 (v1))), (.int .i64 (v2)), (.int .i64 (v3))])]).bind fun r0 =>
 (go k spec_Balance [(.agg [(.int .i64 (D.toInt (D.cell 0 (nth r0 0)))), (.arr false (D.nil (D.cell 1 (nth r0 0))) (.r3 (D.r3 (D.cell 1 (nth r0 0)))))])]).bind fun r1 =>
 some [(.agg [(.int .i64 (D.toInt (D.cell 0 (nth r1 0)))), (.arr true (D.nil (D.cell 1 (nth r1 0))) (.r3 (D.r3 (D.cell 1 (nth r1 0)))))]), (.ptr true [(.arr false (v0) (.ints IntKind.u8 (v1))), (.int .i64 (D.toInt (D.cell 1 (nth r0 1)))), (.int .i64 (D.toInt (D.cell 2 (nth r0 1))))])] := by kernel_rfl
def qxi (x0 : Int) (z1 : Bool) (l2 : List Int) (x3 x4 : Int) (z5 : Bool) (l6 : List (Int × Int × Int)) (z7 : Bool) (l8 : List Int) (z9 : Bool) (l10 : List Int) (z11 : Bool) (l12 : List Int) (x13 : Int) (z14 : Bool) (l15 : List (Int × Int × Int)) (x16 : Int) (z17 : Bool) (l18 : List Int) (z19 : Bool) (l20 : List Int) (z21 : Bool) (l22 : List Int) (x23 : Int) : St := ⟨fill 67 [(0, (.ptr 1 (0) (0))), (2, (.ptr 6 (0) (0))), (3, (.ptr 8 (0) (0))), (4, (.ptr 12 (0) (0))), (5, (.int .i64 (x0)))], [(.ptr 1 (0) (0)), (.sl 0 none)], [(.arr false (z1) (.ints IntKind.u8 (l2))), (.box true [(.sl 0 none), (.int .i64 (x3)), (.int .i64 (x4))]), (.arr true (z5) (.r3 (l6))), (.arr true (z7) (.ints .i64 (l8))), (.arr true (z9) (.ints .i64 (l10))), (.arr true (z11) (.ints .i64 (l12))), (.box true [(.int .i64 (x13)), (.sl 2 none), (.sl 3 none), (.sl 4 none), (.sl 5 none)]), (.arr true (z14) (.r3 (l15))), (.box true [(.int .i64 (x16)), (.sl 7 none)]), (.arr true (z17) (.ints .i64 (l18))), (.arr true (z19) (.ints .i64 (l20))), (.arr true (z21) (.ints .i64 (l22))), (.box true [(.int .i64 (x23)), (.sl 7 none), (.sl 9 none), (.sl 10 none), (.sl 11 none)])]⟩
def qxj (x0 x1 : Int) (z2 : Bool) (l3 : List Int) (x4 x5 : Int) (z6 : Bool) (l7 : List (Int × Int × Int)) (z8 : Bool) (l9 : List Int) (z10 : Bool) (l11 : List Int) (z12 : Bool) (l13 : List Int) (x14 : Int) (z15 : Bool) (l16 : List (Int × Int × Int)) (x17 : Int) (z18 : Bool) (l19 : List Int) (z20 : Bool) (l21 : List Int) (z22 : Bool) (l23 : List Int) (x24 : Int) : St := ⟨fill 67 [(0, (.ptr 1 (0) (0))), (2, (.ptr 6 (0) (0))), (3, (.ptr 8 (0) (0))), (4, (.ptr 12 (0) (0))), (6, (.int .i64 (x0))), (7, (.int .i64 (x1)))], [(.ptr 1 (0) (0)), (.sl 0 none)], [(.arr false (z2) (.ints IntKind.u8 (l3))), (.box true [(.sl 0 none), (.int .i64 (x4)), (.int .i64 (x5))]), (.arr true (z6) (.r3 (l7))), (.arr true (z8) (.ints .i64 (l9))), (.arr true (z10) (.ints .i64 (l11))), (.arr true (z12) (.ints .i64 (l13))), (.box true [(.int .i64 (x14)), (.sl 2 none), (.sl 3 none), (.sl 4 none), (.sl 5 none)]), (.arr true (z15) (.r3 (l16))), (.box true [(.int .i64 (x17)), (.sl 7 none)]), (.arr true (z18) (.ints .i64 (l19))), (.arr true (z20) (.ints .i64 (l21))), (.arr true (z22) (.ints .i64 (l23))), (.box true [(.int .i64 (x24)), (.sl 7 none), (.sl 9 none), (.sl 10 none), (.sl 11 none)])]⟩
theorem qmj (k : Nat) (v0 : Bool) (v1 : List Int) (v2 v3 : Int) : go (k + 1) spec_l07State [(.ptr true [(.arr false (v0) (.ints IntKind.u8 (v1))), (.int .i64 (v2)), (.int .i64 (v3))])] =
 (go k spec_l05Mesh [(.ptr true [(.arr false (v0) (.ints IntKind.u8 (v1))), (.int .i64 (v2)), (.int .i64 (v3))])]).bind fun r0 =>
 lp k spec_l07State [(.ptr true [(.arr false (v0) (.ints IntKind.u8 (v1))), (.int .i64 (v2)), (.int .i64 (v3))])] [] 4 k (qxi (0 : Int) v0 v1 (D.toInt (D.cell 1 (nth r0 1))) (D.toInt (D.cell 2 (nth r0 1))) true ([]) true ([]) true ([]) true ([]) (0 : Int) (D.nil (D.cell 1 (nth r0 0))) (D.r3 (D.cell 1 (nth r0 0))) (D.toInt (D.cell 0 (nth r0 0))) true ([]) true ([]) true ([]) (D.toInt (D.cell 0 (nth r0 0)))) := by kernel_rfl
theorem qp8 (k n : Nat) (fu : List (Nat × Nat)) (v0 : Bool) (v1 : List Int) (v2 v3 x0 : Int) (z1 : Bool) (l2 : List Int) (x3 x4 : Int) (z5 : Bool) (l6 : List (Int × Int × Int)) (z7 : Bool) (l8 : List Int) (z9 : Bool) (l10 : List Int) (z11 : Bool) (l12 : List Int) (x13 : Int) (z14 : Bool) (l15 : List (Int × Int × Int)) (x16 : Int) (z17 : Bool) (l18 : List Int) (z19 : Bool) (l20 : List Int) (z21 : Bool) (l22 : List Int) (x23 : Int) : lp k spec_l07State [(.ptr true [(.arr false (v0) (.ints IntKind.u8 (v1))), (.int .i64 (v2)), (.int .i64 (v3))])] fu 4 (n + 1) (qxi x0 z1 l2 x3 x4 z5 l6 z7 l8 z9 l10 z11 l12 x13 z14 l15 x16 z17 l18 z19 l20 z21 l22 x23) =
 cond (decide (x0 < x16))
 ((go k spec_l01Below [(.ptr true [(.arr false (z1) (.ints IntKind.u8 (l2))), (.int .i64 (x3)), (.int .i64 (x4))]), (.int .i64 ((4 : Int)))]).bind fun r0 =>
 (go k spec_l01Below [(.ptr true [(.arr false (z1) (.ints IntKind.u8 (l2))), (.int .i64 (D.toInt (D.cell 1 (nth r0 1)))), (.int .i64 (D.toInt (D.cell 2 (nth r0 1))))]), (.int .i64 ((5000 : Int)))]).bind fun r1 =>
 cond (decide (List.length (l22 ++ [IntKind.wrap .i64 (D.toInt (nth r0 0) * D.toInt (nth r1 0))]) ≤ bigLen))
 (lp k spec_l07State [(.ptr true [(.arr false (v0) (.ints IntKind.u8 (v1))), (.int .i64 (v2)), (.int .i64 (v3))])] fu 4 n (qxi (IntKind.wrap .i64 (x0 + (1 : Int))) z1 l2 (D.toInt (D.cell 1 (nth r1 1))) (D.toInt (D.cell 2 (nth r1 1))) z5 l6 z7 l8 z9 l10 z11 l12 x13 z14 l15 x16 z17 l18 z19 l20 (z21 && decide (List.length (l22 ++ [IntKind.wrap .i64 (D.toInt (nth r0 0) * D.toInt (nth r1 0))]) = 0)) (l22 ++ [IntKind.wrap .i64 (D.toInt (nth r0 0) * D.toInt (nth r1 0))]) x23))
 (none))
 ((go k spec_l01Below [(.ptr true [(.arr false (z1) (.ints IntKind.u8 (l2))), (.int .i64 (x3)), (.int .i64 (x4))]), (.int .i64 ((20000 : Int)))]).bind fun r2 =>
 lp k spec_l07State [(.ptr true [(.arr false (v0) (.ints IntKind.u8 (v1))), (.int .i64 (v2)), (.int .i64 (v3))])] fu 9 k (qxj (IntKind.wrap .i64 ((1 : Int) + D.toInt (nth r2 0))) (0 : Int) z1 l2 (D.toInt (D.cell 1 (nth r2 1))) (D.toInt (D.cell 2 (nth r2 1))) z5 l6 z7 l8 z9 l10 z11 l12 x13 z14 l15 x16 z17 l18 z19 l20 z21 l22 x23)) := by kernel_rfl
theorem qp9 (k n : Nat) (fu : List (Nat × Nat)) (v0 : Bool) (v1 : List Int) (v2 v3 x0 x1 : Int) (z2 : Bool) (l3 : List Int) (x4 x5 : Int) (z6 : Bool) (l7 : List (Int × Int × Int)) (z8 : Bool) (l9 : List Int) (z10 : Bool) (l11 : List Int) (z12 : Bool) (l13 : List Int) (x14 : Int) (z15 : Bool) (l16 : List (Int × Int × Int)) (x17 : Int) (z18 : Bool) (l19 : List Int) (z20 : Bool) (l21 : List Int) (z22 : Bool) (l23 : List Int) (x24 : Int) : lp k spec_l07State [(.ptr true [(.arr false (v0) (.ints IntKind.u8 (v1))), (.int .i64 (v2)), (.int .i64 (v3))])] fu 9 (n + 1) (qxj x0 x1 z2 l3 x4 x5 z6 l7 z8 l9 z10 l11 z12 l13 x14 z15 l16 x17 z18 l19 z20 l21 z22 l23 x24) =
 cond (decide (x1 < nI (List.length l16)))
 ((go k spec_l01Below [(.ptr true [(.arr false (z2) (.ints IntKind.u8 (l3))), (.int .i64 (x4)), (.int .i64 (x5))]), (.int .i64 (x0))]).bind fun r0 =>
 (go k spec_l01Once [(.ptr true [(.arr false (z2) (.ints IntKind.u8 (l3))), (.int .i64 (D.toInt (D.cell 1 (nth r0 1)))), (.int .i64 (D.toInt (D.cell 2 (nth r0 1))))]), (.int .i64 ((6 : Int)))]).bind fun r1 =>
 cond (bit (nth r1 0))
 ((go k spec_l01Below [(.ptr true [(.arr false (z2) (.ints IntKind.u8 (l3))), (.int .i64 (D.toInt (D.cell 1 (nth r1 1)))), (.int .i64 (D.toInt (D.cell 2 (nth r1 1))))]), (.int .i64 ((3 : Int)))]).bind fun r2 =>
 cond (decide (List.length (l19 ++ [D.toInt (nth r2 0)]) ≤ bigLen))
 ((go k spec_l01Below [(.ptr true [(.arr false (z2) (.ints IntKind.u8 (l3))), (.int .i64 (D.toInt (D.cell 1 (nth r2 1)))), (.int .i64 (D.toInt (D.cell 2 (nth r2 1))))]), (.int .i64 ((200 : Int)))]).bind fun r3 =>
 (go k spec_l01Below [(.ptr true [(.arr false (z2) (.ints IntKind.u8 (l3))), (.int .i64 (D.toInt (D.cell 1 (nth r3 1)))), (.int .i64 (D.toInt (D.cell 2 (nth r3 1))))]), (.int .i64 (IntKind.wrap .i64 (D.toInt (nth r2 0) + (1 : Int))))]).bind fun r4 =>
 cond (decide (List.length (l21 ++ [IntKind.wrap .i64 (IntKind.wrap .i64 (D.toInt (nth r2 0) * D.toInt (nth r3 0)) + D.toInt (nth r4 0))]) ≤ bigLen))
 (lp k spec_l07State [(.ptr true [(.arr false (v0) (.ints IntKind.u8 (v1))), (.int .i64 (v2)), (.int .i64 (v3))])] fu 9 n (qxj x0 (IntKind.wrap .i64 (x1 + (1 : Int))) z2 l3 (D.toInt (D.cell 1 (nth r4 1))) (D.toInt (D.cell 2 (nth r4 1))) z6 l7 z8 l9 z10 l11 z12 l13 x14 z15 l16 x17 (z18 && decide (List.length (l19 ++ [D.toInt (nth r2 0)]) = 0)) (l19 ++ [D.toInt (nth r2 0)]) (z20 && decide (List.length (l21 ++ [IntKind.wrap .i64 (IntKind.wrap .i64 (D.toInt (nth r2 0) * D.toInt (nth r3 0)) + D.toInt (nth r4 0))]) = 0)) (l21 ++ [IntKind.wrap .i64 (IntKind.wrap .i64 (D.toInt (nth r2 0) * D.toInt (nth r3 0)) + D.toInt (nth r4 0))]) z22 l23 x24))
 (none))
 (none))
 (cond (decide (List.length (l19 ++ [D.toInt (nth r0 0)]) ≤ bigLen))
 ((go k spec_l01Below [(.ptr true [(.arr false (z2) (.ints IntKind.u8 (l3))), (.int .i64 (D.toInt (D.cell 1 (nth r1 1)))), (.int .i64 (D.toInt (D.cell 2 (nth r1 1))))]), (.int .i64 ((200 : Int)))]).bind fun r5 =>
 (go k spec_l01Below [(.ptr true [(.arr false (z2) (.ints IntKind.u8 (l3))), (.int .i64 (D.toInt (D.cell 1 (nth r5 1)))), (.int .i64 (D.toInt (D.cell 2 (nth r5 1))))]), (.int .i64 (IntKind.wrap .i64 (D.toInt (nth r0 0) + (1 : Int))))]).bind fun r6 =>
 cond (decide (List.length (l21 ++ [IntKind.wrap .i64 (IntKind.wrap .i64 (D.toInt (nth r0 0) * D.toInt (nth r5 0)) + D.toInt (nth r6 0))]) ≤ bigLen))
 (lp k spec_l07State [(.ptr true [(.arr false (v0) (.ints IntKind.u8 (v1))), (.int .i64 (v2)), (.int .i64 (v3))])] fu 9 n (qxj x0 (IntKind.wrap .i64 (x1 + (1 : Int))) z2 l3 (D.toInt (D.cell 1 (nth r6 1))) (D.toInt (D.cell 2 (nth r6 1))) z6 l7 z8 l9 z10 l11 z12 l13 x14 z15 l16 x17 (z18 && decide (List.length (l19 ++ [D.toInt (nth r0 0)]) = 0)) (l19 ++ [D.toInt (nth r0 0)]) (z20 && decide (List.length (l21 ++ [IntKind.wrap .i64 (IntKind.wrap .i64 (D.toInt (nth r0 0) * D.toInt (nth r5 0)) + D.toInt (nth r6 0))]) = 0)) (l21 ++ [IntKind.wrap .i64 (IntKind.wrap .i64 (D.toInt (nth r0 0) * D.toInt (nth r5 0)) + D.toInt (nth r6 0))]) z22 l23 x24))
 (none))
 (none)))
 (some [(.agg [(.int .i64 (x24)), (.arr true (z15) (.r3 (l16))), (.arr true (z18) (.ints .i64 (l19))), (.arr true (z20) (.ints .i64 (l21))), (.arr true (z22) (.ints .i64 (l23)))]), (.ptr true [(.arr false (z2) (.ints IntKind.u8 (l3))), (.int .i64 (x4)), (.int .i64 (x5))])]) := by kernel_rfl
end Go.Proofs.YtoldpdhhfmlckaaGreat
end
section
namespace Go.Proofs.YtoldpdhhfmlckaaGreat
open Go.Ev
set_option maxRecDepth 20000
theorem qus (o : Bool) (d0 : D) (l : List D) : (D.ptr o (d0 :: l)).cell 0 = d0 := Eq.trans rfl rfl
theorem qut (o : Bool) (d0 d1 : D) (l : List D) : (D.ptr o (d0 :: d1 :: l)).cell 1 = d1 := Eq.trans rfl rfl
theorem quu (o : Bool) (d0 d1 d2 : D) (l : List D) : (D.ptr o (d0 :: d1 :: d2 :: l)).cell 2 = d2 := Eq.trans rfl rfl
theorem qba (x : Int) : 0 ≤ bitN .and .i64 x 255 ∧ bitN .and .i64 x 255 ≤ 255 := by
  have h : (BitVec.ofInt IntKind.i64.bits x &&& BitVec.ofInt IntKind.i64.bits 255).toNat ≤ 255 := by
    rw [BitVec.toNat_and]; exact Nat.le_trans Nat.and_le_right (by decide)
  show 0 ≤ IntKind.wrap .i64 _ ∧ IntKind.wrap .i64 _ ≤ 255
  rw [q0l (by omega) (by omega)]; omega
theorem qfi (k : Nat) (hk : 2000000 ≤ k) (z : Bool) (l : List Int) (i h : Int) (hl : (l.length : Int) ≤ 1048576) (h0 : 0 ≤ i) (h1 : i ≤ l.length) : ∃ v i' h' : Int, go (k + 1) spec_l01Byte [.ptr true [.arr false (z) (.ints .u8 (l)), .int .i64 (i), .int .i64 (h)]] = some [.int .i64 v, .ptr true [.arr false (z) (.ints .u8 (l)), .int .i64 (i'), .int .i64 (h')]] ∧ (0 ≤ v ∧ v ≤ 255) ∧ 0 ≤ i' ∧ i' ≤ l.length := by
  have e := ql4 (k + 0) z l i h
  by_cases g : i < l.length
  · simp (disch := omega) only [nI, dT, Bool.and_true, q0l, qhl] at e; exact ⟨_, _, _, e, qba _, by omega, by omega⟩
  · simp (disch := omega) only [nI, dF, dT, Bool.and_false, q0l, qhj] at e; exact ⟨_, _, _, e, qba _, by omega, by omega⟩
theorem qzr {v b : Int} (h : 0 ≤ v) (hb : 1 ≤ b) : 0 ≤ Int.tmod v b ∧ Int.tmod v b < b := ⟨Int.tmod_nonneg b h, Int.tmod_lt_of_pos v (by omega)⟩
theorem qfh (k : Nat) (hk : 2000000 ≤ k) (z : Bool) (l : List Int) (i h b : Int) (hl : (l.length : Int) ≤ 1048576) (h0 : 0 ≤ i) (h1 : i ≤ l.length) (hb : 1 ≤ b) (hb' : b ≤ 1000000) : ∃ v i' h' : Int, go (k + 2) spec_l01Below [.ptr true [.arr false (z) (.ints .u8 (l)), .int .i64 (i), .int .i64 (h)], .int .i64 b] = some [.int .i64 v, .ptr true [.arr false (z) (.ints .u8 (l)), .int .i64 (i'), .int .i64 (h')]] ∧ (0 ≤ v ∧ v < b) ∧ 0 ≤ i' ∧ i' ≤ l.length := by
  have e := ql3 (k + 1) z l i h b
  obtain ⟨v1, i1, k1, e1, b1, q1, r1⟩ := qfi k (by omega) z l i h hl h0 h1
  by_cases g : b ≤ 256
  · simp (disch := omega) only [dF, dT, e1, Bool.not_false, qhl, qa9, nth0, qzu, nth1, qut, quu, q0l, qhj] at e
    exact ⟨_, _, _, e, qzr b1.1 hb, q1, r1⟩
  · obtain ⟨v2, i2, k2, e2, b2, q2, r2⟩ := qfi k (by omega) z l i1 k1 hl q1 r1
    obtain ⟨v3, i3, k3, e3, b3, q3, r3⟩ := qfi k (by omega) z l i2 k2 hl q2 r2
    obtain ⟨v4, i4, k4, e4, b4, q4, r4⟩ := qfi k (by omega) z l i3 k3 hl q3 r3
    simp (disch := omega) only [dF, e1, Bool.not_false, qhl, qa9, nth0, qzu, nth1, qut, quu, e2, q0l, e3, e4, qhj] at e
    exact ⟨_, _, _, e, qzr (by omega) hb, q4, r4⟩
theorem qfk (k : Nat) (hk : 2000000 ≤ k) (z : Bool) (l : List Int) (i h b : Int) (hl : (l.length : Int) ≤ 1048576) (h0 : 0 ≤ i) (h1 : i ≤ l.length) (hb : 1 ≤ b) (hb' : b ≤ 1000000) : ∃ (v : Bool) (i' h' : Int), go (k + 3) spec_l01Once [.ptr true [.arr false (z) (.ints .u8 (l)), .int .i64 (i), .int .i64 (h)], .int .i64 b] = some [.bool v, .ptr true [.arr false (z) (.ints .u8 (l)), .int .i64 (i'), .int .i64 (h')]] ∧ 0 ≤ i' ∧ i' ≤ l.length := by
  have e := ql6 (k + 2) z l i h b
  obtain ⟨v1, i1, k1, e1, b1, q1, r1⟩ := qfh k (by omega) z l i h b hl h0 h1 hb hb'
  simp (disch := omega) only [e1, qa9, nth0, qzu, nth1, qut, quu] at e
  exact ⟨_, _, _, e, q1, r1⟩
theorem qed (k : Nat) (hk : 2000000 ≤ k) (r v ix b : Int) (hid : idOk r v ix = true) (hv : v < 4) (hb : b = 0 ∨ b = 1) : go (k + 3) spec_ChildOf [.agg [.int .i64 r, .int .i64 v, .int .i64 ix], .int .i64 b] = some [.agg [.int .i64 r, .int .i64 (v + 1), .int .i64 (2 * ix + b)], .bool true] := by
  rw [qk4]
  have h := qn6.1 hid
  have hp : pow2 v ≤ 16 := by
    rcases lev (qn9.2 h.2.1) with rfl | rfl | rfl | rfl | rfl <;> decide
  have hi : inR b 0 1 = true := qn9.2 (by omega)
  simp (disch := omega) only [qeo, hid, bit, dF, qfj, hi, q0l, qa9, nth0, qzt, Bool.not_true, qhj]
def qaj (K : Nat) (z : Bool) (l : List Int) (v : Int) (N : Nat) : Prop := ∀ (r ix c i h : Int) (q : Bool) (out : List Cell), idOk r v ix = true → 1 ≤ c → c ≤ 90 + v → 0 ≤ i → i ≤ l.length → out.length + N ≤ 4096 →
    ∃ (new : List Cell) (i' h' : Int), go K spec_l04Root [.ptr true [.arr false (z) (.ints .u8 (l)), .int .i64 (i), .int .i64 (h)], .agg [.int .i64 r, .int .i64 v, .int .i64 ix], .int .i64 c, .ptr true [.arr true q (.r3 out)]] = some [.ptr true [.arr false (z) (.ints .u8 (l)), .int .i64 (i'), .int .i64 (h')], .ptr true [.arr true false (.r3 (out ++ new))]] ∧ (0 ≤ i' ∧ i' ≤ l.length) ∧ (1 ≤ new.length ∧ new.length ≤ N) ∧ okp (qyv r v ix) new = true ∧ endp (qyv r v ix) new = qyv r v ix + q0d v
theorem qvq {r v ix : Int} (hid : idOk r v ix = true) : okp (qyv r v ix) [(r, v, ix)] = true ∧ endp (qyv r v ix) [(r, v, ix)] = qyv r v ix + q0d v :=
  ⟨qt8.2 ⟨hid, rfl, rfl⟩, rfl⟩
theorem qvp (k : Nat) (hk : 2000000 ≤ k) (z : Bool) (l : List Int) (hl : (l.length : Int) ≤ 1048576) : qaj (k + 4) z l 4 1 := by
  intro r ix c i h q out hid hc hc' h0 h1 ho
  have e := qma (k + 3) z l i h r 4 ix c q out
  have lo : (out ++ [(r, (4 : Int), ix)]).length = out.length + 1 := by simp
  simp (disch := omega) only [dTT, big0, dT, dF, Bool.and_false, qhl, bit] at e
  exact ⟨[(r, 4, ix)], i, h, e, ⟨h0, h1⟩, by simp, qvq hid⟩
theorem qvr (k : Nat) (hk : 2000000 ≤ k) (z : Bool) (l : List Int) (hl : (l.length : Int) ≤ 1048576) (v : Int) (h0v : 0 ≤ v) (hv : v < 4) (N : Nat) (hN : 1 ≤ N) (H : qaj (k + 4) z l (v + 1) N) : qaj (k + 4 + 1) z l v (2 * N) := by
  intro r ix c i h q out hid hc hc' h0 h1 ho
  have e := qma (k + 4) z l i h r v ix c q out
  have lo : (out ++ [(r, v, ix)]).length = out.length + 1 := by simp
  obtain ⟨b, i1, k1, e1, q1, r1⟩ := qfk (k + 1) (by omega) z l i h c hl h0 h1 hc (by omega)
  cases b
  · simp (disch := omega) only [dF, big0, dT, Bool.and_false, qhl, e1, bit, qa9, nth0, qzt, Bool.not_false, nth1, qut, qzu, quu, qhj] at e
    exact ⟨[(r, v, ix)], i1, k1, e, ⟨q1, r1⟩, ⟨by simp, by simp; omega⟩, qvq hid⟩
  · simp (disch := omega) only [dF, big0, dT, Bool.and_false, qhl, e1, bit, qa9, nth0, qzt, Bool.not_true, nth1, qut, qzu, quu, qhj] at e
    have ch := qhd hid hv
    obtain ⟨n1, i2, k2, e2, p2, s2, o2, d2⟩ := H r (2 * ix) (c + 1) i1 k1 q out ch.1 (by omega) (by omega) q1 r1 (by omega)
    have l2 : (out ++ n1).length = out.length + n1.length := List.length_append ..
    obtain ⟨n2, i3, k3, e3, p3, s3, o3, d3⟩ := H r (2 * ix + 1) (c + 1) i2 k2 false (out ++ n1) ch.2.1 (by omega) (by omega) p2.1 p2.2 (by omega)
    have cA := qed (k + 1) (by omega) r v ix 0 hid hv (Or.inl rfl)
    have cB := qed (k + 1) (by omega) r v ix 1 hid hv (Or.inr rfl)
    rw [Int.add_zero] at cA
    have f0 := qp6 (k + 4) (k + 3) [] z l i h q out c 0 z l i1 k1 q out r v ix
    have f1 := qp6 (k + 4) (k + 2) [] z l i h q out c 1 z l i2 k2 false (out ++ n1) r v ix
    have f2 := qp6 (k + 4) (k + 1) [] z l i h q out c 2 z l i3 k3 false (out ++ n1 ++ n2) r v ix
    have w1 : IntKind.wrap .i64 (c + 1) = c + 1 := q0l (by omega) (by omega)
    have w2 : IntKind.wrap .i64 ((0 : Int) + 1) = 1 := by rw [q0l (by omega) (by omega)]; rfl
    have w3 : IntKind.wrap .i64 ((1 : Int) + 1) = 2 := by rw [q0l (by omega) (by omega)]; rfl
    simp (disch := omega) only [dF, q0l, qhj] at f2
    simp (disch := omega) only [dT, cB, w1, w3, qa9, nth0, qgr, qzu, qgs, qg3, e3, qut, quu, nth1, qus, qt3, quv, f2, qhl] at f1
    simp (disch := omega) only [dT, cA, w1, w2, qa9, nth0, qgr, qzu, qgs, qg3, e2, qut, quu, nth1, qus, qt3, quv, f1, qhl] at f0
    rw [f0, List.append_assoc] at e
    refine ⟨n1 ++ n2, i3, k3, e, p3, ?_, ?_, ?_⟩
    · rw [List.length_append]; omega
    · rw [qt7, Bool.and_eq_true]
      rw [ch.2.2.1] at o2 d2
      rw [ch.2.2.2.1] at o3
      exact ⟨o2, by rw [d2]; exact o3⟩
    · rw [qnf]
      rw [ch.2.2.1] at d2
      rw [ch.2.2.2.1] at d3
      rw [d2, d3, Int.add_assoc, ch.2.2.2.2]
theorem qfo (k : Nat) (hk : 2000000 ≤ k) (z : Bool) (l : List Int) (hl : (l.length : Int) ≤ 1048576) : qaj (k + 8) z l 0 16 :=
  qvr (k + 3) (by omega) z l hl 0 (by omega) (by omega) 8 (by omega) (qvr (k + 2) (by omega) z l hl 1 (by omega) (by omega) 4 (by omega) (qvr (k + 1) (by omega) z l hl 2 (by omega) (by omega) 2 (by omega) (qvr k hk z l hl 3 (by omega) (by omega) 1 (by omega) (qvp k hk z l hl))))
end Go.Proofs.YtoldpdhhfmlckaaGreat
end
section
namespace Go.Proofs.YtoldpdhhfmlckaaGreat
open Go.Ev
set_option maxRecDepth 20000
theorem qsu (k : Nat) (hk : 2000000 ≤ k) (fu : List (Nat × Nat)) (v0 : Bool) (v1 : List Int) (v2 v3 : Int) (z : Bool) (l : List Int) (hl : (l.length : Int) ≤ 1048576) (z5 : Bool) (l6 : List Cell) (x7 : Int) (R : Nat) (hR : 1 ≤ R) (hR' : R ≤ 3) : ∀ (n t : Nat) (i h : Int) (q : Bool) (out : List Cell), t ≤ R → R - t < n → 0 ≤ i → i ≤ l.length → (q = false ∨ t = 0) → out.length ≤ 16 * t → okp 0 out = true → endp 0 out = 16 * t →
    ∃ (out' : List Cell) (i' h' : Int), lp (k + 8) spec_l04Mesh [(.ptr true [(.arr false (v0) (.ints IntKind.u8 (v1))), (.int .i64 (v2)), (.int .i64 (v3))])] fu 3 (n) (qxf (t : Int) z l i h z5 l6 x7 q out (R : Int)) = some [.agg [.int .i64 (R : Int), .arr true false (.r3 out')], .ptr true [.arr false (z) (.ints .u8 (l)), .int .i64 (i'), .int .i64 (h')]] ∧ (0 ≤ i' ∧ i' ≤ l.length) ∧ qtl R 0 out' = true
  | 0, t, i, h, q, out, ht, hn, h0, h1, hq, ho, o, d => by omega
  | n + 1, t, i, h, q, out, ht, hn, h0, h1, hq, ho, o, d => by
    have e := qp5 (k + 8) n fu v0 v1 v2 v3 (t : Int) z l i h z5 l6 x7 q out (R : Int)
    by_cases g : t < R
    · obtain ⟨v, i1, k1, e1, b1, q1, r1⟩ := qfh (k + 6) (by omega) z l i h 2 hl h0 h1 (by omega) (by omega)
      have id : idOk (t : Int) 0 0 = true := qn6.2 ⟨by omega, by omega, by omega, by decide⟩
      obtain ⟨n1, i2, k2, e2, p2, s2, o2, d2⟩ := qfo k (by omega) z l hl (t : Int) 0 (1 + v) i1 k1 q out id (by omega) (by omega) q1 r1 (by omega)
      have st : qyv (t : Int) 0 0 = 16 * t := by rw [qyx id]; omega
      rw [st] at o2 d2
      have lo : (out ++ n1).length = out.length + n1.length := List.length_append ..
      obtain ⟨out', i', h', e3, p3, o3⟩ := qsu k hk fu v0 v1 v2 v3 z l hl z5 l6 x7 R hR hR' n (t + 1) i2 k2 false (out ++ n1) (by omega) (by omega) p2.1 p2.2 (Or.inl rfl) (by omega) (by rw [qt7, d, Bool.and_eq_true]; exact ⟨o, o2⟩) (by rw [qnf, d, d2, w0]; omega)
      simp (disch := omega) only [dT, e1, qgp, q0l, qa9, nth1, qut, qzu, quu, nth0, e2, qus, qt3, quv, e3, qhl] at e
      exact ⟨out', i', h', e, p3, o3⟩
    · have : t = R := by omega
      subst this
      rcases hq with rfl | h
      · simp (disch := omega) only [dF, qgp, q0l, qhj] at e
        exact ⟨out, i, h, e, ⟨h0, h1⟩, qtn.2 ⟨o, by omega, by rw [d]; omega⟩⟩
      · omega
theorem qfn (k : Nat) (hk : 2000000 ≤ k) (z : Bool) (l : List Int) (i h : Int) (hl : (l.length : Int) ≤ 1048576) (h0 : 0 ≤ i) (h1 : i ≤ l.length) :
    ∃ (r : Int) (out : List Cell) (i' h' : Int), go (k + 9) spec_l04Mesh [.ptr true [.arr false (z) (.ints .u8 (l)), .int .i64 (i), .int .i64 (h)]] = some [.agg [.int .i64 r, .arr true false (.r3 out)], .ptr true [.arr false (z) (.ints .u8 (l)), .int .i64 (i'), .int .i64 (h')]] ∧ (0 ≤ i' ∧ i' ≤ l.length) ∧ qtl r 0 out = true ∧ r ≤ 3 := by
  have e := ql9 (k + 8) z l i h
  obtain ⟨v, i1, k1, e1, b1, q1, r1⟩ := qfh (k + 6) (by omega) z l i h 3 hl h0 h1 (by omega) (by omega)
  obtain ⟨w, rfl⟩ : ∃ w : Nat, v = (w : Int) := ⟨v.toNat, by omega⟩
  obtain ⟨out, i2, k2, e2, p2, o2⟩ := qsu k hk [] z l i h z l hl true [] 0 (1 + w) (by omega) (by omega) (k + 8) 0 i1 k1 true [] (by omega) (by omega) q1 r1 (Or.inr rfl) (by simp) rfl rfl
  rw [show ((1 + w : Nat) : Int) = 1 + (w : Int) by omega, show ((0 : Nat) : Int) = 0 from rfl] at e2
  rw [show ((1 + w : Nat) : Int) = 1 + (w : Int) by omega] at o2
  simp (disch := omega) only [e1, qa9, nth1, qut, qzu, quu, nth0, q0l, e2] at e
  exact ⟨_, _, _, _, e, p2, o2, by omega⟩
theorem qfp (k : Nat) (hk : 2000000 ≤ k) (a0 : Int) (a1z : Bool) (a1 : List Cell) (i : Nat) (hl : (a1.length : Int) ≤ 1048576) (hi : i + 1 < a1.length) : go (k + 1) spec_l05Coarser [.agg [.int .i64 a0, .arr false a1z (.r3 a1)], .int .i64 (i : Int)] = some [.int .i64 ((qhg a1 i : Nat) : Int)] := by
  rw [qmb]
  unfold qhg
  simp (disch := omega) only [dT, nI, Bool.and_true, qgp, q0l, Int.toNat_natCast, qhl]
  by_cases g : qqx a1 (i + 1) < qqx a1 i
  · rw [if_pos g]; simp only [qqx] at g; simp (disch := omega) only [dT, qhl]
  · rw [if_neg g]; simp only [qqx] at g; simp (disch := omega) only [dF, qhj]
theorem qzk {α : Type} (l : List α) (i : Nat) : List.take (l.length - i) (List.drop i l) = l.drop i := by
  apply List.take_of_length_le; rw [List.length_drop]; omega
theorem ton0 : Int.toNat 0 = 0 := Eq.trans rfl rfl
theorem qft (k : Nat) (hk : 2000000 ≤ k) (a0 : Int) (a1z : Bool) (a1 : List Cell) (i : Nat) (hl : (a1.length : Int) ≤ 1000000) (hi : i < a1.length) (hid : idOk (a1.getD i zz3).1 (a1.getD i zz3).2.1 (a1.getD i zz3).2.2 = true) (hv : (a1.getD i zz3).2.1 < 4) : go (k + 4) spec_l05Split [.agg [.int .i64 a0, .arr false a1z (.r3 a1)], .int .i64 (i : Int)] = some [.agg [.int .i64 a0, .arr true false (.r3 (qym a1 i))]] := by
  rw [qmf]
  have cA := qed k (by omega) _ _ _ 0 hid hv (Or.inl rfl)
  have cB := qed k (by omega) _ _ _ 1 hid hv (Or.inr rfl)
  rw [Int.add_zero] at cA
  have l1 : (a1.take i).length = i := by rw [List.length_take]; omega
  have l2 : ∀ x y : Cell, (a1.take i ++ [x, y]).length = i + 2 := fun x y => by rw [List.length_append, l1]; rfl
  have l3 : ∀ x y : Cell, (a1.take i ++ [x, y] ++ a1.drop (i + 1)).length = a1.length + 1 := fun x y => by rw [List.length_append, l2, List.length_drop]; omega
  simp (disch := omega) only [dT, nI, Bool.and_true, Int.toNat_natCast, cA, cB, ton0, Nat.sub_zero, Nat.zero_add, List.drop_zero, qt2, l1, big0, l2, qgp, q0l, qzk, l3, Bool.false_and, dF, Bool.and_false, qhl, qa9, nth0, qgr, qzu, qgs, qg3]
  rw [List.append_assoc]; rfl
theorem qr9 (k : Nat) (hk : 2000000 ≤ k) (fu : List (Nat × Nat)) (z1 : Bool) (l2 : List Cell) (x3 r : Int) : ∀ (N n : Nat) (l : List Cell), N < n → qtl r 0 l = true → 129 ≤ N + l.length →
    lp (k + 5) spec_Balance [] fu 5 (n) (qw0 (unb l) z1 l2 x3 false l r) = some [.agg [.int .i64 r, .arr true false (.r3 (balN N l))]]
  | N, 0, l, hn, h, hN => by omega
  | 0, n + 1, l, hn, h, hN => by have := qtr h; omega
  | N + 1, n + 1, l, hn, h, hN => by
    have ml := qtr h
    have e := qpq (k + 5) n fu (unb l) z1 l2 x3 false l r
    unfold balN
    by_cases g : unb l < 0
    · rw [if_pos g]; simp (disch := omega) only [dF, qhj] at e; exact e
    · rw [if_neg g]
      obtain ⟨j, ej, h1, h2⟩ := qz1 (by omega : 0 ≤ unb l)
      have c := qhh h h1 h2
      have sm := qyp h c.1 c.2
      have sl := qyn c.1
      have id := ((qtq _ _ _ h).2.2.2.1 _ c.1).2.2
      have IH := qr9 k hk fu z1 l2 x3 r N n _ (by omega) sm (by omega)
      rw [ej, Int.toNat_natCast]
      rw [ej] at e
      have mv := qts _ _ _ sm
      have mm := qtr sm
      simp (disch := omega) only [dT, qfp, qa9, nth0, qzu, qhl] at e
      rw [qft (k + 1) (by omega) _ _ _ _ (by omega) c.1 id c.2] at e
      simp (disch := omega) only [qa9, nth0, qgr, qzu, qgs, qt3, quv] at e
      rw [qfr (k + 4) (by omega) _ _ _ (by omega) mv] at e
      simp (disch := omega) only [qa9, nth0, qzu, IH] at e
      exact e
theorem qeb (k : Nat) (hk : 2000000 ≤ k) (a0 : Int) (a1z : Bool) (a1 : List Cell) (h : qtl a0 0 a1 = true) : go (k + 6) spec_Balance [.agg [.int .i64 a0, .arr false a1z (.r3 a1)]] = some [.agg [.int .i64 a0, .arr true false (.r3 (bal a1))]] := by
  rw [qk2]
  have ml := qtr h
  have mv := qts _ _ _ h
  simp (disch := omega) only [qfl, qev, h, bit, qa9, nth0, qzt, Bool.not_true, qhj, qgr, qzu, qgs, qt3, quv]
  rw [qfr (k + 4) (by omega) _ _ _ (by omega) mv]
  simp (disch := omega) only [qa9, nth0, qzu]
  exact qr9 k hk [] true [] 0 a0 _ _ a1 (by omega) h (by omega)
theorem qfs (k : Nat) (hk : 2000000 ≤ k) (z : Bool) (l : List Int) (i h : Int) (hl : (l.length : Int) ≤ 1048576) (h0 : 0 ≤ i) (h1 : i ≤ l.length) :
    ∃ (r : Int) (out : List Cell) (i' h' : Int), go (k + 10) spec_l05Mesh [.ptr true [.arr false (z) (.ints .u8 (l)), .int .i64 (i), .int .i64 (h)]] = some [.agg [.int .i64 r, .arr true false (.r3 out)], .ptr true [.arr false (z) (.ints .u8 (l)), .int .i64 (i'), .int .i64 (h')]] ∧ (0 ≤ i' ∧ i' ≤ l.length) ∧ qtl r 0 out = true ∧ unb out < 0 ∧ r ≤ 3 := by
  have e := qme (k + 9) z l i h
  obtain ⟨r, out, i1, k1, e1, q1, m1, r1⟩ := qfn k (by omega) z l i h hl h0 h1
  have e2 := qeb (k + 3) (by omega) r false out m1
  simp (disch := omega) only [e1, qa9, nth0, qgr, qzu, qgs, qt3, quv, e2, nth1, qut, quu] at e
  exact ⟨_, _, _, _, e, q1, (qa5 m1).1, (qa5 m1).2, r1⟩
end Go.Proofs.YtoldpdhhfmlckaaGreat
end
section
namespace Go.Proofs.YtoldpdhhfmlckaaGreat
open Go.Ev
set_option maxRecDepth 20000
theorem qtf : ∀ (m t : List Int) (x y : Int), m.length = t.length → qtb m t = true → 0 ≤ x → x ≤ 10000000 → 0 ≤ y → y ≤ 1000 * x → qtb (m ++ [x]) (t ++ [y]) = true
  | [], [], x, y, _, _, h1, h2, h3, h4 => by simp only [List.nil_append, qtb, Bool.and_eq_true, qn9]; exact ⟨⟨h1, h2⟩, ⟨h3, h4⟩, trivial⟩
  | [], _ :: _, _, _, h, _, _, _, _, _ => by simp at h
  | _ :: _, [], _, _, h, _, _, _, _, _ => by simp at h
  | a :: m, b :: t, x, y, hl, h, h1, h2, h3, h4 => by
    simp only [List.cons_append, qtb, Bool.and_eq_true] at h ⊢
    exact ⟨h.1, h.2.1, qtf m t x y (by simpa using hl) h.2.2 h1 h2 h3 h4⟩
theorem qa8 : ∀ (a : List Int) (x : Int), qa6 a = true → 0 ≤ x → x ≤ 1000000 → qa6 (a ++ [x]) = true
  | [], x, _, h1, h2 => by simp only [List.nil_append, qa6, Bool.and_eq_true, qn9]; exact ⟨⟨h1, h2⟩, trivial⟩
  | a :: l, x, h, h1, h2 => by
    simp only [List.cons_append, qa6, Bool.and_eq_true] at h ⊢
    exact ⟨h.1, qa8 l x h.2 h1 h2⟩
theorem qsx (k : Nat) (hk : 2000000 ≤ k) (fu : List (Nat × Nat)) (v0 : Bool) (v1 : List Int) (v2 v3 : Int) (x0 : Int) (hx : 1 ≤ x0) (hx' : x0 ≤ 20000) (z : Bool) (l : List Int) (hl : (l.length : Int) ≤ 1048576) (z6 : Bool) (l7 : List Cell) (z8 : Bool) (l9 : List Int) (z10 : Bool) (l11 : List Int) (z12 : Bool) (l13 : List Int) (x14 : Int) (c : List Cell) (hc : 1 ≤ c.length) (hc' : c.length ≤ 128) (x17 : Int) (bd : List Int) (r : Int) :
    ∀ (n t : Nat) (i h : Int) (zm zt : Bool) (m tr : List Int), t ≤ c.length → c.length - t < n → 0 ≤ i → i ≤ l.length → (zm = false ∨ t = 0) → (zt = false ∨ t = 0) → m.length = t → tr.length = t → qtb m tr = true → isum m ≤ 20000 * t →
    ∃ (m' t' : List Int) (i' h' : Int), lp (k + 10) spec_l07State [(.ptr true [(.arr false (v0) (.ints IntKind.u8 (v1))), (.int .i64 (v2)), (.int .i64 (v3))])] fu 9 (n) (qxj x0 (t : Int) z l i h z6 l7 z8 l9 z10 l11 z12 l13 x14 false c x17 zm m zt tr false bd r) = some [.agg [.int .i64 (r), .arr true (false) (.r3 (c)), .arr true (false) (.ints .i64 (m')), .arr true (false) (.ints .i64 (t')), .arr true (false) (.ints .i64 (bd))], .ptr true [.arr false (z) (.ints .u8 (l)), .int .i64 (i'), .int .i64 (h')]] ∧ (0 ≤ i' ∧ i' ≤ l.length) ∧ m'.length = c.length ∧ t'.length = c.length ∧ qtb m' t' = true ∧ isum m' ≤ 2560000
  | 0, t, i, h, zm, zt, m, tr, ht, hn, h0, h1, hzm, hzt, lm, lt, ok, sm => by omega
  | n + 1, t, i, h, zm, zt, m, tr, ht, hn, h0, h1, hzm, hzt, lm, lt, ok, sm => by
    have e := qp9 (k + 10) n fu v0 v1 v2 v3 x0 (t : Int) z l i h z6 l7 z8 l9 z10 l11 z12 l13 x14 false c x17 zm m zt tr false bd r
    by_cases g : t < c.length
    · have la : ∀ x : Int, (m ++ [x]).length = t + 1 := fun x => by rw [List.length_append, lm]; rfl
      have lb : ∀ x : Int, (tr ++ [x]).length = t + 1 := fun x => by rw [List.length_append, lt]; rfl
      have step : ∀ (x y : Int), 0 ≤ x → x < 20000 → 0 ≤ y → y ≤ 1000 * x → ∀ (i2 k2 : Int), 0 ≤ i2 → i2 ≤ l.length → _ := fun x y hx0 hx1 hy0 hy1 i2 k2 hi0 hi1 =>
        qsx k hk fu v0 v1 v2 v3 x0 hx hx' z l hl z6 l7 z8 l9 z10 l11 z12 l13 x14 c hc hc' x17 bd r n (t + 1) i2 k2 false false (m ++ [x]) (tr ++ [y]) (by omega) (by omega) hi0 hi1 (Or.inl rfl) (Or.inl rfl) (la x) (lb y) (qtf m tr x y (by omega) ok (by omega) (by omega) hy0 hy1) (by rw [qod]; simp only [isum]; omega)
      obtain ⟨u1, i1, k1, e1, b1, q1, r1⟩ := qfh (k + 8) (by omega) z l i h x0 hl h0 h1 hx (by omega)
      obtain ⟨u2, i2, k2, e2, q2, r2⟩ := qfk (k + 7) (by omega) z l i1 k1 6 hl q1 r1 (by omega) (by omega)
      cases u2
      · obtain ⟨u3, i3, k3, e3, b3, q3, r3⟩ := qfh (k + 8) (by omega) z l i2 k2 200 hl q2 r2 (by omega) (by omega)
        obtain ⟨u4, i4, k4, e4, b4, q4, r4⟩ := qfh (k + 8) (by omega) z l i3 k3 (u1 + 1) hl q3 r3 (by omega) (by omega)
        have p0 : 0 ≤ u1 * u3 := Int.mul_nonneg b1.1 b3.1
        have p1 : u1 * u3 ≤ u1 * 199 := Int.mul_le_mul_of_nonneg_left (by omega) b1.1
        obtain ⟨m', t', i', h', e5, p5⟩ := step u1 (u1 * u3 + u4) (by omega) (by omega) (by omega) (by omega) i4 k4 q4 r4
        simp (disch := omega) only [nI, dT, e1, bit, la, big0, lb, qgp, q0l, dF, Bool.and_false, qhl, qa9, nth1, qut, qzu, quu, e2, nth0, qzt, e3, e4, e5, qhj] at e
        exact ⟨m', t', i', h', e, p5⟩
      · obtain ⟨u0, i0, k0, e0, b0, q0, r0⟩ := qfh (k + 8) (by omega) z l i2 k2 3 hl q2 r2 (by omega) (by omega)
        obtain ⟨u3, i3, k3, e3, b3, q3, r3⟩ := qfh (k + 8) (by omega) z l i0 k0 200 hl q0 r0 (by omega) (by omega)
        obtain ⟨u4, i4, k4, e4, b4, q4, r4⟩ := qfh (k + 8) (by omega) z l i3 k3 (u0 + 1) hl q3 r3 (by omega) (by omega)
        have p0 : 0 ≤ u0 * u3 := Int.mul_nonneg b0.1 b3.1
        have p1 : u0 * u3 ≤ u0 * 199 := Int.mul_le_mul_of_nonneg_left (by omega) b0.1
        obtain ⟨m', t', i', h', e5, p5⟩ := step u0 (u0 * u3 + u4) (by omega) (by omega) (by omega) (by omega) i4 k4 q4 r4
        simp (disch := omega) only [nI, dT, e1, bit, la, big0, lb, qgp, q0l, dF, Bool.and_false, qhl, qa9, nth1, qut, qzu, quu, e2, nth0, qzt, e0, e3, e4, e5] at e
        exact ⟨m', t', i', h', e, p5⟩
    · have : zm = false := by rcases hzm with h | h <;> omega
      subst this
      have : zt = false := by rcases hzt with h | h <;> omega
      subst this
      simp (disch := omega) only [nI, dF, bit, big0, qgp, q0l, Bool.false_and, qhj] at e
      exact ⟨m, tr, i, h, e, ⟨h0, h1⟩, by omega, by omega, ok, by omega⟩
theorem qsw (k : Nat) (hk : 2000000 ≤ k) (fu : List (Nat × Nat)) (v0 : Bool) (v1 : List Int) (v2 v3 : Int) (z : Bool) (l : List Int) (hl : (l.length : Int) ≤ 1048576) (z6 : Bool) (l7 : List Cell) (z8 : Bool) (l9 : List Int) (z10 : Bool) (l11 : List Int) (z12 : Bool) (l13 : List Int) (x14 : Int) (c : List Cell) (R : Nat) (hR : 1 ≤ R) (hR' : R ≤ 3) (hm : qtl R 0 c = true) (hu : unb c < 0) :
    ∀ (n t : Nat) (i h : Int) (zb : Bool) (bd : List Int), t ≤ R → R - t < n → 0 ≤ i → i ≤ l.length → (zb = false ∨ t = 0) → bd.length = t → qa6 bd = true →
    ∃ (m' t' bd' : List Int) (i' h' : Int), lp (k + 10) spec_l07State [(.ptr true [(.arr false (v0) (.ints IntKind.u8 (v1))), (.int .i64 (v2)), (.int .i64 (v3))])] fu 4 (n) (qxi (t : Int) z l i h z6 l7 z8 l9 z10 l11 z12 l13 x14 false c (R : Int) true [] true [] zb bd (R : Int)) = some [.agg [.int .i64 ((R : Int)), .arr true (false) (.r3 (c)), .arr true (false) (.ints .i64 (m')), .arr true (false) (.ints .i64 (t')), .arr true (false) (.ints .i64 (bd'))], .ptr true [.arr false (z) (.ints .u8 (l)), .int .i64 (i'), .int .i64 (h')]] ∧ (0 ≤ i' ∧ i' ≤ l.length) ∧ StF (R : Int) c m' t' bd' ∧ isum m' ≤ 2560000
  | 0, t, i, h, zb, bd, ht, hn, h0, h1, hz, lb, ok => by omega
  | n + 1, t, i, h, zb, bd, ht, hn, h0, h1, hz, lb, ok => by
    have e := qp8 (k + 10) n fu v0 v1 v2 v3 (t : Int) z l i h z6 l7 z8 l9 z10 l11 z12 l13 x14 false c (R : Int) true [] true [] zb bd (R : Int)
    by_cases g : t < R
    · have la : ∀ x : Int, (bd ++ [x]).length = t + 1 := fun x => by rw [List.length_append, lb]; rfl
      obtain ⟨u1, i1, k1, e1, b1, q1, r1⟩ := qfh (k + 8) (by omega) z l i h 4 hl h0 h1 (by omega) (by omega)
      obtain ⟨u2, i2, k2, e2, b2, q2, r2⟩ := qfh (k + 8) (by omega) z l i1 k1 5000 hl q1 r1 (by omega) (by omega)
      have p0 : 0 ≤ u1 * u2 := Int.mul_nonneg b1.1 b2.1
      have p1 : u1 * u2 ≤ u1 * 4999 := Int.mul_le_mul_of_nonneg_left (by omega) b1.1
      obtain ⟨m', t', bd', i', h', e5, p5⟩ := qsw k hk fu v0 v1 v2 v3 z l hl z6 l7 z8 l9 z10 l11 z12 l13 x14 c R hR hR' hm hu n (t + 1) i2 k2 false (bd ++ [u1 * u2]) (by omega) (by omega) q2 r2 (Or.inl rfl) (la _) (qa8 bd _ ok p0 (by omega))
      simp (disch := omega) only [dT, e1, la, big0, qgp, q0l, dF, Bool.and_false, qhl, qa9, nth1, qut, qzu, quu, e2, nth0, e5] at e
      exact ⟨m', t', bd', i', h', e, p5⟩
    · have : zb = false := by rcases hz with h | h <;> omega
      subst this
      obtain ⟨u1, i1, k1, e1, b1, q1, r1⟩ := qfh (k + 8) (by omega) z l i h 20000 hl h0 h1 (by omega) (by omega)
      have ml := qtr hm
      obtain ⟨m', t', i', h', e5, p5, lm, lt, mk, sm⟩ := qsx k hk fu v0 v1 v2 v3 (1 + u1) (by omega) (by omega) z l hl z6 l7 z8 l9 z10 l11 z12 l13 x14 c ml.1 ml.2 (R : Int) bd (R : Int) (k + 10) 0 i1 k1 true true [] [] (by omega) (by omega) q1 r1 (Or.inr rfl) (Or.inr rfl) rfl rfl rfl (by simp [isum])
      rw [show ((0 : Nat) : Int) = 0 from rfl] at e5
      simp (disch := omega) only [dF, big0, qgp, q0l, Bool.false_and, e1, qa9, nth0, qzu, nth1, qut, quu, e5, qhj] at e
      exact ⟨m', t', bd, i', h', e, p5, ⟨hm, hu, lm, lt, by omega, mk, ok, by omega⟩, sm⟩
theorem qfx (k : Nat) (hk : 2000000 ≤ k) (z : Bool) (l : List Int) (i h : Int) (hl : (l.length : Int) ≤ 1048576) (h0 : 0 ≤ i) (h1 : i ≤ l.length) :
    ∃ (r : Int) (c : List Cell) (m t b : List Int) (i' h' : Int), go (k + 11) spec_l07State [.ptr true [.arr false (z) (.ints .u8 (l)), .int .i64 (i), .int .i64 (h)]] = some [.agg [.int .i64 (r), .arr true (false) (.r3 (c)), .arr true (false) (.ints .i64 (m)), .arr true (false) (.ints .i64 (t)), .arr true (false) (.ints .i64 (b))], .ptr true [.arr false (z) (.ints .u8 (l)), .int .i64 (i'), .int .i64 (h')]] ∧ (0 ≤ i' ∧ i' ≤ l.length) ∧ StF r c m t b ∧ r ≤ 3 ∧ isum m ≤ 2560000 := by
  have e := qmj (k + 10) z l i h
  obtain ⟨r, c, i1, k1, e1, q1, hm, hu, r3⟩ := qfs k (by omega) z l i h hl h0 h1
  have rr := (qtq _ _ _ hm).1
  obtain ⟨R, rfl⟩ : ∃ R : Nat, r = (R : Int) := ⟨r.toNat, by omega⟩
  obtain ⟨m', t', bd', i', h', e5, p5, S, sm⟩ := qsw k hk [] z l i h z l hl true [] true [] true [] true [] 0 c R (by omega) (by omega) hm hu (k + 10) 0 i1 k1 true [] (by omega) (by omega) q1.1 q1.2 (Or.inr rfl) rfl rfl
  rw [show ((0 : Nat) : Int) = 0 from rfl] at e5
  simp (disch := omega) only [e1, qa9, nth1, qut, qzu, quu, nth0, qgs, qt3, quv, qgr, e5] at e
  exact ⟨_, _, _, _, _, _, _, e, p5, S, r3, sm⟩
end Go.Proofs.YtoldpdhhfmlckaaGreat
end
