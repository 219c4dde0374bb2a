/- What the program's functions compute, and plain facts of it (part 1). No condition beyond those that each theorem states. -/
import Derived.Test.YtoldpdhhfmlckaaGreatXA
import Derived.ProofKit
import Derived.Test.YtoldpdhhfmlckaaGreatRB
import Derived.Test.YtoldpdhhfmlckaaGreatProg
import Derived.WalkKit
import Derived.KernelRfl
import Derived.Deep.QuietTactic
import Derived.BigQuiet
set_option linter.unusedVariables false
set_option linter.unusedSimpArgs false
section
namespace Go.Proofs.YtoldpdhhfmlckaaGreat
open Go.Ev
theorem qpd {x : Int} (h : -9223372036854775808 ≤ x) (h' : x ≤ 9223372036854775807) : IntKind.wrap .i64 x = x := by rw [IntKind.wrap_i64]; omega
theorem qpe {x : Int} (h : 0 ≤ x) (h' : x ≤ 9223372036854775807) : IntKind.wrap .u64 x = x := by rw [IntKind.wrap_u64]; omega
theorem nth0 (d0 : D) (l : List D) : nth (d0 :: l) 0 = d0 := Eq.trans rfl rfl
theorem nth1 (d0 d1 : D) (l : List D) : nth (d0 :: d1 :: l) 1 = d1 := Eq.trans rfl rfl
theorem qdi (d0 : D) (l : List D) : (D.agg (d0 :: l)).cell 0 = d0 := Eq.trans rfl rfl
theorem qdj (d0 d1 : D) (l : List D) : (D.agg (d0 :: d1 :: l)).cell 1 = d1 := Eq.trans rfl rfl
theorem qdk (d0 d1 d2 : D) (l : List D) : (D.agg (d0 :: d1 :: d2 :: l)).cell 2 = d2 := Eq.trans rfl rfl
theorem qdl (d0 d1 d2 d3 : D) (l : List D) : (D.agg (d0 :: d1 :: d2 :: d3 :: l)).cell 3 = d3 := Eq.trans rfl rfl
theorem qdm (d0 d1 d2 d3 d4 : D) (l : List D) : (D.agg (d0 :: d1 :: d2 :: d3 :: d4 :: l)).cell 4 = d4 := Eq.trans rfl rfl
theorem qos (k : IntKind) (n : Int) : (D.int k n).toInt = n := Eq.trans rfl rfl
theorem qor (b : Bool) : (D.bool b).toBool = b := Eq.trans rfl rfl
theorem qln (o n : Bool) (a : Arr) : (D.arr o n a).nil = n := Eq.trans rfl rfl
theorem qlz (o n : Bool) (l : List (Int × Int × Int)) : (D.arr o n (.r3 l)).r3 = l := Eq.trans rfl rfl
theorem qhy (o n : Bool) (k : IntKind) (l : List Int) : (D.arr o n (.ints k l)).ints = l := Eq.trans rfl rfl
theorem qdv {α : Type} (x y : α) : cond true x y = x := Eq.trans rfl rfl
theorem qdt {α : Type} (x y : α) : cond false x y = y := Eq.trans rfl rfl
theorem qan {α : Type} (x : List D) (f : List D → Option α) : (some x).bind f = f x := Eq.trans rfl rfl
theorem dT {p : Prop} {i : Decidable p} (h : p) : @decide p i = true := by cases i <;> simp_all
theorem dF {p : Prop} {i : Decidable p} (h : ¬p) : @decide p i = false := by cases i <;> simp_all
theorem qdg (i : Nat) : (i : Int) + 1 = ((i + 1 : Nat) : Int) := Eq.trans rfl rfl
theorem qdh (i : Nat) : (i : Int) + 2 = ((i + 2 : Nat) : Int) := Eq.trans rfl rfl
theorem qdf {i : Nat} (h : 1 ≤ i) : (i : Int) - 1 = ((i - 1 : Nat) : Int) := by omega
theorem imax (x y : Int) : (if x > y then x else y) = max x y := by by_cases h : x > y <;> simp only [h, if_true, if_false] <;> omega
theorem imin (x y : Int) : (if x < y then x else y) = min x y := by by_cases h : x < y <;> simp only [h, if_true, if_false] <;> omega
theorem qdw (b x : Bool) : cond (!b) (some [D.bool false]) (some [D.bool x]) = some [D.bool (b && x)] := by cases b <;> rfl
theorem qdx (b x : Bool) : cond b (some [D.bool x]) (some [D.bool false]) = some [D.bool (b && x)] := by cases b <;> rfl
theorem dTT {i : Decidable True} : @decide True i = true := by cases i with | isTrue _ => rfl | isFalse h => exact absurd trivial h
theorem dFF {i : Decidable False} : @decide False i = false := by cases i with | isTrue h => exact h.elim | isFalse _ => rfl
theorem qlm {α : Type} (l : List α) : [] ++ l = l := Eq.trans rfl rfl
theorem big0 : bigLen = 1099511627776 := Eq.trans rfl rfl
theorem qeb {α : Type} {l : List α} {i : Nat} (h : i < l.length) (d : α) : l.drop i = l.getD i d :: l.drop (i + 1) := by
  rw [List.drop_eq_getElem_cons h]; simp [h]
theorem qhn {α : Type} {l : List α} {i : Nat} (h : l.length ≤ i) (d : α) : l.getD i d = d := by simp [h]
theorem qho {α : Type} {l : List α} {i : Nat} (h : i < l.length) (d : α) : l.getD i d ∈ l := by simp [h]
end Go.Proofs.YtoldpdhhfmlckaaGreat
end
section
namespace Go.Proofs.YtoldpdhhfmlckaaGreat
open Go.Ev
theorem qgf (k : Nat) (a b c : Int) : go (k + 1) spec_l01In [(.int .i64 (a)), (.int .i64 (b)), (.int .i64 (c))] =
 cond (decide (b ≤ a))
 (some [(.bool (decide (a ≤ c)))])
 (some [(.bool (false))]) := by kernel_rfl
theorem qfi (k : Nat) (a b c : Int) : go (k + 1) impl_within [(.int .i64 (a)), (.int .i64 (b)), (.int .i64 (c))] =
 cond (decide (b ≤ a))
 (some [(.bool (decide (a ≤ c)))])
 (some [(.bool (false))]) := by kernel_rfl
theorem qfg (k : Nat) (a : Int) : go (k + 1) impl_isLevel [(.int .i64 (a))] =
 (go k impl_within [(.int .i64 (a)), (.int .i64 (0 : Int)), (.int .i64 ((4 : Int)))]).bind fun r0 =>
 some [(.bool (bit (nth r0 0)))] := by kernel_rfl
theorem qfz (k : Nat) (a0 a1 a2 : Int) : go (k + 1) spec_IdOk [(.agg [(.int .i64 (a0)), (.int .i64 (a1)), (.int .i64 (a2))])] =
 (go k spec_l01In [(.int .i64 (a0)), (.int .i64 (0 : Int)), (.int .i64 ((7 : Int)))]).bind fun r0 =>
 cond (bit (nth r0 0))
 ((go k spec_l01In [(.int .i64 (a1)), (.int .i64 (0 : Int)), (.int .i64 ((4 : Int)))]).bind fun r1 =>
 cond (bit (nth r1 0))
 (cond (decide ((0 : Int) ≤ a2))
 (cond (decide ((0 : Int) ≤ IntKind.wrap IntKind.u64 a1))
 (some [(.bool (decide (a2 < IntKind.wrap .i64 ((1 : Int) * (2 : Int) ^ shiftN .i64 (IntKind.wrap IntKind.u64 a1)))))])
 (none))
 (some [(.bool (false))]))
 (some [(.bool (false))]))
 (some [(.bool (false))]) := by kernel_rfl
theorem qeh (k : Nat) (a0 a1 a2 : Int) : go (k + 1) impl_IdOk [(.agg [(.int .i64 (a0)), (.int .i64 (a1)), (.int .i64 (a2))])] =
 (go k impl_within [(.int .i64 (a0)), (.int .i64 (0 : Int)), (.int .i64 ((7 : Int)))]).bind fun r0 =>
 cond (bit (nth r0 0))
 ((go k impl_isLevel [(.int .i64 (a1))]).bind fun r1 =>
 cond (bit (nth r1 0))
 (cond (decide ((0 : Int) ≤ a1))
 ((go k impl_within [(.int .i64 (a2)), (.int .i64 (0 : Int)), (.int .i64 (IntKind.wrap .i64 (IntKind.wrap .i64 ((1 : Int) * (2 : Int) ^ shiftN .i64 a1) - (1 : Int))))]).bind fun r2 =>
 some [(.bool (bit (nth r2 0)))])
 (none))
 (some [(.bool (false))]))
 (some [(.bool (false))]) := by kernel_rfl
theorem qgc (k : Nat) (a : Int) : go (k + 1) spec_WidthOf [(.int .i64 (a))] =
 (go k spec_l01In [(.int .i64 (a)), (.int .i64 (0 : Int)), (.int .i64 ((4 : Int)))]).bind fun r0 =>
 cond (!bit (nth r0 0))
 (some [(.int .i64 (0 : Int))])
 (cond (decide ((0 : Int) ≤ IntKind.wrap IntKind.u64 a))
 (some [(.int .i64 (Int.fdiv (16 : Int) ((2 : Int) ^ shiftN .i64 (IntKind.wrap IntKind.u64 a))))])
 (none)) := by kernel_rfl
theorem qe7 (k : Nat) (a : Int) : go (k + 1) impl_WidthOf [(.int .i64 (a))] =
 (go k impl_isLevel [(.int .i64 (a))]).bind fun r0 =>
 cond (!bit (nth r0 0))
 (some [(.int .i64 (0 : Int))])
 (cond (decide ((0 : Int) ≤ a))
 (some [(.int .i64 (Int.fdiv (16 : Int) ((2 : Int) ^ shiftN .i64 a)))])
 (none)) := by kernel_rfl
theorem qf9 (k : Nat) (a0 a1 a2 : Int) : go (k + 1) spec_StartOf [(.agg [(.int .i64 (a0)), (.int .i64 (a1)), (.int .i64 (a2))])] =
 (go k spec_IdOk [(.agg [(.int .i64 (a0)), (.int .i64 (a1)), (.int .i64 (a2))])]).bind fun r0 =>
 cond (!bit (nth r0 0))
 (some [(.int .i64 ((-1 : Int)))])
 ((go k spec_WidthOf [(.int .i64 (a1))]).bind fun r1 =>
 some [(.int .i64 (IntKind.wrap .i64 (IntKind.wrap .i64 (a0 * (16 : Int)) + IntKind.wrap .i64 (a2 * D.toInt (nth r1 0)))))]) := by kernel_rfl
theorem qew (k : Nat) (a0 a1 a2 : Int) : go (k + 1) impl_StartOf [(.agg [(.int .i64 (a0)), (.int .i64 (a1)), (.int .i64 (a2))])] =
 (go k impl_IdOk [(.agg [(.int .i64 (a0)), (.int .i64 (a1)), (.int .i64 (a2))])]).bind fun r0 =>
 cond (!bit (nth r0 0))
 (some [(.int .i64 ((-1 : Int)))])
 ((go k impl_WidthOf [(.int .i64 (a1))]).bind fun r1 =>
 some [(.int .i64 (IntKind.wrap .i64 (IntKind.wrap .i64 (a0 * (16 : Int)) + IntKind.wrap .i64 (a2 * D.toInt (nth r1 0)))))]) := by kernel_rfl
theorem qgi (k : Nat) (a0 a1 a2 : Int) : go (k + 1) spec_l04End [(.agg [(.int .i64 (a0)), (.int .i64 (a1)), (.int .i64 (a2))])] =
 (go k spec_StartOf [(.agg [(.int .i64 (a0)), (.int .i64 (a1)), (.int .i64 (a2))])]).bind fun r0 =>
 (go k spec_WidthOf [(.int .i64 (a1))]).bind fun r1 =>
 some [(.int .i64 (IntKind.wrap .i64 (D.toInt (nth r0 0) + D.toInt (nth r1 0))))] := by kernel_rfl
theorem qfe (k : Nat) (a0 a1 a2 : Int) : go (k + 1) impl_endOf [(.agg [(.int .i64 (a0)), (.int .i64 (a1)), (.int .i64 (a2))])] =
 (go k impl_StartOf [(.agg [(.int .i64 (a0)), (.int .i64 (a1)), (.int .i64 (a2))])]).bind fun r0 =>
 (go k impl_WidthOf [(.int .i64 (a1))]).bind fun r1 =>
 some [(.int .i64 (IntKind.wrap .i64 (D.toInt (nth r0 0) + D.toInt (nth r1 0))))] := by kernel_rfl
def qm6 (x0 x1 : Int) (z2 : Bool) (l3 : List (Int × Int × Int)) (x4 : Int) : St := ⟨fill 45 [(1, (.ptr 1 (0) (0))), (3, (.int .i64 (x0))), (4, (.int .i64 (x1)))], [], [(.arr false (z2) (.r3 (l3))), (.box true [(.int .i64 (x4)), (.sl 0 none)])]⟩
theorem qf4 (k : Nat) (a0 : Int) (a1z : Bool) (a1 : List (Int × Int × Int)) : go (k + 1) spec_MeshOk [(.agg [(.int .i64 (a0)), (.arr false (a1z) (.r3 (a1)))])] =
 lp k spec_MeshOk [] [] 3 k (qm6 (0 : Int) (0 : Int) a1z a1 a0) := by kernel_rfl
theorem qi0 (k n : Nat) (fu : List (Nat × Nat)) (x0 x1 : Int) (z2 : Bool) (l3 : List (Int × Int × Int)) (x4 : Int) : lp k spec_MeshOk [] fu 3 (n + 1) (qm6 x0 x1 z2 l3 x4) =
 cond (decide (x1 < nI (List.length l3)))
 (cond (decide ((0 : Int) ≤ x1) && decide (x1 < nI (List.length l3)))
 ((go k spec_IdOk [(.agg [(.int .i64 (Prod.fst (List.getD l3 (Int.toNat x1) zz3))), (.int .i64 (Prod.fst (Prod.snd (List.getD l3 (Int.toNat x1) zz3)))), (.int .i64 (Prod.snd (Prod.snd (List.getD l3 (Int.toNat x1) zz3))))])]).bind fun r0 =>
 cond (!bit (nth r0 0))
 (some [(.bool (false))])
 (cond (decide ((0 : Int) ≤ x1) && decide (x1 < nI (List.length l3)))
 ((go k spec_StartOf [(.agg [(.int .i64 (Prod.fst (List.getD l3 (Int.toNat x1) zz3))), (.int .i64 (Prod.fst (Prod.snd (List.getD l3 (Int.toNat x1) zz3)))), (.int .i64 (Prod.snd (Prod.snd (List.getD l3 (Int.toNat x1) zz3))))])]).bind fun r1 =>
 cond (!decide (D.toInt (nth r1 0) = x0))
 (some [(.bool (false))])
 (cond (decide ((0 : Int) ≤ x1) && decide (x1 < nI (List.length l3)))
 ((go k spec_l04End [(.agg [(.int .i64 (Prod.fst (List.getD l3 (Int.toNat x1) zz3))), (.int .i64 (Prod.fst (Prod.snd (List.getD l3 (Int.toNat x1) zz3)))), (.int .i64 (Prod.snd (Prod.snd (List.getD l3 (Int.toNat x1) zz3))))])]).bind fun r2 =>
 lp k spec_MeshOk [] fu 3 n (qm6 (D.toInt (nth r2 0)) (IntKind.wrap .i64 (x1 + (1 : Int))) z2 l3 x4))
 (none)))
 (none)))
 (none))
 ((go k spec_l01In [(.int .i64 (x4)), (.int .i64 ((1 : Int))), (.int .i64 ((8 : Int)))]).bind fun r3 =>
 cond (bit (nth r3 0))
 (some [(.bool (decide (x0 = IntKind.wrap .i64 (x4 * (16 : Int)))))])
 (some [(.bool (false))])) := by kernel_rfl
def qmi (x0 x1 x2 : Int) (z3 : Bool) (l4 : List (Int × Int × Int)) (x5 : Int) : St := ⟨fill 35 [(1, (.ptr 1 (0) (0))), (3, (.int .i64 (x0))), (7, (.sl 0 none)), (8, (.int .i64 (x1))), (9, (.int .i64 (x2)))], [], [(.arr false (z3) (.r3 (l4))), (.box true [(.int .i64 (x5)), (.sl 0 none)])]⟩
theorem qek (k : Nat) (a0 : Int) (a1z : Bool) (a1 : List (Int × Int × Int)) : go (k + 1) impl_MeshOk [(.agg [(.int .i64 (a0)), (.arr false (a1z) (.r3 (a1)))])] =
 lp k impl_MeshOk [] [] 3 k (qmi (0 : Int) (nI (List.length a1)) (0 : Int) a1z a1 a0) := by kernel_rfl
theorem qic (k n : Nat) (fu : List (Nat × Nat)) (x0 x1 x2 : Int) (z3 : Bool) (l4 : List (Int × Int × Int)) (x5 : Int) : lp k impl_MeshOk [] fu 3 (n + 1) (qmi x0 x1 x2 z3 l4 x5) =
 cond (decide (x2 < x1))
 (cond (decide ((0 : Int) ≤ x2) && decide (x2 < nI (List.length l4)))
 ((go k impl_IdOk [(.agg [(.int .i64 (Prod.fst (List.getD l4 (Int.toNat x2) zz3))), (.int .i64 (Prod.fst (Prod.snd (List.getD l4 (Int.toNat x2) zz3)))), (.int .i64 (Prod.snd (Prod.snd (List.getD l4 (Int.toNat x2) zz3))))])]).bind fun r0 =>
 cond (!bit (nth r0 0))
 (some [(.bool (false))])
 ((go k impl_StartOf [(.agg [(.int .i64 (Prod.fst (List.getD l4 (Int.toNat x2) zz3))), (.int .i64 (Prod.fst (Prod.snd (List.getD l4 (Int.toNat x2) zz3)))), (.int .i64 (Prod.snd (Prod.snd (List.getD l4 (Int.toNat x2) zz3))))])]).bind fun r1 =>
 cond (!decide (D.toInt (nth r1 0) = x0))
 (some [(.bool (false))])
 ((go k impl_endOf [(.agg [(.int .i64 (Prod.fst (List.getD l4 (Int.toNat x2) zz3))), (.int .i64 (Prod.fst (Prod.snd (List.getD l4 (Int.toNat x2) zz3)))), (.int .i64 (Prod.snd (Prod.snd (List.getD l4 (Int.toNat x2) zz3))))])]).bind fun r2 =>
 lp k impl_MeshOk [] fu 3 n (qmi (D.toInt (nth r2 0)) x1 (IntKind.wrap .i64 (x2 + (1 : Int))) z3 l4 x5))))
 (none))
 ((go k impl_within [(.int .i64 (x5)), (.int .i64 ((1 : Int))), (.int .i64 ((8 : Int)))]).bind fun r3 =>
 cond (bit (nth r3 0))
 (some [(.bool (decide (x0 = IntKind.wrap .i64 (x5 * (16 : Int)))))])
 (some [(.bool (false))])) := by kernel_rfl
theorem qgm (k : Nat) (a0 : Int) (a1z : Bool) (a1 : List (Int × Int × Int)) (b : Int) : go (k + 1) spec_l05Face [(.agg [(.int .i64 (a0)), (.arr false (a1z) (.r3 (a1)))]), (.int .i64 (b))] =
 cond (decide ((0 : Int) ≤ b) && decide (b < nI (List.length a1)))
 (cond (decide ((0 : Int) ≤ IntKind.wrap .i64 (b + (1 : Int))) && decide (IntKind.wrap .i64 (b + (1 : Int)) < nI (List.length a1)))
 (some [(.int .i64 (if Prod.fst (Prod.snd (List.getD a1 (Int.toNat (IntKind.wrap .i64 (b + (1 : Int)))) zz3)) > Prod.fst (Prod.snd (List.getD a1 (Int.toNat b) zz3)) then Prod.fst (Prod.snd (List.getD a1 (Int.toNat (IntKind.wrap .i64 (b + (1 : Int)))) zz3)) else Prod.fst (Prod.snd (List.getD a1 (Int.toNat b) zz3))))])
 (none))
 (none) := by kernel_rfl
theorem qem (k : Nat) (a0 : Int) (a1z : Bool) (a1 : List (Int × Int × Int)) (b : Int) : go (k + 1) impl_Mesh_faceLevel [(.agg [(.int .i64 (a0)), (.arr false (a1z) (.r3 (a1)))]), (.int .i64 (b))] =
 cond (decide ((0 : Int) ≤ b) && decide (b < nI (List.length a1)))
 (cond (decide ((0 : Int) ≤ IntKind.wrap .i64 (b + (1 : Int))) && decide (IntKind.wrap .i64 (b + (1 : Int)) < nI (List.length a1)))
 (some [(.int .i64 (if Prod.fst (Prod.snd (List.getD a1 (Int.toNat (IntKind.wrap .i64 (b + (1 : Int)))) zz3)) > Prod.fst (Prod.snd (List.getD a1 (Int.toNat b) zz3)) then Prod.fst (Prod.snd (List.getD a1 (Int.toNat (IntKind.wrap .i64 (b + (1 : Int)))) zz3)) else Prod.fst (Prod.snd (List.getD a1 (Int.toNat b) zz3))))])
 (none))
 (none) := by kernel_rfl
def qne (x0 : Int) (z1 : Bool) (l2 : List (Int × Int × Int)) (x3 : Int) : St := ⟨fill 34 [(1, (.ptr 1 (0) (0))), (3, (.int .i64 (x0)))], [], [(.arr false (z1) (.r3 (l2))), (.box true [(.int .i64 (x3)), (.sl 0 none)])]⟩
theorem qgn (k : Nat) (a0 : Int) (a1z : Bool) (a1 : List (Int × Int × Int)) : go (k + 1) spec_l05First [(.agg [(.int .i64 (a0)), (.arr false (a1z) (.r3 (a1)))])] =
 lp k spec_l05First [] [] 2 k (qne (0 : Int) a1z a1 a0) := by kernel_rfl
theorem qi8 (k n : Nat) (fu : List (Nat × Nat)) (x0 : Int) (z1 : Bool) (l2 : List (Int × Int × Int)) (x3 : Int) : lp k spec_l05First [] fu 2 (n + 1) (qne x0 z1 l2 x3) =
 cond (decide (IntKind.wrap .i64 (x0 + (1 : Int)) < nI (List.length l2)))
 (cond (decide ((0 : Int) ≤ x0) && decide (x0 < nI (List.length l2)))
 (cond (decide ((0 : Int) ≤ IntKind.wrap .i64 (x0 + (1 : Int))) && decide (IntKind.wrap .i64 (x0 + (1 : Int)) < nI (List.length l2)))
 (cond (decide ((1 : Int) < IntKind.wrap .i64 (Prod.fst (Prod.snd (List.getD l2 (Int.toNat x0) zz3)) - Prod.fst (Prod.snd (List.getD l2 (Int.toNat (IntKind.wrap .i64 (x0 + (1 : Int)))) zz3)))))
 (some [(.int .i64 (x0))])
 (cond (decide (IntKind.wrap .i64 (Prod.fst (Prod.snd (List.getD l2 (Int.toNat x0) zz3)) - Prod.fst (Prod.snd (List.getD l2 (Int.toNat (IntKind.wrap .i64 (x0 + (1 : Int)))) zz3))) < (-1 : Int)))
 (some [(.int .i64 (x0))])
 (lp k spec_l05First [] fu 2 n (qne (IntKind.wrap .i64 (x0 + (1 : Int))) z1 l2 x3))))
 (none))
 (none))
 (some [(.int .i64 ((-1 : Int)))]) := by kernel_rfl
def qmk (x0 x1 : Int) (z2 : Bool) (l3 : List (Int × Int × Int)) (x4 : Int) : St := ⟨fill 29 [(1, (.ptr 1 (0) (0))), (7, (.int .i64 (x0))), (8, (.int .i64 (x1)))], [], [(.arr false (z2) (.r3 (l3))), (.box true [(.int .i64 (x4)), (.sl 0 none)])]⟩
theorem qes (k : Nat) (a0 : Int) (a1z : Bool) (a1 : List (Int × Int × Int)) : go (k + 1) impl_Mesh_unbalanced [(.agg [(.int .i64 (a0)), (.arr false (a1z) (.r3 (a1)))])] =
 lp k impl_Mesh_unbalanced [] [] 2 k (qmk (IntKind.wrap .i64 (nI (List.length a1) - (1 : Int))) (0 : Int) a1z a1 a0) := by kernel_rfl
theorem qie (k n : Nat) (fu : List (Nat × Nat)) (x0 x1 : Int) (z2 : Bool) (l3 : List (Int × Int × Int)) (x4 : Int) : lp k impl_Mesh_unbalanced [] fu 2 (n + 1) (qmk x0 x1 z2 l3 x4) =
 cond (decide (x1 < x0))
 (cond (decide ((0 : Int) ≤ x1) && decide (x1 < nI (List.length l3)))
 (cond (decide ((0 : Int) ≤ IntKind.wrap .i64 (x1 + (1 : Int))) && decide (IntKind.wrap .i64 (x1 + (1 : Int)) < nI (List.length l3)))
 ((go k impl_absolute [(.int .i64 (IntKind.wrap .i64 (Prod.fst (Prod.snd (List.getD l3 (Int.toNat x1) zz3)) - Prod.fst (Prod.snd (List.getD l3 (Int.toNat (IntKind.wrap .i64 (x1 + (1 : Int)))) zz3)))))]).bind fun r0 =>
 cond (decide ((1 : Int) < D.toInt (nth r0 0)))
 (some [(.int .i64 (x1))])
 (lp k impl_Mesh_unbalanced [] fu 2 n (qmk x0 (IntKind.wrap .i64 (x1 + (1 : Int))) z2 l3 x4)))
 (none))
 (none))
 (some [(.int .i64 ((-1 : Int)))]) := by kernel_rfl
theorem qfa (k : Nat) (a : Int) : go (k + 1) impl_absolute [(.int .i64 (a))] =
 some [(.int .i64 (if IntKind.wrap .i64 ((0 : Int) - a) > a then IntKind.wrap .i64 ((0 : Int) - a) else a))] := by kernel_rfl
theorem qf0 (k : Nat) (a0 : Int) (a1z : Bool) (a1 : List (Int × Int × Int)) : go (k + 1) spec_IsBalanced [(.agg [(.int .i64 (a0)), (.arr false (a1z) (.r3 (a1)))])] =
 (go k spec_MeshOk [(.agg [(.int .i64 (a0)), (.arr false (a1z) (.r3 (a1)))])]).bind fun r0 =>
 cond (bit (nth r0 0))
 ((go k spec_l05First [(.agg [(.int .i64 (a0)), (.arr false (a1z) (.r3 (a1)))])]).bind fun r1 =>
 some [(.bool (decide (D.toInt (nth r1 0) < (0 : Int))))])
 (some [(.bool (false))]) := by kernel_rfl
theorem qei (k : Nat) (a0 : Int) (a1z : Bool) (a1 : List (Int × Int × Int)) : go (k + 1) impl_IsBalanced [(.agg [(.int .i64 (a0)), (.arr false (a1z) (.r3 (a1)))])] =
 (go k impl_MeshOk [(.agg [(.int .i64 (a0)), (.arr false (a1z) (.r3 (a1)))])]).bind fun r0 =>
 cond (bit (nth r0 0))
 ((go k impl_Mesh_unbalanced [(.agg [(.int .i64 (a0)), (.arr false (a1z) (.r3 (a1)))])]).bind fun r1 =>
 some [(.bool (decide (D.toInt (nth r1 0) < (0 : Int))))])
 (some [(.bool (false))]) := by kernel_rfl
theorem qen (k : Nat) (a0 : Int) (a1z : Bool) (a1 : List (Int × Int × Int)) (b : Int) : go (k + 1) impl_Mesh_has [(.agg [(.int .i64 (a0)), (.arr false (a1z) (.r3 (a1)))]), (.int .i64 (b))] =
 (go k impl_within [(.int .i64 (b)), (.int .i64 (0 : Int)), (.int .i64 (IntKind.wrap .i64 (nI (List.length a1) - (1 : Int))))]).bind fun r0 =>
 some [(.bool (bit (nth r0 0)))] := by kernel_rfl
end Go.Proofs.YtoldpdhhfmlckaaGreat
end
section
namespace Go.Proofs.YtoldpdhhfmlckaaGreat
open Go.Ev
def inR (a b c : Int) : Bool := decide (b ≤ a) && decide (a ≤ c)
theorem qhx {a b c : Int} : inR a b c = true ↔ b ≤ a ∧ a ≤ c := by simp [inR]
theorem qco (k : Nat) (hk : 2000000 ≤ k) (a : Int) (b : Int) (c : Int) : go (k + 1) spec_l01In [(.int .i64 (a)), (.int .i64 (b)), (.int .i64 (c))] = some [.bool (inR a b c)] := by
  rw [qgf]; unfold inR; cases decide (b ≤ a) <;> rfl
theorem qbu (k : Nat) (hk : 2000000 ≤ k) (a : Int) (b : Int) (c : Int) : go (k + 1) impl_within [(.int .i64 (a)), (.int .i64 (b)), (.int .i64 (c))] = some [.bool (inR a b c)] := by
  rw [qfi]; unfold inR; cases decide (b ≤ a) <;> rfl
def pow2 (l : Int) : Int := 2 ^ l.toNat
def idOk (r l i : Int) : Bool := inR r 0 7 && (inR l 0 4 && (decide (0 ≤ i) && decide (i < pow2 l)))
theorem lev {l : Int} (h : inR l 0 4 = true) : l = 0 ∨ l = 1 ∨ l = 2 ∨ l = 3 ∨ l = 4 := by
  simp only [inR, Bool.and_eq_true, decide_eq_true_eq] at h; omega
theorem p20 : pow2 0 = 1 := rfl
theorem p21 : pow2 1 = 2 := rfl
theorem p22 : pow2 2 = 4 := rfl
theorem p23 : pow2 3 = 8 := rfl
theorem p24 : pow2 4 = 16 := rfl
theorem sh0 : shiftN .i64 0 = 0 := by decide
theorem sh1 : shiftN .i64 1 = 1 := by decide
theorem sh2 : shiftN .i64 2 = 2 := by decide
theorem sh3 : shiftN .i64 3 = 3 := by decide
theorem sh4 : shiftN .i64 4 = 4 := by decide
theorem pw {l : Int} (h : inR l 0 4 = true) : IntKind.wrap .i64 ((1 : Int) * (2 : Int) ^ shiftN .i64 l) = pow2 l := by
  rcases lev h with rfl | rfl | rfl | rfl | rfl <;> simp [sh0, sh1, sh2, sh3, sh4, qpd, p20, p21, p22, p23, p24]
theorem lev0 {l : Int} (h : inR l 0 4 = true) : 0 ≤ l ∧ l ≤ 4 := by
  simp only [inR, Bool.and_eq_true, decide_eq_true_eq] at h; omega
theorem qlv {l : Int} (h : inR l 0 4 = true) : 1 ≤ pow2 l ∧ pow2 l ≤ 16 := by
  rcases lev h with rfl | rfl | rfl | rfl | rfl <;> simp [p20, p21, p22, p23, p24]
theorem qb9 (k : Nat) (hk : 2000000 ≤ k) (a0 : Int) (a1 : Int) (a2 : Int) : go (k + 2) spec_IdOk [(.agg [(.int .i64 (a0)), (.int .i64 (a1)), (.int .i64 (a2))])] = some [.bool (idOk a0 a1 a2)] := by
  rw [qfz]
  simp (disch := omega) only [qco, bit, qan, nth0, qor]
  unfold idOk
  cases h1 : inR a0 0 7 <;> cases h2 : inR a1 0 4 <;> simp only [qdv, qdt, Bool.true_and, Bool.false_and, Bool.and_false]
  have := lev0 h2
  rw [qpe (x := a1) (by omega) (by omega), pw h2]
  by_cases h3 : (0 : Int) ≤ a2
  · simp [h3, this.1]
  · simp [h3]
theorem qbl (k : Nat) (hk : 2000000 ≤ k) (a : Int) : go (k + 2) impl_isLevel [(.int .i64 (a))] = some [.bool (inR a 0 4)] := by
  rw [qfg]
  simp (disch := omega) only [qbu, bit, qan, nth0, qor]
theorem qaw (k : Nat) (hk : 2000000 ≤ k) (a0 : Int) (a1 : Int) (a2 : Int) : go (k + 3) impl_IdOk [(.agg [(.int .i64 (a0)), (.int .i64 (a1)), (.int .i64 (a2))])] = some [.bool (idOk a0 a1 a2)] := by
  rw [qeh]
  simp (disch := omega) only [qbu, bit, qbl, qan, nth0, qor]
  unfold idOk
  cases h1 : inR a0 0 7 <;> cases h2 : inR a1 0 4 <;> simp only [qdv, qdt, Bool.true_and, Bool.false_and, Bool.and_false]
  have := lev0 h2
  have := qlv h2
  rw [pw h2, qpd (x := pow2 a1 - 1) (by omega) (by omega)]
  rw [show decide ((0 : Int) ≤ a1) = true by simp; omega, qdv]
  have e : inR a2 0 (pow2 a1 - 1) = (decide (0 ≤ a2) && decide (a2 < pow2 a1)) := by
    unfold inR; rw [Bool.eq_iff_iff]; simp only [Bool.and_eq_true, decide_eq_true_eq]; omega
  rw [e]
def qo6 (l : Int) : Int := if inR l 0 4 then 16 / pow2 l else 0
theorem qck (k : Nat) (hk : 2000000 ≤ k) (a : Int) : go (k + 2) spec_WidthOf [(.int .i64 (a))] = some [.int .i64 (qo6 a)] := by
  rw [qgc]
  simp (disch := omega) only [qco, bit, qan, nth0, qor, qo6]
  cases h2 : inR a 0 4
  · simp
  · rcases lev h2 with rfl | rfl | rfl | rfl | rfl <;> simp [qpe, sh0, sh1, sh2, sh3, sh4, p20, p21, p22, p23, p24] <;> decide
theorem qa6 (k : Nat) (hk : 2000000 ≤ k) (a : Int) : go (k + 3) impl_WidthOf [(.int .i64 (a))] = some [.int .i64 (qo6 a)] := by
  rw [qe7]
  simp (disch := omega) only [qbl, bit, qan, nth0, qor, qo6]
  cases h2 : inR a 0 4
  · simp
  · rcases lev h2 with rfl | rfl | rfl | rfl | rfl <;> simp [qpe, sh0, sh1, sh2, sh3, sh4, p20, p21, p22, p23, p24] <;> decide
def qob (r l i : Int) : Int := if idOk r l i then r * 16 + i * qo6 l else -1
theorem qo8 (l : Int) : 0 ≤ qo6 l ∧ qo6 l ≤ 16 := by
  unfold qo6
  cases h : inR l 0 4
  · simp
  · rcases lev h with rfl | rfl | rfl | rfl | rfl <;> decide
theorem qhw {r l i : Int} (h : idOk r l i = true) : 0 ≤ r ∧ r ≤ 7 ∧ inR l 0 4 = true ∧ 0 ≤ i ∧ i < pow2 l := by
  simp only [idOk, Bool.and_eq_true, decide_eq_true_eq] at h
  obtain ⟨h1, h2, h3, h4⟩ := h
  simp only [inR, Bool.and_eq_true, decide_eq_true_eq] at h1
  exact ⟨h1.1, h1.2, h2, h3, h4⟩
theorem iw {r l i : Int} (h : idOk r l i = true) : 0 ≤ i * qo6 l ∧ i * qo6 l ≤ 256 := by
  obtain ⟨_, _, h2, h3, h4⟩ := qhw h
  have h5 := (qlv h2).2
  have h6 := qo8 l
  have h7 : i ≤ 16 := by omega
  refine ⟨Int.mul_nonneg h3 h6.1, ?_⟩
  calc i * qo6 l ≤ 16 * qo6 l := Int.mul_le_mul_of_nonneg_right h7 h6.1
    _ ≤ 16 * 16 := Int.mul_le_mul_of_nonneg_left h6.2 (by omega)
theorem qoc (r l i : Int) : -1 ≤ qob r l i ∧ qob r l i ≤ 1000 := by
  unfold qob
  cases h : idOk r l i
  · simp
  · have := iw h; have := qhw h
    simp; omega
theorem qoe {r l i : Int} (h : idOk r l i = true) : IntKind.wrap .i64 (IntKind.wrap .i64 (r * (16 : Int)) + IntKind.wrap .i64 (i * qo6 l)) = qob r l i := by
  have h1 := iw h; have h2 := qhw h
  rw [qpd (x := r * 16) (by omega) (by omega), qpd (x := i * qo6 l) (by omega) (by omega), qpd (by omega) (by omega)]
  simp [qob, h]
theorem qch (k : Nat) (hk : 2000000 ≤ k) (a0 : Int) (a1 : Int) (a2 : Int) : go (k + 3) spec_StartOf [(.agg [(.int .i64 (a0)), (.int .i64 (a1)), (.int .i64 (a2))])] = some [.int .i64 (qob a0 a1 a2)] := by
  rw [qf9]
  simp (disch := omega) only [qb9, bit, qck, qan, nth0, qos, qor]
  cases h : idOk a0 a1 a2
  · simp [qob, h]
  · rw [qoe h]; rfl
theorem qa3 (k : Nat) (hk : 2000000 ≤ k) (a0 : Int) (a1 : Int) (a2 : Int) : go (k + 4) impl_StartOf [(.agg [(.int .i64 (a0)), (.int .i64 (a1)), (.int .i64 (a2))])] = some [.int .i64 (qob a0 a1 a2)] := by
  rw [qew]
  simp (disch := omega) only [qaw, bit, qa6, qan, nth0, qos, qor]
  cases h : idOk a0 a1 a2
  · simp [qob, h]
  · rw [qoe h]; rfl
theorem qhc (r l i : Int) : IntKind.wrap .i64 (qob r l i + qo6 l) = qob r l i + qo6 l := by
  have h1 := qoc r l i; have h2 := qo8 l
  exact qpd (by omega) (by omega)
theorem qcr (k : Nat) (hk : 2000000 ≤ k) (a0 : Int) (a1 : Int) (a2 : Int) : go (k + 4) spec_l04End [(.agg [(.int .i64 (a0)), (.int .i64 (a1)), (.int .i64 (a2))])] = some [.int .i64 (qob a0 a1 a2 + qo6 a1)] := by
  rw [qgi]
  simp (disch := omega) only [qch, qck, qan, nth0, qos, qhc]
theorem qbf (k : Nat) (hk : 2000000 ≤ k) (a0 : Int) (a1 : Int) (a2 : Int) : go (k + 5) impl_endOf [(.agg [(.int .i64 (a0)), (.int .i64 (a1)), (.int .i64 (a2))])] = some [.int .i64 (qob a0 a1 a2 + qo6 a1)] := by
  rw [qfe]
  simp (disch := omega) only [qa3, qa6, qan, nth0, qos, qhc]
abbrev Cell := Int × Int × Int
def qla (roots : Int) : Int → List Cell → Bool
  | pos, [] => inR roots 1 8 && decide (pos = roots * 16)
  | pos, x :: rest => idOk x.1 x.2.1 x.2.2 && (decide (qob x.1 x.2.1 x.2.2 = pos) && qla roots (qob x.1 x.2.1 x.2.2 + qo6 x.2.1) rest)
theorem qld (roots pos : Int) : cond (inR roots 1 8) (some [D.bool (decide (pos = IntKind.wrap .i64 (roots * (16 : Int))))]) (some [D.bool false]) = some [D.bool (qla roots pos [])] := by
  unfold qla
  cases h : inR roots 1 8
  · rfl
  · simp only [inR, Bool.and_eq_true, decide_eq_true_eq] at h
    rw [qpd (by omega) (by omega)]; rfl
theorem qkh (k : Nat) (hk : 2000000 ≤ k) (fu : List (Nat × Nat)) (z : Bool) (l : List Cell) (roots : Int) (hl : (l.length : Int) ≤ 1048576) : ∀ (n i : Nat) (pos : Int), i ≤ l.length → l.length - i < n →
    lp (k + 4) spec_MeshOk [] fu 3 (n) (qm6 pos (i : Int) z l roots) = some [.bool (qla roots pos (l.drop i))]
  | 0, i, pos, hi, hn => by omega
  | n + 1, i, pos, hi, hn => by
    rw [qi0]
    by_cases h : i < l.length
    · rw [qeb h zz3]
      simp (disch := omega) only [nI, dT, Bool.and_true, Int.toNat_natCast, qb9, bit, qch, qcr, qdg, qpd, qan, nth0, qos, qdv, qor, qla]
      rw [qkh k hk fu z l roots hl n (i + 1) _ (by omega) (by omega)]
      simp only [qdw, qdx, Bool.and_assoc]
    · rw [List.drop_of_length_le (by omega)]
      simp (disch := omega) only [nI, dF, dT, Bool.and_false, Int.toNat_natCast, bit, qdg, qpd, qdt, qco, qan, nth0, qor]
      exact qld roots pos
theorem qcd (k : Nat) (hk : 2000000 ≤ k) (a0 : Int) (a1z : Bool) (a1 : List (Int × Int × Int)) (hl : (a1.length : Int) ≤ 1048576) : go (k + 5) spec_MeshOk [(.agg [(.int .i64 (a0)), (.arr false (a1z) (.r3 (a1)))])] = some [.bool (qla a0 0 a1)] := by
  rw [qf4]
  exact qkh k hk _ _ a1 a0 hl _ 0 0 (by omega) (by omega)
theorem qjx (k : Nat) (hk : 2000000 ≤ k) (fu : List (Nat × Nat)) (z : Bool) (l : List Cell) (roots : Int) (hl : (l.length : Int) ≤ 1048576) : ∀ (n i : Nat) (pos : Int), i ≤ l.length → l.length - i < n →
    lp (k + 5) impl_MeshOk [] fu 3 (n) (qmi pos (l.length : Int) (i : Int) z l roots) = some [.bool (qla roots pos (l.drop i))]
  | 0, i, pos, hi, hn => by omega
  | n + 1, i, pos, hi, hn => by
    rw [qic]
    by_cases h : i < l.length
    · rw [qeb h zz3]
      simp (disch := omega) only [dT, nI, Bool.and_true, Int.toNat_natCast, qaw, bit, qa3, qbf, qdg, qpd, qan, nth0, qos, qor, qdv, qla]
      rw [qjx k hk fu z l roots hl n (i + 1) _ (by omega) (by omega)]
      simp only [qdw, qdx, Bool.and_assoc]
    · rw [List.drop_of_length_le (by omega)]
      simp (disch := omega) only [dF, dT, nI, Bool.and_false, Int.toNat_natCast, bit, qdg, qpd, qdt, qbu, qan, nth0, qor]
      exact qld roots pos
theorem qay (k : Nat) (hk : 2000000 ≤ k) (a0 : Int) (a1z : Bool) (a1 : List (Int × Int × Int)) (hl : (a1.length : Int) ≤ 1048576) : go (k + 6) impl_MeshOk [(.agg [(.int .i64 (a0)), (.arr false (a1z) (.r3 (a1)))])] = some [.bool (qla a0 0 a1)] := by
  rw [qek]
  exact qjx k hk _ _ a1 a0 hl _ 0 0 (by omega) (by omega)
theorem qbh (k : Nat) (hk : 2000000 ≤ k) (a0 : Int) (a1z : Bool) (a1 : List (Int × Int × Int)) (b : Int) (hl : (a1.length : Int) ≤ 1048576) : go (k + 2) impl_Mesh_has [(.agg [(.int .i64 (a0)), (.arr false (a1z) (.r3 (a1)))]), (.int .i64 (b))] = some [.bool (inR b 0 ((a1.length : Int) - 1))] := by
  rw [qen]
  simp (disch := omega) only [nI, qpd, qbu, bit, qan, nth0, qor]
theorem qhk (r n : Nat) (fu : List (Nat × Nat)) : fuelOf ((r, n) :: fu) r = n := by simp [fuelOf, find]
end Go.Proofs.YtoldpdhhfmlckaaGreat
end
section
namespace Go.Proofs.YtoldpdhhfmlckaaGreat
open Go.Ev
def qm9 (x0 : Int) (z1 : Bool) (l2 : List (Int × Int × Int)) (z3 : Bool) (l4 : List Int) (z5 : Bool) (l6 : List Int) (z7 : Bool) (l8 : List Int) (x9 : Int) : St := ⟨fill 84 [(1, (.ptr 4 (0) (0))), (3, (.int .i64 (x0)))], [], [(.arr false (z1) (.r3 (l2))), (.arr false (z3) (.ints .i64 (l4))), (.arr false (z5) (.ints .i64 (l6))), (.arr false (z7) (.ints .i64 (l8))), (.box true [(.int .i64 (x9)), (.sl 0 none), (.sl 1 none), (.sl 2 none), (.sl 3 none)])]⟩
def qna (x0 : Int) (z1 : Bool) (l2 : List (Int × Int × Int)) (z3 : Bool) (l4 : List Int) (z5 : Bool) (l6 : List Int) (z7 : Bool) (l8 : List Int) (x9 : Int) : St := ⟨fill 84 [(1, (.ptr 4 (0) (0))), (4, (.int .i64 (x0)))], [], [(.arr false (z1) (.r3 (l2))), (.arr false (z3) (.ints .i64 (l4))), (.arr false (z5) (.ints .i64 (l6))), (.arr false (z7) (.ints .i64 (l8))), (.box true [(.int .i64 (x9)), (.sl 0 none), (.sl 1 none), (.sl 2 none), (.sl 3 none)])]⟩
theorem qga (k : Nat) (a0 : Int) (a1z : Bool) (a1 : List (Int × Int × Int)) (a2z : Bool) (a2 : List Int) (a3z : Bool) (a3 : List Int) (a4z : Bool) (a4 : List Int) : go (k + 1) spec_StateOk [(.agg [(.int .i64 (a0)), (.arr false (a1z) (.r3 (a1))), (.arr false (a2z) (.ints .i64 (a2))), (.arr false (a3z) (.ints .i64 (a3))), (.arr false (a4z) (.ints .i64 (a4)))])] =
 (go k spec_IsBalanced [(.agg [(.int .i64 (a0)), (.arr false (a1z) (.r3 (a1)))])]).bind fun r0 =>
 cond (!bit (nth r0 0))
 (some [(.bool (false))])
 (cond (!decide (nI (List.length a2) = nI (List.length a1)))
 (some [(.bool (false))])
 (cond (!decide (nI (List.length a3) = nI (List.length a2)))
 (some [(.bool (false))])
 (cond (!decide (nI (List.length a4) = a0))
 (some [(.bool (false))])
 (lp k spec_StateOk [] [] 4 k (qm9 (0 : Int) a1z a1 a2z a2 a3z a3 a4z a4 a0))))) := by kernel_rfl
theorem qi3 (k n : Nat) (fu : List (Nat × Nat)) (x0 : Int) (z1 : Bool) (l2 : List (Int × Int × Int)) (z3 : Bool) (l4 : List Int) (z5 : Bool) (l6 : List Int) (z7 : Bool) (l8 : List Int) (x9 : Int) : lp k spec_StateOk [] fu 4 (n + 1) (qm9 x0 z1 l2 z3 l4 z5 l6 z7 l8 x9) =
 cond (decide (x0 < nI (List.length l4)))
 (cond (decide ((0 : Int) ≤ x0) && decide (x0 < nI (List.length l4)))
 ((go k spec_l01In [(.int .i64 (List.getD l4 (Int.toNat x0) (0 : Int))), (.int .i64 (0 : Int)), (.int .i64 ((10000000 : Int)))]).bind fun r0 =>
 cond (!bit (nth r0 0))
 (some [(.bool (false))])
 (cond (decide ((0 : Int) ≤ x0) && decide (x0 < nI (List.length l6)))
 (cond (decide ((0 : Int) ≤ x0) && decide (x0 < nI (List.length l4)))
 ((go k spec_l01In [(.int .i64 (List.getD l6 (Int.toNat x0) (0 : Int))), (.int .i64 (0 : Int)), (.int .i64 (IntKind.wrap .i64 ((1000 : Int) * List.getD l4 (Int.toNat x0) (0 : Int))))]).bind fun r1 =>
 cond (!bit (nth r1 0))
 (some [(.bool (false))])
 (lp k spec_StateOk [] fu 4 n (qm9 (IntKind.wrap .i64 (x0 + (1 : Int))) z1 l2 z3 l4 z5 l6 z7 l8 x9)))
 (none))
 (none)))
 (none))
 (lp k spec_StateOk [] fu 9 k (qna (0 : Int) z1 l2 z3 l4 z5 l6 z7 l8 x9)) := by kernel_rfl
theorem qi4 (k n : Nat) (fu : List (Nat × Nat)) (x0 : Int) (z1 : Bool) (l2 : List (Int × Int × Int)) (z3 : Bool) (l4 : List Int) (z5 : Bool) (l6 : List Int) (z7 : Bool) (l8 : List Int) (x9 : Int) : lp k spec_StateOk [] fu 9 (n + 1) (qna x0 z1 l2 z3 l4 z5 l6 z7 l8 x9) =
 cond (decide (x0 < nI (List.length l8)))
 (cond (decide ((0 : Int) ≤ x0) && decide (x0 < nI (List.length l8)))
 ((go k spec_l01In [(.int .i64 (List.getD l8 (Int.toNat x0) (0 : Int))), (.int .i64 (0 : Int)), (.int .i64 ((1000000 : Int)))]).bind fun r0 =>
 cond (!bit (nth r0 0))
 (some [(.bool (false))])
 (lp k spec_StateOk [] fu 9 n (qna (IntKind.wrap .i64 (x0 + (1 : Int))) z1 l2 z3 l4 z5 l6 z7 l8 x9)))
 (none))
 ((go k spec_l07Sum [(.arr false (z3) (.ints .i64 (l4)))]).bind fun r1 =>
 some [(.bool (decide (D.toInt (nth r1 0) ≤ (10000000 : Int))))]) := by kernel_rfl
theorem qex (k : Nat) (a0 : Int) (a1z : Bool) (a1 : List (Int × Int × Int)) (a2z : Bool) (a2 : List Int) (a3z : Bool) (a3 : List Int) (a4z : Bool) (a4 : List Int) : go (k + 1) impl_StateOk [(.agg [(.int .i64 (a0)), (.arr false (a1z) (.r3 (a1))), (.arr false (a2z) (.ints .i64 (a2))), (.arr false (a3z) (.ints .i64 (a3))), (.arr false (a4z) (.ints .i64 (a4)))])] =
 (go k impl_IsBalanced [(.agg [(.int .i64 (a0)), (.arr false (a1z) (.r3 (a1)))])]).bind fun r0 =>
 cond (bit (nth r0 0))
 ((go k impl_State_hasCells [(.agg [(.int .i64 (a0)), (.arr false (a1z) (.r3 (a1))), (.arr false (a2z) (.ints .i64 (a2))), (.arr false (a3z) (.ints .i64 (a3))), (.arr false (a4z) (.ints .i64 (a4)))])]).bind fun r1 =>
 some [(.bool (bit (nth r1 0)))])
 (some [(.bool (false))]) := by kernel_rfl
def qmo (x0 x1 : Int) (z2 : Bool) (l3 : List (Int × Int × Int)) (z4 : Bool) (l5 : List Int) (z6 : Bool) (l7 : List Int) (z8 : Bool) (l9 : List Int) (x10 : Int) : St := ⟨fill 63 [(1, (.ptr 4 (0) (0))), (37, (.sl 1 none)), (38, (.int .i64 (x0))), (39, (.int .i64 (x1)))], [], [(.arr false (z2) (.r3 (l3))), (.arr false (z4) (.ints .i64 (l5))), (.arr false (z6) (.ints .i64 (l7))), (.arr false (z8) (.ints .i64 (l9))), (.box true [(.int .i64 (x10)), (.sl 0 none), (.sl 1 none), (.sl 2 none), (.sl 3 none)])]⟩
theorem qe1 (k : Nat) (a0 : Int) (a1z : Bool) (a1 : List (Int × Int × Int)) (a2z : Bool) (a2 : List Int) (a3z : Bool) (a3 : List Int) (a4z : Bool) (a4 : List Int) : go (k + 1) impl_State_hasCells [(.agg [(.int .i64 (a0)), (.arr false (a1z) (.r3 (a1))), (.arr false (a2z) (.ints .i64 (a2))), (.arr false (a3z) (.ints .i64 (a3))), (.arr false (a4z) (.ints .i64 (a4)))])] =
 cond (!decide (nI (List.length a2) = nI (List.length a1)))
 (some [(.bool (false))])
 (cond (!decide (nI (List.length a3) = nI (List.length a1)))
 (some [(.bool (false))])
 (cond (!decide (nI (List.length a4) = a0))
 (some [(.bool (false))])
 ((go k slices_ContainsFunc_int_int [(.arr false (a4z) (.ints .i64 (a4))), (.fn impl_State_hasCells_1 [])]).bind fun r0 =>
 cond (bit (nth r0 0))
 (some [(.bool (false))])
 (lp k impl_State_hasCells [] [] 5 k (qmo (nI (List.length a2)) (0 : Int) a1z a1 a2z a2 a3z a3 a4z a4 a0))))) := by kernel_rfl
theorem qii (k n : Nat) (fu : List (Nat × Nat)) (x0 x1 : Int) (z2 : Bool) (l3 : List (Int × Int × Int)) (z4 : Bool) (l5 : List Int) (z6 : Bool) (l7 : List Int) (z8 : Bool) (l9 : List Int) (x10 : Int) : lp k impl_State_hasCells [] fu 5 (n + 1) (qmo x0 x1 z2 l3 z4 l5 z6 l7 z8 l9 x10) =
 cond (decide (x1 < x0))
 (cond (decide ((0 : Int) ≤ x1) && decide (x1 < nI (List.length l5)))
 ((go k impl_within [(.int .i64 (List.getD l5 (Int.toNat x1) (0 : Int))), (.int .i64 (0 : Int)), (.int .i64 ((10000000 : Int)))]).bind fun r0 =>
 cond (!bit (nth r0 0))
 (some [(.bool (false))])
 (cond (decide ((0 : Int) ≤ x1) && decide (x1 < nI (List.length l7)))
 ((go k impl_within [(.int .i64 (List.getD l7 (Int.toNat x1) (0 : Int))), (.int .i64 (0 : Int)), (.int .i64 (IntKind.wrap .i64 ((1000 : Int) * List.getD l5 (Int.toNat x1) (0 : Int))))]).bind fun r1 =>
 cond (!bit (nth r1 0))
 (some [(.bool (false))])
 (lp k impl_State_hasCells [] fu 5 n (qmo x0 (IntKind.wrap .i64 (x1 + (1 : Int))) z2 l3 z4 l5 z6 l7 z8 l9 x10)))
 (none)))
 (none))
 ((go k impl_sum [(.arr false (z4) (.ints .i64 (l5)))]).bind fun r2 =>
 some [(.bool (decide (D.toInt (nth r2 0) ≤ (10000000 : Int))))]) := by kernel_rfl
theorem qe2 (k : Nat) (a : Int) : go (k + 1) impl_State_hasCells_1 [(.int .i64 (a))] =
 (go k impl_isBed [(.int .i64 (a))]).bind fun r0 =>
 some [(.bool (!bit (nth r0 0)))] := by kernel_rfl
theorem qff (k : Nat) (a : Int) : go (k + 1) impl_isBed [(.int .i64 (a))] =
 (go k impl_within [(.int .i64 (a)), (.int .i64 (0 : Int)), (.int .i64 ((1000000 : Int)))]).bind fun r0 =>
 some [(.bool (bit (nth r0 0)))] := by kernel_rfl
def qnh (x0 x1 : Int) (z2 : Bool) (l3 : List Int) : St := ⟨fill 18 [(0, (.sl 0 none)), (3, (.int .i64 (x0))), (4, (.int .i64 (x1)))], [], [(.arr false (z2) (.ints .i64 (l3)))]⟩
theorem qgu (k : Nat) (az : Bool) (a : List Int) : go (k + 1) spec_l07Sum [(.arr false (az) (.ints .i64 (a)))] =
 lp k spec_l07Sum [] [] 3 k (qnh (0 : Int) (0 : Int) az a) := by kernel_rfl
theorem qjb (k n : Nat) (fu : List (Nat × Nat)) (x0 x1 : Int) (z2 : Bool) (l3 : List Int) : lp k spec_l07Sum [] fu 3 (n + 1) (qnh x0 x1 z2 l3) =
 cond (decide (x1 < nI (List.length l3)))
 (cond (decide ((0 : Int) ≤ x1) && decide (x1 < nI (List.length l3)))
 (lp k spec_l07Sum [] fu 3 n (qnh (IntKind.wrap .i64 (x0 + List.getD l3 (Int.toNat x1) (0 : Int))) (IntKind.wrap .i64 (x1 + (1 : Int))) z2 l3))
 (none))
 (some [(.int .i64 (x0))]) := by kernel_rfl
def qmu (x0 x1 x2 : Int) (z3 : Bool) (l4 : List Int) : St := ⟨fill 17 [(3, (.int .i64 (x0))), (6, (.sl 0 none)), (7, (.int .i64 (x1))), (8, (.int .i64 (x2)))], [], [(.arr false (z3) (.ints .i64 (l4)))]⟩
theorem qfh (k : Nat) (az : Bool) (a : List Int) : go (k + 1) impl_sum [(.arr false (az) (.ints .i64 (a)))] =
 lp k impl_sum [] [] 3 k (qmu (0 : Int) (nI (List.length a)) (0 : Int) az a) := by kernel_rfl
theorem qio (k n : Nat) (fu : List (Nat × Nat)) (x0 x1 x2 : Int) (z3 : Bool) (l4 : List Int) : lp k impl_sum [] fu 3 (n + 1) (qmu x0 x1 x2 z3 l4) =
 cond (decide (x2 < x1))
 (cond (decide ((0 : Int) ≤ x2) && decide (x2 < nI (List.length l4)))
 (lp k impl_sum [] fu 3 n (qmu (IntKind.wrap .i64 (x0 + List.getD l4 (Int.toNat x2) (0 : Int))) x1 (IntKind.wrap .i64 (x2 + (1 : Int))) z3 l4))
 (none))
 (some [(.int .i64 (x0))]) := by kernel_rfl
def qmw (x0 x1 : Int) (z2 : Bool) (l3 : List Int) : St := ⟨fill 19 [(0, (.sl 0 none)), (1, (.fn impl_State_hasCells_1 [])), (7, (.int .i64 (x0))), (8, (.int .i64 (x1)))], [], [(.arr false (z2) (.ints .i64 (l3)))]⟩
theorem qfo (k : Nat) (v0 : Bool) (v1 : List Int) : go (k + 1) slices_IndexFunc_int_int [(.arr false (v0) (.ints .i64 (v1))), (.fn impl_State_hasCells_1 [])] =
 lp k slices_IndexFunc_int_int [] [] 2 k (qmw (nI (List.length v1)) (0 : Int) v0 v1) := by kernel_rfl
theorem qiq (k n : Nat) (fu : List (Nat × Nat)) (x0 x1 : Int) (z2 : Bool) (l3 : List Int) : lp k slices_IndexFunc_int_int [] fu 2 (n + 1) (qmw x0 x1 z2 l3) =
 cond (decide (x1 < x0))
 (cond (decide ((0 : Int) ≤ x1) && decide (x1 < nI (List.length l3)))
 ((go k impl_State_hasCells_1 [(.int .i64 (List.getD l3 (Int.toNat x1) (0 : Int)))]).bind fun r0 =>
 cond (bit (nth r0 0))
 (some [(.int .i64 (x1))])
 (lp k slices_IndexFunc_int_int [] fu 2 n (qmw x0 (IntKind.wrap .i64 (x1 + (1 : Int))) z2 l3)))
 (none))
 (some [(.int .i64 ((-1 : Int)))]) := by kernel_rfl
theorem qfn (k : Nat) (v0 : Bool) (v1 : List Int) : go (k + 1) slices_ContainsFunc_int_int [(.arr false (v0) (.ints .i64 (v1))), (.fn impl_State_hasCells_1 [])] =
 (go k slices_IndexFunc_int_int [(.arr false (v0) (.ints .i64 (v1))), (.fn impl_State_hasCells_1 [])]).bind fun r0 =>
 some [(.bool (decide ((0 : Int) ≤ D.toInt (nth r0 0))))] := by kernel_rfl
theorem qgh (k : Nat) (a0 : Int) (a1z : Bool) (a1 : List (Int × Int × Int)) : go (k + 1) spec_l04Copy [(.agg [(.int .i64 (a0)), (.arr false (a1z) (.r3 (a1)))])] =
 cond (decide (List.length ([] ++ a1) ≤ bigLen))
 (some [(.agg [(.int .i64 (a0)), (.arr true (false && decide (List.length ([] ++ a1) = 0)) (.r3 ([] ++ a1)))])])
 (none) := by kernel_rfl
theorem qgs (k : Nat) (a0 : Int) (a1z : Bool) (a1 : List (Int × Int × Int)) (a2z : Bool) (a2 : List Int) (a3z : Bool) (a3 : List Int) (a4z : Bool) (a4 : List Int) : go (k + 1) spec_l07Copy [(.agg [(.int .i64 (a0)), (.arr false (a1z) (.r3 (a1))), (.arr false (a2z) (.ints .i64 (a2))), (.arr false (a3z) (.ints .i64 (a3))), (.arr false (a4z) (.ints .i64 (a4)))])] =
 (go k spec_l04Copy [(.agg [(.int .i64 (a0)), (.arr false (a1z) (.r3 (a1)))])]).bind fun r0 =>
 cond (decide (List.length ([] ++ a2) ≤ bigLen))
 (cond (decide (List.length ([] ++ a3) ≤ bigLen))
 (cond (decide (List.length ([] ++ a4) ≤ bigLen))
 (some [(.agg [(.int .i64 (D.toInt (D.cell 0 (nth r0 0)))), (.arr true (D.nil (D.cell 1 (nth r0 0))) (.r3 (D.r3 (D.cell 1 (nth r0 0))))), (.arr true (false && decide (List.length ([] ++ a2) = 0)) (.ints .i64 ([] ++ a2))), (.arr true (false && decide (List.length ([] ++ a3) = 0)) (.ints .i64 ([] ++ a3))), (.arr true (false && decide (List.length ([] ++ a4) = 0)) (.ints .i64 ([] ++ a4)))])])
 (none))
 (none))
 (none) := by kernel_rfl
theorem qfc (k : Nat) (a0 : Int) (a1z : Bool) (a1 : List (Int × Int × Int)) : go (k + 1) impl_copyMesh [(.agg [(.int .i64 (a0)), (.arr false (a1z) (.r3 (a1)))])] =
 (go k slices_Clone_impl_Id_impl_Id [(.arr false (a1z) (.r3 (a1)))]).bind fun r0 =>
 some [(.agg [(.int .i64 (a0)), (.arr true (D.nil (nth r0 0)) (.r3 (D.r3 (nth r0 0))))])] := by kernel_rfl
theorem qfd (k : Nat) (a0 : Int) (a1z : Bool) (a1 : List (Int × Int × Int)) (a2z : Bool) (a2 : List Int) (a3z : Bool) (a3 : List Int) (a4z : Bool) (a4 : List Int) : go (k + 1) impl_copyState [(.agg [(.int .i64 (a0)), (.arr false (a1z) (.r3 (a1))), (.arr false (a2z) (.ints .i64 (a2))), (.arr false (a3z) (.ints .i64 (a3))), (.arr false (a4z) (.ints .i64 (a4)))])] =
 (go k impl_copyMesh [(.agg [(.int .i64 (a0)), (.arr false (a1z) (.r3 (a1)))])]).bind fun r0 =>
 (go k slices_Clone_int_int [(.arr false (a2z) (.ints .i64 (a2)))]).bind fun r1 =>
 (go k slices_Clone_int_int [(.arr false (a3z) (.ints .i64 (a3)))]).bind fun r2 =>
 (go k slices_Clone_int_int [(.arr false (a4z) (.ints .i64 (a4)))]).bind fun r3 =>
 some [(.agg [(.int .i64 (D.toInt (D.cell 0 (nth r0 0)))), (.arr true (D.nil (D.cell 1 (nth r0 0))) (.r3 (D.r3 (D.cell 1 (nth r0 0))))), (.arr true (D.nil (nth r1 0)) (.ints .i64 (D.ints (nth r1 0)))), (.arr true (D.nil (nth r2 0)) (.ints .i64 (D.ints (nth r2 0)))), (.arr true (D.nil (nth r3 0)) (.ints .i64 (D.ints (nth r3 0))))])] := by kernel_rfl
theorem qfm (k : Nat) (az : Bool) (a : List Int) : go (k + 1) slices_Clone_int_int [(.arr false (az) (.ints .i64 (a)))] =
 cond (az)
 (some [(.arr true (true) (.ints .i64 ([])))])
 (cond (decide (List.length ([] ++ a) ≤ bigLen))
 (some [(.arr true (false && decide (List.length ([] ++ a) = 0)) (.ints .i64 ([] ++ a)))])
 (none)) := by kernel_rfl
theorem qfl (k : Nat) (az : Bool) (a : List (Int × Int × Int)) : go (k + 1) slices_Clone_impl_Id_impl_Id [(.arr false (az) (.r3 (a)))] =
 cond (az)
 (some [(.arr true (true) (.r3 ([])))])
 (cond (decide (List.length ([] ++ a) ≤ bigLen))
 (some [(.arr true (false && decide (List.length ([] ++ a) = 0)) (.r3 ([] ++ a)))])
 (none)) := by kernel_rfl
end Go.Proofs.YtoldpdhhfmlckaaGreat
end
section
namespace Go.Proofs.YtoldpdhhfmlckaaGreat
open Go.Ev
theorem qdu {α : Type} (a : Bool) (x y : α) : cond (!a) x y = cond a y x := by cases a <;> rfl
theorem qds {α : Type} (a b : Bool) (x y : α) : cond a (cond b x y) y = cond (a && b) x y := by cases a <;> rfl
abbrev qjk (l : List Cell) (i : Nat) : Int := (l.getD i zz3).2.1
def qaa (l : List Cell) : Prop := ∀ i, 0 ≤ qjk l i ∧ qjk l i ≤ 4
theorem qlg : ∀ (l : List Cell) (r p : Int), qla r p l = true → ∀ i, 0 ≤ qjk l i ∧ qjk l i ≤ 4
  | [], r, p, h, i => by simp [qjk]
  | x :: l, r, p, h, i => by
    simp only [qla, Bool.and_eq_true] at h
    cases i with
    | zero => have := lev0 (qhw h.1).2.2.1; simpa [qjk] using this
    | succ i => have := qlg l r _ h.2.2 i; simpa [qjk] using this
def qo1 (l : List Cell) : Nat → Nat → Int
  | 0, _ => -1
  | n + 1, i => if 1 < qjk l i - qjk l (i + 1) ∨ qjk l i - qjk l (i + 1) < -1 then (i : Int) else qo1 l n (i + 1)
def unb (l : List Cell) : Int := qo1 l (l.length - 1) 0
theorem qa9 (k : Nat) (hk : 2000000 ≤ k) (a : Int) (h : -9223372036854775807 ≤ a) (h' : a ≤ 9223372036854775807) : go (k + 1) impl_absolute [(.int .i64 (a))] = some [.int .i64 (max (0 - a) a)] := by
  rw [qfa]; simp (disch := omega) only [qpd, imax]
theorem qkp (k : Nat) (hk : 2000000 ≤ k) (fu : List (Nat × Nat)) (z : Bool) (l : List Cell) (r : Int) (hl : (l.length : Int) ≤ 1048576) (hv : qaa l) : ∀ (n i : Nat), i ≤ l.length → l.length - 1 - i < n →
    lp k spec_l05First [] fu 2 (n) (qne (i : Int) z l r) = some [.int .i64 (qo1 l (l.length - 1 - i) i)]
  | 0, i, hi, hn => by omega
  | n + 1, i, hi, hn => by
    rw [qi8]
    by_cases h : i + 1 < l.length
    · have e := qkp k hk fu z l r hl hv n (i + 1) (by omega) (by omega)
      have h1 := hv i; have h2 := hv (i + 1)
      simp only [qjk] at h1 h2
      simp (disch := omega) only [qdg, qpd, nI, dT, Bool.and_true, Int.toNat_natCast, e, qdv]
      rw [show l.length - 1 - i = (l.length - 1 - (i + 1)) + 1 by omega, qo1]
      simp only [qjk]
      by_cases g : 1 < (l.getD i zz3).2.1 - (l.getD (i + 1) zz3).2.1
      · simp (disch := omega) only [dT, dF, qdt, qdv]; rw [if_pos (Or.inl g)]
      · by_cases g2 : (l.getD i zz3).2.1 - (l.getD (i + 1) zz3).2.1 < -1
        · simp (disch := omega) only [dF, dT, qdv, qdt]; rw [if_pos (Or.inr g2)]
        · simp (disch := omega) only [dF, qdt]; rw [if_neg (not_or.2 ⟨g, g2⟩)]
    · simp (disch := omega) only [qdg, qpd, nI, dF, dT, Bool.true_and, Bool.and_false, Int.toNat_natCast, qdt]
      rw [show l.length - 1 - i = 0 by omega]; rfl
theorem qcw (k : Nat) (hk : 2000000 ≤ k) (a0 : Int) (a1z : Bool) (a1 : List (Int × Int × Int)) (hl : (a1.length : Int) ≤ 1048576) (hv : qaa a1) : go (k + 1) spec_l05First [(.agg [(.int .i64 (a0)), (.arr false (a1z) (.r3 (a1)))])] = some [.int .i64 (unb a1)] := by
  rw [qgn]
  exact qkp k hk [] a1z a1 a0 hl hv _ 0 (by omega) (by omega)
theorem qj6 (k : Nat) (hk : 2000000 ≤ k) (fu : List (Nat × Nat)) (z : Bool) (l : List Cell) (r : Int) (hl : (l.length : Int) ≤ 1048576) (hv : qaa l) : ∀ (n i : Nat), i ≤ l.length → l.length - 1 - i < n →
    lp (k + 1) impl_Mesh_unbalanced [] fu 2 (n) (qmk ((l.length : Int) - 1) (i : Int) z l r) = some [.int .i64 (qo1 l (l.length - 1 - i) i)]
  | 0, i, hi, hn => by omega
  | n + 1, i, hi, hn => by
    rw [qie]
    by_cases h : i + 1 < l.length
    · have e := qj6 k hk fu z l r hl hv n (i + 1) (by omega) (by omega)
      have h1 := hv i; have h2 := hv (i + 1)
      simp only [qjk] at h1 h2
      simp (disch := omega) only [dT, nI, Bool.and_true, qdg, qpd, Int.toNat_natCast, qa9, e, qan, nth0, qos, qdv]
      rw [show l.length - 1 - i = (l.length - 1 - (i + 1)) + 1 by omega, qo1]
      simp only [qjk]
      by_cases g : 1 < (l.getD i zz3).2.1 - (l.getD (i + 1) zz3).2.1
      · simp (disch := omega) only [dT, qdv]; rw [if_pos (Or.inl g)]
      · by_cases g2 : (l.getD i zz3).2.1 - (l.getD (i + 1) zz3).2.1 < -1
        · simp (disch := omega) only [dT, qdv]; rw [if_pos (Or.inr g2)]
        · simp (disch := omega) only [dF, qdt]; rw [if_neg (not_or.2 ⟨g, g2⟩)]
    · simp (disch := omega) only [dF, dT, nI, Bool.true_and, qdg, qpd, Bool.and_false, Int.toNat_natCast, qdt]
      rw [show l.length - 1 - i = 0 by omega]; rfl
theorem qbt (k : Nat) (hk : 2000000 ≤ k) (a0 : Int) (a1z : Bool) (a1 : List (Int × Int × Int)) (hl : (a1.length : Int) ≤ 1048576) (hv : qaa a1) : go (k + 2) impl_Mesh_unbalanced [(.agg [(.int .i64 (a0)), (.arr false (a1z) (.r3 (a1)))])] = some [.int .i64 (unb a1)] := by
  rw [qes]
  simp (disch := omega) only [nI, qpd]
  exact qj6 k hk [] a1z a1 a0 hl hv _ 0 (by omega) (by omega)
def qai (r : Int) (l : List Cell) : Bool := qla r 0 l && decide (unb l < 0)
theorem qca (k : Nat) (hk : 2000000 ≤ k) (a0 : Int) (a1z : Bool) (a1 : List (Int × Int × Int)) (hl : (a1.length : Int) ≤ 1048576) : go (k + 6) spec_IsBalanced [(.agg [(.int .i64 (a0)), (.arr false (a1z) (.r3 (a1)))])] = some [.bool (qai a0 a1)] := by
  rw [qf0]
  simp (disch := omega) only [qcd, bit, qan, nth0, qor]
  unfold qai
  cases h : qla a0 0 a1
  · rfl
  · have hv : qaa a1 := qlg _ _ _ h
    simp (disch := omega) only [qdv, Bool.true_and]
    rw [qcw _ (by omega) _ _ _ hl hv]; simp (disch := omega) only [qan, nth0, qos]
theorem qax (k : Nat) (hk : 2000000 ≤ k) (a0 : Int) (a1z : Bool) (a1 : List (Int × Int × Int)) (hl : (a1.length : Int) ≤ 1048576) : go (k + 7) impl_IsBalanced [(.agg [(.int .i64 (a0)), (.arr false (a1z) (.r3 (a1)))])] = some [.bool (qai a0 a1)] := by
  rw [qei]
  simp (disch := omega) only [qay, bit, qan, nth0, qor]
  unfold qai
  cases h : qla a0 0 a1
  · rfl
  · have hv : qaa a1 := qlg _ _ _ h
    rw [qdv, qbt _ (by omega) _ _ _ hl hv]; simp (disch := omega) only [qan, nth0, qos, Bool.true_and]
def isum : List Int → Int
  | [] => 0
  | x :: l => x + isum l
theorem qh3 {B : Int} : ∀ (l : List Int), (∀ x ∈ l, 0 ≤ x ∧ x ≤ B) → 0 ≤ isum l ∧ isum l ≤ B * l.length
  | [], h => by simp [isum]
  | x :: l, h => by
    have := qh3 l fun y hy => h y (by simp [hy])
    have h2 := h x (by simp)
    simp only [isum, List.length_cons, Int.natCast_add, Int.natCast_one, Int.mul_add, Int.mul_one]; omega
theorem qh2 {B : Int} (hB : 0 ≤ B) : ∀ (l : List Int) (i : Nat), (∀ x ∈ l, 0 ≤ x ∧ x ≤ B) → 0 ≤ isum (l.drop i) ∧ isum (l.drop i) ≤ isum l
  | [], i, h => by simp [isum]
  | x :: l, 0, h => by have := qh3 (x :: l) h; simp only [List.drop_zero]; omega
  | x :: l, i + 1, h => by
    have := qh2 hB l i fun y hy => h y (by simp [hy])
    have h2 := h x (by simp)
    simp only [isum, List.drop_succ_cons]; omega
theorem qks (k : Nat) (hk : 2000000 ≤ k) (fu : List (Nat × Nat)) (z : Bool) (l : List Int) (hl : (l.length : Int) ≤ 1048576) (hb : ∀ x ∈ l, 0 ≤ x ∧ x ≤ 1000000000000) : ∀ (n i : Nat) (s : Int), i ≤ l.length → l.length - i < n → s + isum (l.drop i) = isum l → 0 ≤ s →
    lp k spec_l07Sum [] fu 3 (n) (qnh s (i : Int) z l) = some [.int .i64 (isum l)]
  | 0, i, s, hi, hn, hs, h0 => by omega
  | n + 1, i, s, hi, hn, hs, h0 => by
    rw [qjb]
    by_cases h : i < l.length
    · rw [qeb h 0] at hs
      simp only [isum] at hs
      have h1 := qh3 l hb
      have h2 := qh2 (by omega) l (i + 1) hb
      have h3 := hb _ (qho h 0)
      simp (disch := omega) only [nI, dT, Bool.and_true, Int.toNat_natCast, qpd, qdg, qdv]
      exact qks k hk fu z l hl hb n (i + 1) _ (by omega) (by omega) (by omega) (by omega)
    · rw [List.drop_of_length_le (by omega)] at hs
      simp only [isum] at hs
      simp (disch := omega) only [nI, dF, dT, Bool.and_false, Int.toNat_natCast, qdg, qpd, qdt]
      rw [show s = isum l by omega]
theorem qc3 (k : Nat) (hk : 2000000 ≤ k) (az : Bool) (a : List Int) (hl : (a.length : Int) ≤ 1048576) (hb : ∀ x ∈ a, 0 ≤ x ∧ x ≤ 1000000000000) : go (k + 1) spec_l07Sum [(.arr false (az) (.ints .i64 (a)))] = some [.int .i64 (isum a)] := by
  rw [qgu]
  exact qks k hk [] az a hl hb _ 0 0 (by omega) (by omega) (by simp) (by omega)
theorem qj5 (k : Nat) (hk : 2000000 ≤ k) (fu : List (Nat × Nat)) (z : Bool) (l : List Int) (hl : (l.length : Int) ≤ 1048576) (hb : ∀ x ∈ l, 0 ≤ x ∧ x ≤ 1000000000000) : ∀ (n i : Nat) (s : Int), i ≤ l.length → l.length - i < n → s + isum (l.drop i) = isum l → 0 ≤ s →
    lp k impl_sum [] fu 3 (n) (qmu s (l.length : Int) (i : Int) z l) = some [.int .i64 (isum l)]
  | 0, i, s, hi, hn, hs, h0 => by omega
  | n + 1, i, s, hi, hn, hs, h0 => by
    rw [qio]
    by_cases h : i < l.length
    · rw [qeb h 0] at hs
      simp only [isum] at hs
      have h1 := qh3 l hb
      have h2 := qh2 (by omega) l (i + 1) hb
      have h3 := hb _ (qho h 0)
      simp (disch := omega) only [dT, nI, Bool.and_true, Int.toNat_natCast, qpd, qdg, qdv]
      exact qj5 k hk fu z l hl hb n (i + 1) _ (by omega) (by omega) (by omega) (by omega)
    · rw [List.drop_of_length_le (by omega)] at hs
      simp only [isum] at hs
      simp (disch := omega) only [dF, dT, nI, Bool.and_false, Int.toNat_natCast, qdg, qpd, qdt]
      rw [show s = isum l by omega]
theorem qbq (k : Nat) (hk : 2000000 ≤ k) (az : Bool) (a : List Int) (hl : (a.length : Int) ≤ 1048576) (hb : ∀ x ∈ a, 0 ≤ x ∧ x ≤ 1000000000000) : go (k + 1) impl_sum [(.arr false (az) (.ints .i64 (a)))] = some [.int .i64 (isum a)] := by
  rw [qfh]
  exact qj5 k hk [] az a hl hb _ 0 0 (by omega) (by omega) (by simp) (by omega)
def qkz : List Int → List Int → Bool
  | m :: ms, t :: ts => inR m 0 10000000 && (inR t 0 (1000 * m) && qkz ms ts)
  | _, _ => true
theorem qk1 : ∀ (ms ts : List Int), ms.length = ts.length → qkz ms ts = true → (∀ x ∈ ms, 0 ≤ x ∧ x ≤ 10000000) ∧ (∀ x ∈ ts, 0 ≤ x ∧ x ≤ 10000000000)
  | [], ts, hl, h => by cases ts <;> simp_all
  | m :: ms, [], hl, h => by simp at hl
  | m :: ms, t :: ts, hl, h => by
    simp only [qkz, Bool.and_eq_true, qhx] at h
    have := qk1 ms ts (by simpa using hl) h.2.2
    refine ⟨fun x hx => ?_, fun x hx => ?_⟩
    · rcases List.mem_cons.1 hx with rfl | hx
      · exact h.1
      · exact this.1 x hx
    · rcases List.mem_cons.1 hx with rfl | hx
      · omega
      · exact this.2 x hx
theorem qk0 : ∀ (ms ts : List Int), ms.length = ts.length → qkz ms ts = true → ∀ i, 0 ≤ ms.getD i 0 ∧ ms.getD i 0 ≤ 10000000 ∧ 0 ≤ ts.getD i 0 ∧ ts.getD i 0 ≤ 1000 * ms.getD i 0
  | [], ts, hl, h, i => by cases ts <;> simp_all
  | m :: ms, [], hl, h, i => by simp at hl
  | m :: ms, t :: ts, hl, h, i => by
    simp only [qkz, Bool.and_eq_true, qhx] at h
    cases i with
    | zero => simp; omega
    | succ i => have := qk0 ms ts (by simpa using hl) h.2.2 i; simpa using this
def qak : List Int → Bool
  | [] => true
  | b :: l => inR b 0 1000000 && qak l
theorem qal : ∀ (l : List Int), qak l = true → ∀ x ∈ l, 0 ≤ x ∧ x ≤ 1000000
  | [], h, x, hx => by cases hx
  | b :: l, h, x, hx => by
    simp only [qak, Bool.and_eq_true, qhx] at h
    rcases List.mem_cons.1 hx with rfl | hx
    · exact h.1
    · exact qal l h.2 x hx
def stOk (r : Int) (l : List Cell) (m t b : List Int) : Bool :=
  qai r l && (decide (m.length = l.length) && (decide (t.length = l.length) && (decide ((b.length : Int) = r) && (qkz m t && (qak b && decide (isum m ≤ 10000000))))))
theorem qkl (k : Nat) (hk : 2000000 ≤ k) (fu : List (Nat × Nat)) (r : Int) (z1 z2 z3 z4 : Bool) (l : List Cell) (m t b : List Int) (hm : (m.length : Int) ≤ 1048576) (hb : (b.length : Int) ≤ 1048576) (hx : ∀ x ∈ m, 0 ≤ x ∧ x ≤ 10000000) : ∀ (n i : Nat), i ≤ b.length → b.length - i < n →
    lp (k + 6) spec_StateOk [] fu 9 (n) (qna (i : Int) z1 l z2 m z3 t z4 b r) = some [.bool (qak (b.drop i) && decide (isum m ≤ 10000000))]
  | 0, i, hi, hn => by omega
  | n + 1, i, hi, hn => by
    rw [qi4]
    by_cases h : i < b.length
    · rw [qeb h 0]
      have e := qkl k hk fu r z1 z2 z3 z4 l m t b hm hb hx n (i + 1) (by omega) (by omega)
      simp (disch := omega) only [nI, dT, Bool.and_true, Int.toNat_natCast, qco, bit, qdg, qpd, e, qdw, qan, nth0, qor, qdv, qak, Bool.and_assoc]
    · rw [List.drop_of_length_le (by omega)]
      have hx' : ∀ x ∈ m, 0 ≤ x ∧ x ≤ 1000000000000 := fun x hh => by have := hx x hh; omega
      rw [show decide ((i : Int) < nI b.length) = false by apply dF; simp only [nI]; omega, qdt, qc3 _ (by omega) _ _ hm hx']
      simp (disch := omega) only [qan, nth0, qos, qak, Bool.true_and]
theorem qkk (k : Nat) (hk : 2000000 ≤ k) (fu : List (Nat × Nat)) (r : Int) (z1 z2 z3 z4 : Bool) (l : List Cell) (m t b : List Int) (hm : (m.length : Int) ≤ 1048576) (ht : t.length = m.length) : ∀ (n i : Nat), i ≤ m.length → m.length - i < n →
    lp (k + 6) spec_StateOk [] fu 4 (n) (qm9 (i : Int) z1 l z2 m z3 t z4 b r) = cond (qkz (m.drop i) (t.drop i)) (lp (k + 6) spec_StateOk [] fu 9 (k + 6) (qna 0 z1 l z2 m z3 t z4 b r)) (some [.bool false])
  | 0, i, hi, hn => by omega
  | n + 1, i, hi, hn => by
    rw [qi3]
    by_cases h : i < m.length
    · rw [qeb h 0, qeb (l := t) (by omega : i < t.length) 0]
      have e := qkk k hk fu r z1 z2 z3 z4 l m t b hm ht n (i + 1) (by omega) (by omega)
      by_cases h1 : inR (m.getD i 0) 0 10000000 = true
      · have h2 := qhx.1 h1
        simp (disch := omega) only [nI, dT, Bool.and_true, Int.toNat_natCast, qco, h1, bit, qpd, qdg, e, qdu, qds, qan, nth0, qor, qdv, Bool.true_and, qkz]
      · have h1 : inR (m.getD i 0) 0 10000000 = false := by simpa using h1
        simp (disch := omega) only [nI, dT, Bool.and_true, Int.toNat_natCast, qco, h1, bit, qdg, qpd, qan, nth0, qor, qdv, Bool.not_false, qkz, Bool.false_and, qdt]
    · rw [List.drop_of_length_le (by omega), List.drop_of_length_le (by omega)]
      simp (disch := omega) only [nI, dF, dT, Bool.and_false, Int.toNat_natCast, bit, qdg, qpd, qdt, qkz, qdv]
theorem qci (k : Nat) (hk : 2000000 ≤ k) (a0 : Int) (a1z : Bool) (a1 : List (Int × Int × Int)) (a2z : Bool) (a2 : List Int) (a3z : Bool) (a3 : List Int) (a4z : Bool) (a4 : List Int) (hl : (a1.length : Int) ≤ 1048576) (hb : (a4.length : Int) ≤ 1048576) : go (k + 7) spec_StateOk [(.agg [(.int .i64 (a0)), (.arr false (a1z) (.r3 (a1))), (.arr false (a2z) (.ints .i64 (a2))), (.arr false (a3z) (.ints .i64 (a3))), (.arr false (a4z) (.ints .i64 (a4)))])] = some [.bool (stOk a0 a1 a2 a3 a4)] := by
  rw [qga]
  simp (disch := omega) only [qca, bit, nI, qan, nth0, qor]
  unfold stOk
  cases qai a0 a1
  · rfl
  by_cases h1 : a2.length = a1.length
  case neg => simp (disch := omega) only [Bool.not_true, dF, Bool.not_false, qdv, qdt, Bool.false_and, Bool.and_false]
  by_cases h2 : a3.length = a1.length
  case neg => simp (disch := omega) only [Bool.not_true, dT, dF, Bool.not_false, qdv, qdt, Bool.false_and, Bool.and_false]
  by_cases h3 : (a4.length : Int) = a0
  case neg => simp (disch := omega) only [Bool.not_true, dT, dF, Bool.not_false, qdv, qdt, Bool.false_and, Bool.and_false]
  simp (disch := omega) only [Bool.not_true, dT, qdt, Bool.true_and]
  refine Eq.trans (qkk k hk [] a0 a1z a2z a3z a4z a1 a2 a3 a4 (by omega) (by omega) _ 0 (by omega) (by omega)) ?_
  simp only [List.drop_zero]
  cases h4 : qkz a2 a3
  · rfl
  · have hx := (qk1 a2 a3 (by omega) h4).1
    have e := qkl k hk [] a0 a1z a2z a3z a4z a1 a2 a3 a4 (by omega) hb hx (k + 6) 0 (by omega) (by omega)
    simp only [List.drop_zero] at e
    simp only [qdv, Bool.true_and, dT (h1), dT (h2), dT (h3), decide_true]
    exact e
theorem qbk (k : Nat) (hk : 2000000 ≤ k) (a : Int) : go (k + 2) impl_isBed [(.int .i64 (a))] = some [.bool (inR a 0 1000000)] := by
  rw [qff]; simp (disch := omega) only [qbu, bit, qan, nth0, qor]
theorem qbj (k : Nat) (hk : 2000000 ≤ k) (a : Int) : go (k + 3) impl_State_hasCells_1 [(.int .i64 (a))] = some [.bool (!inR a 0 1000000)] := by
  rw [qe2]; simp (disch := omega) only [qbk, bit, qan, nth0, qor]
theorem qj7 (k : Nat) (hk : 2000000 ≤ k) (fu : List (Nat × Nat)) (z : Bool) (l : List Int) (hl : (l.length : Int) ≤ 1048576) : ∀ (n i : Nat), i ≤ l.length → l.length - i < n →
    ∃ j : Int, lp (k + 3) slices_IndexFunc_int_int [] fu 2 (n) (qmw (l.length : Int) (i : Int) z l) = some [.int .i64 j] ∧ decide (0 ≤ j) = !qak (l.drop i)
  | 0, i, hi, hn => by omega
  | n + 1, i, hi, hn => by
    rw [qiq]
    by_cases h : i < l.length
    · rw [qeb h 0]
      obtain ⟨j, e1, e2⟩ := qj7 k hk fu z l hl n (i + 1) (by omega) (by omega)
      simp (disch := omega) only [dT, nI, Bool.and_true, Int.toNat_natCast, qbj, bit, qdg, qpd, e1, qan, nth0, qor, qdv, qak]
      cases inR (l.getD i 0) 0 1000000
      · exact ⟨i, rfl, by rw [dT (by omega)]; rfl⟩
      · exact ⟨j, rfl, by rw [e2]; rfl⟩
    · rw [List.drop_of_length_le (by omega)]
      simp (disch := omega) only [dF, dT, nI, Bool.and_false, Int.toNat_natCast, bit, qdg, qpd, qdt, qak, Bool.not_true]
      exact ⟨-1, rfl, rfl⟩
theorem qas (k : Nat) (hk : 2000000 ≤ k) (z : Bool) (l : List Int) (hl : (l.length : Int) ≤ 1048576) : go (k + 5) slices_ContainsFunc_int_int [.arr false z (.ints .i64 l), .fn impl_State_hasCells_1 []] = some [.bool (!qak l)] := by
  rw [qfn, qfo]
  obtain ⟨j, e1, e2⟩ := qj7 k hk [] z l hl (k + 3) 0 (by omega) (by omega)
  have e1' := e1
  simp only [nI] at *
  rw [show ((0 : Nat) : Int) = 0 from rfl] at e1'
  rw [e1']
  simp (disch := omega) only [qan, nth0, qos]
  rw [show decide ((0 : Int) ≤ j) = !qak l from e2]
theorem qjw (k : Nat) (hk : 2000000 ≤ k) (fu : List (Nat × Nat)) (r : Int) (z1 z2 z3 z4 : Bool) (l : List Cell) (m t b : List Int) (hm : (m.length : Int) ≤ 1048576) (ht : t.length = m.length) (s : List D)
    (hs : qkz m t = true → go (k + 5) impl_sum [.arr false z2 (.ints .i64 m)] = some [.int .i64 (isum m)]) (P : Bool) : ∀ (n i : Nat), i ≤ m.length → m.length - i < n → (qkz (m.drop i) (t.drop i) = true → qkz m t = true) →
    lp (k + 5) impl_State_hasCells [] fu 5 (n) (qmo (m.length : Int) (i : Int) z1 l z2 m z3 t z4 b r) = some [.bool (qkz (m.drop i) (t.drop i) && decide (isum m ≤ 10000000))]
  | 0, i, hi, hn, hq => by omega
  | n + 1, i, hi, hn, hq => by
    rw [qii]
    by_cases h : i < m.length
    · rw [qeb h 0, qeb (l := t) (by omega : i < t.length) 0] at hq ⊢
      by_cases h1 : inR (m.getD i 0) 0 10000000 = true
      · have h2 := qhx.1 h1
        by_cases h3 : inR (t.getD i 0) 0 (1000 * m.getD i 0) = true
        · have e := qjw k hk fu r z1 z2 z3 z4 l m t b hm ht s hs P n (i + 1) (by omega) (by omega) (fun hh => hq (by simp only [qkz, h1, h3, hh, Bool.and_self]))
          simp (disch := omega) only [dT, nI, Bool.and_true, Int.toNat_natCast, qbu, h1, bit, qpd, h3, qdg, e, qan, nth0, qor, Bool.not_true, qdt, qdv, qkz, Bool.true_and]
        · have h3 : inR (t.getD i 0) 0 (1000 * m.getD i 0) = false := by simpa using h3
          simp (disch := omega) only [dT, nI, Bool.and_true, Int.toNat_natCast, qbu, h1, bit, qpd, h3, qdg, qan, nth0, qor, Bool.not_false, qdv, Bool.not_true, qdt, qkz, Bool.false_and, Bool.and_false]
      · have h1 : inR (m.getD i 0) 0 10000000 = false := by simpa using h1
        simp (disch := omega) only [dT, nI, Bool.and_true, Int.toNat_natCast, qbu, h1, bit, qdg, qpd, qan, nth0, qor, qdv, Bool.not_false, qkz, Bool.false_and]
    · rw [List.drop_of_length_le (by omega), List.drop_of_length_le (by omega)] at hq ⊢
      have e := hs (hq rfl)
      simp (disch := omega) only [dF, dT, nI, Bool.and_false, Int.toNat_natCast, bit, qdg, qpd, qdt, e, qan, nth0, qos, qkz, Bool.true_and]
theorem qbi (k : Nat) (hk : 2000000 ≤ k) (a0 : Int) (a1z : Bool) (a1 : List (Int × Int × Int)) (a2z : Bool) (a2 : List Int) (a3z : Bool) (a3 : List Int) (a4z : Bool) (a4 : List Int) (hl : (a1.length : Int) ≤ 1048576) (hb : (a4.length : Int) ≤ 1048576) : go (k + 6) impl_State_hasCells [(.agg [(.int .i64 (a0)), (.arr false (a1z) (.r3 (a1))), (.arr false (a2z) (.ints .i64 (a2))), (.arr false (a3z) (.ints .i64 (a3))), (.arr false (a4z) (.ints .i64 (a4)))])] = some [.bool (decide (a2.length = a1.length) && (decide (a3.length = a1.length) && (decide ((a4.length : Int) = a0) && (qkz a2 a3 && (qak a4 && decide (isum a2 ≤ 10000000))))))] := by
  rw [qe1]
  by_cases h1 : a2.length = a1.length
  case neg => simp (disch := omega) only [nI, dF, Bool.not_false, bit, qdv, Bool.false_and]
  by_cases h2 : a3.length = a1.length
  case neg => simp (disch := omega) only [nI, dT, Bool.not_true, dF, Bool.not_false, bit, qdv, qdt, Bool.false_and, Bool.and_false]
  by_cases h3 : (a4.length : Int) = a0
  case neg => simp (disch := omega) only [nI, dT, Bool.not_true, dF, Bool.not_false, bit, qdv, qdt, Bool.false_and, Bool.and_false]
  simp (disch := omega) only [nI, dT, Bool.not_true, qas, bit, qan, nth0, qor, qdt, Bool.true_and]
  cases h5 : qak a4
  · cases qkz a2 a3 <;> rfl
  have e := qjw k hk [] a0 a1z a2z a3z a4z a1 a2 a3 a4 (by omega) (by omega) [] (fun hm => by
    have hx := (qk1 a2 a3 (by omega) hm).1
    exact qbq _ (by omega) _ _ (by omega) (fun x hh => by have := hx x hh; omega)) true (k + 5) 0 (by omega) (by omega) (fun h => h)
  simp only [List.drop_zero] at e
  simp only [Bool.not_true, qdt, Bool.true_and]
  exact e
theorem qa4 (k : Nat) (hk : 2000000 ≤ k) (a0 : Int) (a1z : Bool) (a1 : List (Int × Int × Int)) (a2z : Bool) (a2 : List Int) (a3z : Bool) (a3 : List Int) (a4z : Bool) (a4 : List Int) (hl : (a1.length : Int) ≤ 1048576) (hb : (a4.length : Int) ≤ 1048576) : go (k + 8) impl_StateOk [(.agg [(.int .i64 (a0)), (.arr false (a1z) (.r3 (a1))), (.arr false (a2z) (.ints .i64 (a2))), (.arr false (a3z) (.ints .i64 (a3))), (.arr false (a4z) (.ints .i64 (a4)))])] = some [.bool (stOk a0 a1 a2 a3 a4)] := by
  rw [qex]
  simp (disch := omega) only [qax, bit, qbi, qan, nth0, qor]
  unfold stOk
  cases qai a0 a1 <;> rfl
end Go.Proofs.YtoldpdhhfmlckaaGreat
end
section
namespace Go.Proofs.YtoldpdhhfmlckaaGreat
open Go.Ev
theorem qgz (k : Nat) (a0 : Int) (a1z : Bool) (a1 : List (Int × Int × Int)) (a2z : Bool) (a2 : List Int) (a3z : Bool) (a3 : List Int) (a4z : Bool) (a4 : List Int) (b : Int) : go (k + 1) spec_l09Surface [(.agg [(.int .i64 (a0)), (.arr false (a1z) (.r3 (a1))), (.arr false (a2z) (.ints .i64 (a2))), (.arr false (a3z) (.ints .i64 (a3))), (.arr false (a4z) (.ints .i64 (a4)))]), (.int .i64 (b))] =
 cond (decide ((0 : Int) ≤ b) && decide (b < nI (List.length a1)))
 (cond (decide ((0 : Int) ≤ Prod.fst (List.getD a1 (Int.toNat b) zz3)) && decide (Prod.fst (List.getD a1 (Int.toNat b) zz3) < nI (List.length a4)))
 (cond (decide ((0 : Int) ≤ b) && decide (b < nI (List.length a2)))
 (cond (decide ((0 : Int) ≤ IntKind.wrap IntKind.u64 (Prod.fst (Prod.snd (List.getD a1 (Int.toNat b) zz3)))))
 (some [(.int .i64 (IntKind.wrap .i64 (List.getD a4 (Int.toNat (Prod.fst (List.getD a1 (Int.toNat b) zz3))) (0 : Int) + IntKind.wrap .i64 (List.getD a2 (Int.toNat b) (0 : Int) * (2 : Int) ^ shiftN .i64 (IntKind.wrap IntKind.u64 (Prod.fst (Prod.snd (List.getD a1 (Int.toNat b) zz3))))))))])
 (none))
 (none))
 (none))
 (none) := by kernel_rfl
theorem qe5 (k : Nat) (a0 : Int) (a1z : Bool) (a1 : List (Int × Int × Int)) (a2z : Bool) (a2 : List Int) (a3z : Bool) (a3 : List Int) (a4z : Bool) (a4 : List Int) (b : Int) : go (k + 1) impl_State_surface [(.agg [(.int .i64 (a0)), (.arr false (a1z) (.r3 (a1))), (.arr false (a2z) (.ints .i64 (a2))), (.arr false (a3z) (.ints .i64 (a3))), (.arr false (a4z) (.ints .i64 (a4)))]), (.int .i64 (b))] =
 cond (decide ((0 : Int) ≤ b) && decide (b < nI (List.length a1)))
 (cond (decide ((0 : Int) ≤ Prod.fst (List.getD a1 (Int.toNat b) zz3)) && decide (Prod.fst (List.getD a1 (Int.toNat b) zz3) < nI (List.length a4)))
 (cond (decide ((0 : Int) ≤ b) && decide (b < nI (List.length a2)))
 (cond (decide ((0 : Int) ≤ Prod.fst (Prod.snd (List.getD a1 (Int.toNat b) zz3))))
 (some [(.int .i64 (IntKind.wrap .i64 (List.getD a4 (Int.toNat (Prod.fst (List.getD a1 (Int.toNat b) zz3))) (0 : Int) + IntKind.wrap .i64 (List.getD a2 (Int.toNat b) (0 : Int) * (2 : Int) ^ shiftN .i64 (Prod.fst (Prod.snd (List.getD a1 (Int.toNat b) zz3)))))))])
 (none))
 (none))
 (none))
 (none) := by kernel_rfl
theorem qgy (k : Nat) (a b : Int) : go (k + 1) spec_l09Gap [(.int .i64 (a)), (.int .i64 (b))] =
 cond (decide (b < a))
 (some [(.int .i64 (IntKind.wrap .i64 (a - b)))])
 (some [(.int .i64 (IntKind.wrap .i64 (b - a)))]) := by kernel_rfl

end Go.Proofs.YtoldpdhhfmlckaaGreat
end
section
namespace Go.Proofs.YtoldpdhhfmlckaaGreat
open Go.Ev
theorem qo7 {l : Int} (h : inR l 0 4 = true) : 1 ≤ qo6 l ∧ qo6 l ≤ 16 := by
  rcases lev h with rfl | rfl | rfl | rfl | rfl <;> decide
theorem qo5 {x : Cell} (h : idOk x.1 x.2.1 x.2.2 = true) : qob x.1 x.2.1 x.2.2 = x.1 * 16 + x.2.2 * qo6 x.2.1 ∧ 0 ≤ x.2.2 * qo6 x.2.1 ∧ 1 ≤ qo6 x.2.1 := by
  have := qhw h
  exact ⟨by simp [qob, h], (iw h).1, (qo7 this.2.2.1).1⟩
theorem qle : ∀ (l : List Cell) (r p : Int), qla r p l = true → 1 ≤ r ∧ r ≤ 8 ∧ p + l.length ≤ 16 * r ∧ (∀ i, i < l.length → 0 ≤ (l.getD i zz3).1 ∧ (l.getD i zz3).1 < r ∧ idOk (l.getD i zz3).1 (l.getD i zz3).2.1 (l.getD i zz3).2.2 = true) ∧ (l = [] → p = 16 * r)
  | [], r, p, h => by
    simp only [qla, Bool.and_eq_true, qhx, decide_eq_true_eq] at h
    simp; omega
  | x :: l, r, p, h => by
    simp only [qla, Bool.and_eq_true, decide_eq_true_eq] at h
    obtain ⟨h1, h2, h3⟩ := h
    have w := qo5 h1
    have ih := qle l r _ h3
    have ds := qhw h1
    refine ⟨ih.1, ih.2.1, by simp only [List.length_cons]; omega, fun i hi => ?_, by simp⟩
    cases i with
    | zero => simp only [List.getD_cons_zero]; refine ⟨by omega, by omega, h1⟩
    | succ i => simp only [List.getD_cons_succ]; exact ih.2.2.2.1 i (by simpa using hi)
theorem qlf {l : List Cell} {r : Int} (h : qla r 0 l = true) : 1 ≤ l.length ∧ l.length ≤ 128 := by
  have f := qle l r 0 h
  cases l with
  | nil => have := f.2.2.2.2 rfl; omega
  | cons x l => simp only [List.length_cons] at f ⊢; omega
structure StF (r : Int) (l : List Cell) (m t b : List Int) : Prop where
  mesh : qla r 0 l = true
  bal : unb l < 0
  ml : m.length = l.length
  tl : t.length = l.length
  bl : (b.length : Int) = r
  mt : qkz m t = true
  bed : qak b = true
  sum : isum m ≤ 10000000
theorem stF {r : Int} {l : List Cell} {m t b : List Int} : stOk r l m t b = true ↔ StF r l m t b := by
  unfold stOk qai
  simp only [Bool.and_eq_true, decide_eq_true_eq]
  exact ⟨fun h => ⟨h.1.1, h.1.2, h.2.1, h.2.2.1, h.2.2.2.1, h.2.2.2.2.1, h.2.2.2.2.2.1, h.2.2.2.2.2.2⟩, fun h => ⟨⟨h.mesh, h.bal⟩, h.ml, h.tl, h.bl, h.mt, h.bed, h.sum⟩⟩
theorem shp {l : Int} (h : inR l 0 4 = true) : (2 : Int) ^ shiftN .i64 l = pow2 l := by
  rcases lev h with rfl | rfl | rfl | rfl | rfl <;> simp [sh0, sh1, sh2, sh3, sh4, p20, p21, p22, p23, p24]
theorem mulp {m l : Int} (h : inR l 0 4 = true) (h0 : 0 ≤ m) : m ≤ m * pow2 l ∧ m * pow2 l ≤ 16 * m := by
  rcases lev h with rfl | rfl | rfl | rfl | rfl <;> simp only [p20, p21, p22, p23, p24] <;> omega
section
variable {r : Int} {l : List Cell} {m t b : List Int}
theorem StF.len (F : StF r l m t b) : 1 ≤ l.length ∧ l.length ≤ 128 := qlf F.mesh
theorem StF.rr (F : StF r l m t b) : 1 ≤ r ∧ r ≤ 8 := ⟨(qle l r 0 F.mesh).1, (qle l r 0 F.mesh).2.1⟩
theorem StF.lev (F : StF r l m t b) (i : Nat) : inR (l.getD i zz3).2.1 0 4 = true := by
  have := qlg l r 0 F.mesh i
  simp only [qjk] at this
  rw [qhx]; exact this
theorem StF.root (F : StF r l m t b) {i : Nat} (h : i < l.length) : 0 ≤ (l.getD i zz3).1 ∧ (l.getD i zz3).1 < r := ⟨((qle l r 0 F.mesh).2.2.2.1 i h).1, ((qle l r 0 F.mesh).2.2.2.1 i h).2.1⟩
theorem StF.at (F : StF r l m t b) (i : Nat) : 0 ≤ m.getD i 0 ∧ m.getD i 0 ≤ 10000000 ∧ 0 ≤ t.getD i 0 ∧ t.getD i 0 ≤ 1000 * m.getD i 0 := qk0 m t (by rw [F.ml, F.tl]) F.mt i
theorem StF.bedAt (F : StF r l m t b) (i : Nat) : 0 ≤ b.getD i 0 ∧ b.getD i 0 ≤ 1000000 := by
  by_cases h : i < b.length
  · exact qal b F.bed _ (qho h 0)
  · rw [qhn (by omega)]; omega
end
def surf (l : List Cell) (m b : List Int) (i : Nat) : Int := b.getD (l.getD i zz3).1.toNat 0 + m.getD i 0 * pow2 (l.getD i zz3).2.1
theorem qoi {r : Int} {l : List Cell} {m t b : List Int} (F : StF r l m t b) (i : Nat) : 0 ≤ surf l m b i ∧ surf l m b i ≤ 161000000 := by
  have h1 := F.bedAt (l.getD i zz3).1.toNat
  have h2 := F.at i
  have h3 := mulp (F.lev i) h2.1
  unfold surf; omega
theorem qc7 (k : Nat) (hk : 2000000 ≤ k) (r : Int) (z1 z2 z3 z4 : Bool) (l : List Cell) (m t b : List Int) (F : StF r l m t b) (i : Nat) (hi : i < l.length) :
    go (k + 1) spec_l09Surface [.agg [.int .i64 r, .arr false z1 (.r3 l), .arr false z2 (.ints .i64 m), .arr false z3 (.ints .i64 t), .arr false z4 (.ints .i64 b)], .int .i64 (i : Int)] = some [.int .i64 (surf l m b i)] := by
  rw [qgz]
  have h1 := F.root hi; have h2 := F.ml; have h3 := F.bl; have h4 := F.lev i; have h5 := lev0 h4; have h6 := F.at i; have h7 := qoi F i; have h8 := mulp h4 h6.1; have h9 := F.len
  unfold surf at h7 ⊢
  simp (disch := omega) only [dT, nI, Bool.and_true, Int.toNat_natCast, qpe, shp h4, qpd, qdv]
theorem qbr (k : Nat) (hk : 2000000 ≤ k) (r : Int) (z1 z2 z3 z4 : Bool) (l : List Cell) (m t b : List Int) (F : StF r l m t b) (i : Nat) (hi : i < l.length) :
    go (k + 1) impl_State_surface [.agg [.int .i64 r, .arr false z1 (.r3 l), .arr false z2 (.ints .i64 m), .arr false z3 (.ints .i64 t), .arr false z4 (.ints .i64 b)], .int .i64 (i : Int)] = some [.int .i64 (surf l m b i)] := by
  rw [qe5]
  have h1 := F.root hi; have h2 := F.ml; have h3 := F.bl; have h4 := F.lev i; have h5 := lev0 h4; have h6 := F.at i; have h7 := qoi F i; have h8 := mulp h4 h6.1; have h9 := F.len
  unfold surf at h7 ⊢
  simp (disch := omega) only [dT, nI, Bool.and_true, Int.toNat_natCast, shp h4, qpd, qdv]
def gap (a b : Int) : Int := if b < a then a - b else b - a
theorem qc6 (k : Nat) (hk : 2000000 ≤ k) (a : Int) (b : Int) (ha : -1000000000000 ≤ a ∧ a ≤ 1000000000000) (hb : -1000000000000 ≤ b ∧ b ≤ 1000000000000) : go (k + 1) spec_l09Gap [(.int .i64 (a)), (.int .i64 (b))] = some [.int .i64 (gap a b)] := by
  rw [qgy]
  unfold gap
  by_cases h : b < a
  · simp (disch := omega) only [dT, qpd, qdv]; rw [if_pos h]
  · simp (disch := omega) only [dF, qpd, qdt]; rw [if_neg h]
end Go.Proofs.YtoldpdhhfmlckaaGreat
end
section
namespace Go.Proofs.YtoldpdhhfmlckaaGreat
open Go.Ev
def qhf (l : List Cell) (i : Nat) : Int := max (qjk l (i + 1)) (qjk l i)
theorem qcv (k : Nat) (hk : 2000000 ≤ k) (a0 : Int) (a1z : Bool) (a1 : List Cell) (i : Nat) (hi : i + 1 < a1.length) (hl : (a1.length : Int) ≤ 1048576) : go (k + 1) spec_l05Face [.agg [.int .i64 a0, .arr false a1z (.r3 a1)], .int .i64 (i : Int)] = some [.int .i64 (qhf a1 i)] := by
  rw [qgm]
  simp (disch := omega) only [dT, nI, Bool.and_true, qdg, qpd, Int.toNat_natCast, imax, qdv]
  rfl
theorem qbg (k : Nat) (hk : 2000000 ≤ k) (a0 : Int) (a1z : Bool) (a1 : List Cell) (i : Nat) (hi : i + 1 < a1.length) (hl : (a1.length : Int) ≤ 1048576) : go (k + 1) impl_Mesh_faceLevel [.agg [.int .i64 a0, .arr false a1z (.r3 a1)], .int .i64 (i : Int)] = some [.int .i64 (qhf a1 i)] := by
  rw [qem]
  simp (disch := omega) only [dT, nI, Bool.and_true, qdg, qpd, Int.toNat_natCast, imax, qdv]
  rfl
theorem qhg {l : List Cell} (h : qaa l) (i : Nat) : inR (qhf l i) 0 4 = true := by
  have h1 := h i; have h2 := h (i + 1)
  unfold qhf; rw [qhx]; omega
end Go.Proofs.YtoldpdhhfmlckaaGreat
end
section
namespace Go.Proofs.YtoldpdhhfmlckaaGreat
open Go.Ev
theorem qcq (k : Nat) (hk : 2000000 ≤ k) (a0 : Int) (a1z : Bool) (a1 : List (Int × Int × Int)) (h1 : (a1.length : Int) ≤ 1048576) : go (k + 1) spec_l04Copy [(.agg [(.int .i64 (a0)), (.arr false (a1z) (.r3 (a1)))])] = some [.agg [.int .i64 a0, .arr true false (.r3 a1)]] := by
  rw [qgh]
  simp (disch := omega) only [qlm, big0, dT, Bool.false_and, qdv]
theorem qc1 (k : Nat) (hk : 2000000 ≤ k) (a0 : Int) (a1z : Bool) (a1 : List (Int × Int × Int)) (a2z : Bool) (a2 : List Int) (a3z : Bool) (a3 : List Int) (a4z : Bool) (a4 : List Int) (h1 : (a1.length : Int) ≤ 1048576) (h2 : (a2.length : Int) ≤ 1048576) (h3 : (a3.length : Int) ≤ 1048576) (h4 : (a4.length : Int) ≤ 1048576) : go (k + 2) spec_l07Copy [(.agg [(.int .i64 (a0)), (.arr false (a1z) (.r3 (a1))), (.arr false (a2z) (.ints .i64 (a2))), (.arr false (a3z) (.ints .i64 (a3))), (.arr false (a4z) (.ints .i64 (a4)))])] = some [.agg [.int .i64 a0, .arr true false (.r3 a1), .arr true false (.ints .i64 a2), .arr true false (.ints .i64 a3), .arr true false (.ints .i64 a4)]] := by
  rw [qgs]
  simp (disch := omega) only [qcq, qlm, big0, dT, Bool.false_and, qdv, qan, nth0, qdi, qos, qdj, qln, qlz]
theorem qbx (k : Nat) (hk : 2000000 ≤ k) (a : List Int) (hl : (a.length : Int) ≤ 1048576) : go (k + 1) slices_Clone_int_int [.arr false false (.ints .i64 a)] = some [.arr true false (.ints .i64 a)] := by
  rw [qfm]
  simp (disch := omega) only [qlm, big0, dT, Bool.false_and, qdv, qdt]
theorem qbw (k : Nat) (hk : 2000000 ≤ k) (a : List Cell) (hl : (a.length : Int) ≤ 1048576) : go (k + 1) slices_Clone_impl_Id_impl_Id [.arr false false (.r3 a)] = some [.arr true false (.r3 a)] := by
  rw [qfl]
  simp (disch := omega) only [qlm, big0, dT, Bool.false_and, qdv, qdt]
theorem qbd (k : Nat) (hk : 2000000 ≤ k) (a0 : Int) (a1 : List Cell) (h1 : (a1.length : Int) ≤ 1048576) : go (k + 2) impl_copyMesh [.agg [.int .i64 a0, .arr false false (.r3 a1)]] = some [.agg [.int .i64 a0, .arr true false (.r3 a1)]] := by
  rw [qfc]
  simp (disch := omega) only [qbw, qan, nth0, qln, qlz]
theorem qbe (k : Nat) (hk : 2000000 ≤ k) (a0 : Int) (a1 : List Cell) (a2 a3 a4 : List Int) (h1 : (a1.length : Int) ≤ 1048576) (h2 : (a2.length : Int) ≤ 1048576) (h3 : (a3.length : Int) ≤ 1048576) (h4 : (a4.length : Int) ≤ 1048576) :
    go (k + 3) impl_copyState [.agg [.int .i64 a0, .arr false false (.r3 a1), .arr false false (.ints .i64 a2), .arr false false (.ints .i64 a3), .arr false false (.ints .i64 a4)]] = some [.agg [.int .i64 a0, .arr true false (.r3 a1), .arr true false (.ints .i64 a2), .arr true false (.ints .i64 a3), .arr true false (.ints .i64 a4)]] := by
  rw [qfd]
  simp (disch := omega) only [qbd, qbx, qan, nth0, qln, qhy, qdi, qos, qdj, qlz]
end Go.Proofs.YtoldpdhhfmlckaaGreat
end
section
namespace Go.Proofs.YtoldpdhhfmlckaaGreat
open Go.Ev
def okp : Int → List Cell → Bool
  | _, [] => true
  | p, x :: l => idOk x.1 x.2.1 x.2.2 && (decide (qob x.1 x.2.1 x.2.2 = p) && okp (p + qo6 x.2.1) l)
def endp : Int → List Cell → Int
  | p, [] => p
  | p, x :: l => endp (p + qo6 x.2.1) l
theorem qlb : ∀ (l : List Cell) (r p : Int), qla r p l = (okp p l && (inR r 1 8 && decide (endp p l = r * 16)))
  | [], r, p => rfl
  | x :: l, r, p => by
    simp only [qla, okp, endp]
    by_cases h : qob x.1 x.2.1 x.2.2 = p
    · rw [h, qlb l r]; simp only [Bool.and_assoc]; rfl
    · rw [dF h]; simp
theorem qlc {l : List Cell} {r p : Int} : qla r p l = true ↔ okp p l = true ∧ (1 ≤ r ∧ r ≤ 8) ∧ endp p l = r * 16 := by
  rw [qlb]; simp only [Bool.and_eq_true, qhx, decide_eq_true_eq]
theorem qlr {x : Cell} {l : List Cell} {p : Int} : okp p (x :: l) = true ↔ idOk x.1 x.2.1 x.2.2 = true ∧ qob x.1 x.2.1 x.2.2 = p ∧ okp (p + qo6 x.2.1) l = true := by
  simp only [okp, Bool.and_eq_true, decide_eq_true_eq]
theorem qhe (x : Cell) (l : List Cell) (p : Int) : endp p (x :: l) = endp (p + qo6 x.2.1) l := rfl
theorem qlq : ∀ (a b : List Cell) (p : Int), okp p (a ++ b) = (okp p a && okp (endp p a) b)
  | [], b, p => by simp [okp, endp]
  | x :: a, b, p => by simp only [List.cons_append, okp, endp, qlq a b, Bool.and_assoc]
theorem qhd : ∀ (a b : List Cell) (p : Int), endp p (a ++ b) = endp (endp p a) b
  | [], b, p => by simp [endp]
  | x :: a, b, p => by simp only [List.cons_append, endp, qhd a b]
theorem qo2 (l : List Cell) : ∀ n i, (qo1 l n i < 0 ↔ ∀ j, i ≤ j → j < i + n → ¬ (1 < qjk l j - qjk l (j + 1) ∨ qjk l j - qjk l (j + 1) < -1)) ∧ (0 ≤ qo1 l n i → ∃ j : Nat, qo1 l n i = j ∧ i ≤ j ∧ j < i + n ∧ (1 < qjk l j - qjk l (j + 1) ∨ qjk l j - qjk l (j + 1) < -1))
  | 0, i => by refine ⟨⟨fun _ j h1 h2 => by omega, fun _ => by simp [qo1]⟩, fun h => by simp [qo1] at h⟩
  | n + 1, i => by
    have ih := qo2 l n (i + 1)
    unfold qo1
    by_cases g : 1 < qjk l i - qjk l (i + 1) ∨ qjk l i - qjk l (i + 1) < -1
    · rw [if_pos g]
      refine ⟨⟨fun h => by omega, fun h => absurd g (h i (Nat.le_refl _) (by omega))⟩, fun _ => ⟨i, rfl, Nat.le_refl _, by omega, g⟩⟩
    · rw [if_neg g]
      refine ⟨⟨fun h j h1 h2 => ?_, fun h => ih.1.2 fun j h1 h2 => h j (by omega) (by omega)⟩, fun h => ?_⟩
      · by_cases e : j = i
        · subst e; exact g
        · exact ih.1.1 h j (by omega) (by omega)
      · obtain ⟨j, e, h1, h2, h3⟩ := ih.2 h
        exact ⟨j, e, by omega, by omega, h3⟩
theorem qo4 (l : List Cell) : unb l < 0 ↔ ∀ j, j + 1 < l.length → -1 ≤ qjk l j - qjk l (j + 1) ∧ qjk l j - qjk l (j + 1) ≤ 1 := by
  unfold unb
  rw [(qo2 l _ _).1]
  refine ⟨fun h j hj => ?_, fun h j _ hj => ?_⟩
  · have := h j (by omega) (by omega); omega
  · have := h j (by omega); omega
theorem qo3 {l : List Cell} (h : 0 ≤ unb l) : ∃ j : Nat, unb l = j ∧ j + 1 < l.length ∧ (1 < qjk l j - qjk l (j + 1) ∨ qjk l j - qjk l (j + 1) < -1) := by
  unfold unb at *
  obtain ⟨j, e, h1, h2, h3⟩ := (qo2 l _ _).2 h
  exact ⟨j, e, by omega, h3⟩
end Go.Proofs.YtoldpdhhfmlckaaGreat
end
section
namespace Go.Proofs.YtoldpdhhfmlckaaGreat
open Go.Ev
theorem w0 : qo6 0 = 16 := by decide
theorem w1_ : qo6 1 = 8 := by decide
theorem w2_ : qo6 2 = 4 := by decide
theorem w3_ : qo6 3 = 2 := by decide
theorem w4_ : qo6 4 = 1 := by decide
theorem qhv {r l i : Int} : idOk r l i = true ↔ (0 ≤ r ∧ r ≤ 7) ∧ (0 ≤ l ∧ l ≤ 4) ∧ 0 ≤ i ∧ i < pow2 l := by
  simp only [idOk, Bool.and_eq_true, qhx, decide_eq_true_eq]
theorem qod {r l i : Int} (h : idOk r l i = true) : qob r l i = r * 16 + i * qo6 l := by simp [qob, h]
abbrev ch0 (x : Cell) : Cell := (x.1, x.2.1 + 1, 2 * x.2.2)
abbrev ch1 (x : Cell) : Cell := (x.1, x.2.1 + 1, 2 * x.2.2 + 1)
theorem qdn {r l i : Int} (h : idOk r l i = true) (hl : l < 4) : idOk r (l + 1) (2 * i) = true ∧ idOk r (l + 1) (2 * i + 1) = true ∧ qob r (l + 1) (2 * i) = qob r l i ∧ qob r (l + 1) (2 * i + 1) = qob r l i + qo6 (l + 1) ∧ qo6 (l + 1) + qo6 (l + 1) = qo6 l := by
  have h' := qhv.1 h
  rcases lev (qhx.2 h'.2.1) with rfl | rfl | rfl | rfl | rfl
  · have p := h'.2.2; simp only [p20] at p
    have a : idOk r 1 (2 * i) = true := qhv.2 ⟨h'.1, by omega, by rw [p21]; omega⟩
    have b : idOk r 1 (2 * i + 1) = true := qhv.2 ⟨h'.1, by omega, by rw [p21]; omega⟩
    refine ⟨a, b, ?_, ?_, rfl⟩
    · show qob r 1 (2 * i) = _; rw [qod a, qod h, w0, w1_]; omega
    · show qob r 1 (2 * i + 1) = _ + qo6 1; rw [qod b, qod h, w0, w1_]; omega
  · have p := h'.2.2; simp only [p21] at p
    have a : idOk r 2 (2 * i) = true := qhv.2 ⟨h'.1, by omega, by rw [p22]; omega⟩
    have b : idOk r 2 (2 * i + 1) = true := qhv.2 ⟨h'.1, by omega, by rw [p22]; omega⟩
    refine ⟨a, b, ?_, ?_, rfl⟩
    · show qob r 2 (2 * i) = _; rw [qod a, qod h, w1_, w2_]; omega
    · show qob r 2 (2 * i + 1) = _ + qo6 2; rw [qod b, qod h, w1_, w2_]; omega
  · have p := h'.2.2; simp only [p22] at p
    have a : idOk r 3 (2 * i) = true := qhv.2 ⟨h'.1, by omega, by rw [p23]; omega⟩
    have b : idOk r 3 (2 * i + 1) = true := qhv.2 ⟨h'.1, by omega, by rw [p23]; omega⟩
    refine ⟨a, b, ?_, ?_, rfl⟩
    · show qob r 3 (2 * i) = _; rw [qod a, qod h, w2_, w3_]; omega
    · show qob r 3 (2 * i + 1) = _ + qo6 3; rw [qod b, qod h, w2_, w3_]; omega
  · have p := h'.2.2; simp only [p23] at p
    have a : idOk r 4 (2 * i) = true := qhv.2 ⟨h'.1, by omega, by rw [p24]; omega⟩
    have b : idOk r 4 (2 * i + 1) = true := qhv.2 ⟨h'.1, by omega, by rw [p24]; omega⟩
    refine ⟨a, b, ?_, ?_, rfl⟩
    · show qob r 4 (2 * i) = _; rw [qod a, qod h, w3_, w4_]; omega
    · show qob r 4 (2 * i + 1) = _ + qo6 4; rw [qod b, qod h, w3_, w4_]; omega
  · omega
def qn3 (l : List Cell) (i : Nat) : List Cell := l.take i ++ ch0 (l.getD i zz3) :: ch1 (l.getD i zz3) :: l.drop (i + 1)
theorem qn4 {l : List Cell} {i : Nat} (h : i < l.length) : (qn3 l i).length = l.length + 1 := by
  simp only [qn3, List.length_append, List.length_take, List.length_cons, List.length_drop]; omega
theorem qd5 {α : Type} {l : List α} {i : Nat} (h : i < l.length) (d : α) : l = l.take i ++ l.getD i d :: l.drop (i + 1) := by
  rw [← qeb h d, List.take_append_drop]
theorem qn6 {l : List Cell} {r p : Int} {i : Nat} (h : qla r p l = true) (hi : i < l.length) (hl : (l.getD i zz3).2.1 < 4) : qla r p (qn3 l i) = true := by
  rw [qlc] at *
  have e := qd5 hi zz3
  have h1 := h
  rw [e, qlq, qhd] at h1
  unfold qn3
  rw [qlq, qhd]
  simp only [qlr, qhe, Bool.and_eq_true] at h1 ⊢
  have c := qdn h1.1.2.1 hl
  refine ⟨⟨h1.1.1, c.1, ?_, c.2.1, ?_, ?_⟩, h1.2.1, ?_⟩
  · rw [c.2.2.1]; exact h1.1.2.2.1
  · rw [c.2.2.2.1, h1.1.2.2.1]
  · rw [Int.add_assoc, c.2.2.2.2]; exact h1.1.2.2.2
  · rw [Int.add_assoc, c.2.2.2.2]; exact h1.2.2
def qdq (l : List Cell) (i : Nat) : Nat := if qjk l (i + 1) < qjk l i then i + 1 else i
theorem qdr {l : List Cell} {r p : Int} {i : Nat} (h : qla r p l = true) (hi : i + 1 < l.length) (hu : 1 < qjk l i - qjk l (i + 1) ∨ qjk l i - qjk l (i + 1) < -1) : qdq l i < l.length ∧ qjk l (qdq l i) < 4 := by
  have h1 := qlg _ _ _ h i; have h2 := qlg _ _ _ h (i + 1)
  unfold qdq
  by_cases g : qjk l (i + 1) < qjk l i
  · rw [if_pos g]; exact ⟨hi, by omega⟩
  · rw [if_neg g]; exact ⟨by omega, by omega⟩
def balN : Nat → List Cell → List Cell
  | 0, l => l
  | n + 1, l => if unb l < 0 then l else balN n (qn3 l (qdq l (unb l).toNat))
theorem qah : ∀ (n : Nat) (l : List Cell) (r : Int), qla r 0 l = true → 129 ≤ n + l.length → qla r 0 (balN n l) = true ∧ unb (balN n l) < 0
  | 0, l, r, h, hn => by have := qlf h; omega
  | n + 1, l, r, h, hn => by
    unfold balN
    by_cases g : unb l < 0
    · rw [if_pos g]; exact ⟨h, g⟩
    · rw [if_neg g]
      obtain ⟨j, e, h1, h2⟩ := qo3 (by omega : 0 ≤ unb l)
      have c := qdr h h1 h2
      rw [e, Int.toNat_natCast]
      exact qah n _ r (qn6 h c.1 c.2) (by rw [qn4 c.1]; omega)
def bal (l : List Cell) : List Cell := balN (129 - l.length) l
theorem qaj {l : List Cell} {r : Int} (h : qla r 0 l = true) : qla r 0 (bal l) = true ∧ unb (bal l) < 0 := qah _ l r h (by have := qlf h; omega)
abbrev par (x : Cell) : Cell := (x.1, x.2.1 - 1, x.2.2 / 2)
def sib (a b : Cell) : Bool := idOk a.1 a.2.1 a.2.2 && (idOk b.1 b.2.1 b.2.2 && (decide (a.1 = b.1) && (decide (a.2.1 = b.2.1) && (decide (a.2.2 % 2 = 0) && decide (b.2.2 = a.2.2 + 1)))))
theorem qlu {r l i : Int} (h : idOk r l i = true) (h' : idOk r l (i + 1) = true) (he : i % 2 = 0) : 1 ≤ l ∧ idOk r (l - 1) (i / 2) = true ∧ qob r (l - 1) (i / 2) = qob r l i ∧ qob r l (i + 1) = qob r l i + qo6 l ∧ qo6 l + qo6 l = qo6 (l - 1) := by
  have a := qhv.1 h; have b := qhv.1 h'
  have hl : 1 ≤ l := by
    rcases Int.lt_or_le l 1 with g | g
    · have : l = 0 := by omega
      subst this; rw [p20] at b; omega
    · exact g
  have q : l - 1 + 1 = l := by omega
  have hi : 2 * (i / 2) = i := by omega
  have p0 : idOk r (l - 1) (i / 2) = true := by
    rcases lev (qhx.2 a.2.1) with rfl | rfl | rfl | rfl | rfl
    · omega
    · rw [p21] at b; exact qhv.2 ⟨a.1, by omega, by rw [show (1 : Int) - 1 = 0 from rfl, p20]; omega⟩
    · rw [p22] at b; exact qhv.2 ⟨a.1, by omega, by rw [show (2 : Int) - 1 = 1 from rfl, p21]; omega⟩
    · rw [p23] at b; exact qhv.2 ⟨a.1, by omega, by rw [show (3 : Int) - 1 = 2 from rfl, p22]; omega⟩
    · rw [p24] at b; exact qhv.2 ⟨a.1, by omega, by rw [show (4 : Int) - 1 = 3 from rfl, p23]; omega⟩
  have c := qdn p0 (by omega)
  rw [q, hi] at c
  exact ⟨hl, p0, c.2.2.1.symm, by rw [c.2.2.2.1, c.2.2.1], c.2.2.2.2⟩
def qk6 (l : List Cell) (i : Nat) : List Cell := l.take i ++ par (l.getD i zz3) :: l.drop (i + 2)
theorem qk7 {l : List Cell} {i : Nat} (h : i + 1 < l.length) : (qk6 l i).length + 1 = l.length := by
  simp only [qk6, List.length_append, List.length_take, List.length_cons, List.length_drop]; omega
theorem qk8 {l : List Cell} {r p : Int} {i : Nat} (h : qla r p l = true) (hi : i + 1 < l.length) (hs : sib (l.getD i zz3) (l.getD (i + 1) zz3) = true) : qla r p (qk6 l i) = true := by
  rw [qlc] at *
  have e := qd5 (by omega : i < l.length) zz3
  rw [qeb hi zz3] at e
  have h1 := h
  rw [e, qlq, qhd] at h1
  unfold qk6
  rw [qlq, qhd]
  simp only [sib, Bool.and_eq_true, decide_eq_true_eq] at hs
  simp only [qlr, qhe, Bool.and_eq_true] at h1 ⊢
  obtain ⟨s1, s2, s3, s4, s5, s6⟩ := hs
  have s2' := s2
  rw [← s3, ← s4, s6] at s2'
  have c := qlu s1 s2' s5
  have e2 : qo6 (l.getD (i + 1) zz3).2.1 = qo6 (l.getD i zz3).2.1 := by rw [s4]
  rw [e2] at h1
  refine ⟨⟨h1.1.1, c.2.1, ?_, ?_⟩, h1.2.1, ?_⟩
  · rw [c.2.2.1]; exact h1.1.2.2.1
  · rw [← c.2.2.2.2, ← Int.add_assoc]; exact h1.1.2.2.2.2.2
  · rw [← c.2.2.2.2, ← Int.add_assoc]; exact h1.2.2
end Go.Proofs.YtoldpdhhfmlckaaGreat
end
section
namespace Go.Proofs.YtoldpdhhfmlckaaGreat
open Go.Ev
def tab (L : Nat) (g : Nat → Int) : List Int := (List.range L).map g
theorem qom (L : Nat) (g : Nat → Int) : (tab L g).length = L := by simp [tab]
theorem qol {L : Nat} {g : Nat → Int} {i : Nat} (h : i < L) : (tab L g).getD i 0 = g i := by simp [tab, h]
theorem qop {x y B : Int} (hy : 0 < y) (h : -B ≤ x) (h' : x ≤ B) : -B ≤ Int.tdiv x y ∧ Int.tdiv x y ≤ B := by
  by_cases hx : 0 ≤ x
  · rw [Int.tdiv_eq_ediv_of_nonneg hx]
    have h1 := Int.ediv_nonneg hx (by omega : 0 ≤ y)
    have h2 := Int.ediv_le_self y hx
    omega
  · obtain ⟨z, rfl⟩ : ∃ z, x = -z := ⟨-x, by omega⟩
    rw [Int.neg_tdiv, Int.tdiv_eq_ediv_of_nonneg (by omega : 0 ≤ z)]
    have h1 := Int.ediv_nonneg (by omega : 0 ≤ z) (by omega : 0 ≤ y)
    have h2 := Int.ediv_le_self y (by omega : 0 ≤ z)
    omega
def qnr (t p m : Int) : Int := cond (inR m 1 10000000 && (inR p 0 m && inR t 0 (1000 * m))) (Int.tdiv (t * p) m) 0
theorem qnu {t p m : Int} (hm : inR m 1 10000000 = true) (hp : inR p 0 m = true) (ht : inR t 0 (1000 * m) = true) : 0 ≤ t * p ∧ t * p ≤ 100000000000000000 := by
  rw [qhx] at *
  refine ⟨Int.mul_nonneg (by omega) (by omega), ?_⟩
  calc t * p ≤ 10000000000 * p := Int.mul_le_mul_of_nonneg_right (by omega) (by omega)
    _ ≤ 10000000000 * 10000000 := Int.mul_le_mul_of_nonneg_left (by omega) (by omega)
theorem qns (t p m : Int) : 0 ≤ qnr t p m ∧ qnr t p m ≤ 100000000000000000 := by
  unfold qnr
  cases hm : inR m 1 10000000
  · simp
  cases hp : inR p 0 m
  · simp
  cases ht : inR t 0 (1000 * m)
  · simp
  have := qnu hm hp ht
  have hm' := qhx.1 hm
  simp only [Bool.and_self, qdv]
  rw [Int.tdiv_eq_ediv_of_nonneg this.1]
  exact ⟨Int.ediv_nonneg this.1 (by omega), Int.le_trans (Int.ediv_le_self m this.1) this.2⟩
theorem qnt {t p m : Int} (ht : 0 ≤ t) (hp : 0 ≤ p) (h : t ≤ 1000 * m) : qnr t p m ≤ 1000 * p := by
  unfold qnr
  cases hh : (inR m 1 10000000 && (inR p 0 m && inR t 0 (1000 * m)))
  · simp only [qdt]; omega
  · simp only [Bool.and_eq_true, qhx] at hh
    simp only [qdv]
    rw [Int.tdiv_eq_ediv_of_nonneg (Int.mul_nonneg ht hp)]
    apply Int.ediv_le_of_le_mul (by omega)
    calc t * p ≤ (1000 * m) * p := Int.mul_le_mul_of_nonneg_right h hp
      _ = 1000 * p * m := by rw [Int.mul_assoc, Int.mul_assoc, Int.mul_comm m p]
end Go.Proofs.YtoldpdhhfmlckaaGreat
end
section
namespace Go.Proofs.YtoldpdhhfmlckaaGreat
open Go.Ev
theorem qf7 (k : Nat) (a b c : Int) : go (k + 1) spec_ShareOut [(.int .i64 (a)), (.int .i64 (b)), (.int .i64 (c))] =
 (go k spec_l01In [(.int .i64 (c)), (.int .i64 ((1 : Int))), (.int .i64 ((10000000 : Int)))]).bind fun r0 =>
 cond (!bit (nth r0 0))
 (some [(.int .i64 (0 : Int))])
 ((go k spec_l01In [(.int .i64 (b)), (.int .i64 (0 : Int)), (.int .i64 (c))]).bind fun r1 =>
 cond (!bit (nth r1 0))
 (some [(.int .i64 (0 : Int))])
 ((go k spec_l01In [(.int .i64 (a)), (.int .i64 (0 : Int)), (.int .i64 (IntKind.wrap .i64 ((1000 : Int) * c)))]).bind fun r2 =>
 cond (!bit (nth r2 0))
 (some [(.int .i64 (0 : Int))])
 (cond (!decide (c = (0 : Int)))
 (some [(.int .i64 (IntKind.wrap .i64 (Int.tdiv (IntKind.wrap .i64 (a * b)) c)))])
 (none)))) := by kernel_rfl
end Go.Proofs.YtoldpdhhfmlckaaGreat
end
section
namespace Go.Proofs.YtoldpdhhfmlckaaGreat
open Go.Ev
theorem qcf (k : Nat) (hk : 2000000 ≤ k) (a : Int) (b : Int) (c : Int) : go (k + 2) spec_ShareOut [(.int .i64 (a)), (.int .i64 (b)), (.int .i64 (c))] = some [.int .i64 (qnr a b c)] := by
  rw [qf7]
  unfold qnr
  cases hm : inR c 1 10000000
  · simp (disch := omega) only [qco, hm, bit, qan, nth0, qor, Bool.not_false, qdv, Bool.false_and, qdt]
  cases hp : inR b 0 c
  · simp (disch := omega) only [qco, hm, bit, hp, qan, nth0, qor, Bool.not_false, qdv, Bool.not_true, qdt, Bool.false_and, Bool.and_false]
  have hm' := qhx.1 hm
  cases ht : inR a 0 (1000 * c)
  · simp (disch := omega) only [qco, hm, bit, hp, qpd, ht, dF, Bool.not_false, qdv, qan, nth0, qor, Bool.not_true, qdt, Bool.and_false]
  have q := qnu hm hp ht
  have q2 : 0 ≤ Int.tdiv (a * b) c ∧ Int.tdiv (a * b) c ≤ 100000000000000000 := by
    have := qop (x := a * b) (y := c) (B := 100000000000000000) (by omega) (by omega) (by omega)
    rw [Int.tdiv_eq_ediv_of_nonneg q.1] at *
    exact ⟨Int.ediv_nonneg q.1 (by omega), this.2⟩
  simp (disch := omega) only [qco, hm, bit, hp, qpd, ht, dF, Bool.not_false, qdv, qan, nth0, qor, Bool.not_true, qdt, Bool.and_true]
end Go.Proofs.YtoldpdhhfmlckaaGreat
end
section
namespace Go.Proofs.YtoldpdhhfmlckaaGreat
open Go.Ev
def qoh (g : Nat → Int) : Nat → Int
  | 0 => 0
  | n + 1 => qoh g n + g n
theorem qhz : ∀ (a b : List Int), isum (a ++ b) = isum a + isum b
  | [], b => by simp [isum]
  | x :: a, b => by simp only [List.cons_append, isum, qhz a b]; omega
section
variable {r : Int} {l : List Cell} {m t b : List Int}
end
end Go.Proofs.YtoldpdhhfmlckaaGreat
end
section
namespace Go.Proofs.YtoldpdhhfmlckaaGreat
open Go.Ev
theorem qeu (k : Nat) (a b c : Int) : go (k + 1) impl_ShareOut [(.int .i64 (a)), (.int .i64 (b)), (.int .i64 (c))] =
 (go k impl_within [(.int .i64 (c)), (.int .i64 ((1 : Int))), (.int .i64 ((10000000 : Int)))]).bind fun r0 =>
 cond (!bit (nth r0 0))
 (some [(.int .i64 (0 : Int))])
 ((go k impl_within [(.int .i64 (b)), (.int .i64 (0 : Int)), (.int .i64 (c))]).bind fun r1 =>
 cond (!bit (nth r1 0))
 (some [(.int .i64 (0 : Int))])
 ((go k impl_within [(.int .i64 (a)), (.int .i64 (0 : Int)), (.int .i64 (IntKind.wrap .i64 ((1000 : Int) * c)))]).bind fun r2 =>
 cond (!bit (nth r2 0))
 (some [(.int .i64 (0 : Int))])
 (cond (!decide (c = (0 : Int)))
 (some [(.int .i64 (IntKind.wrap .i64 (Int.tdiv (IntKind.wrap .i64 (a * b)) c)))])
 (none)))) := by kernel_rfl
end Go.Proofs.YtoldpdhhfmlckaaGreat
end
section
namespace Go.Proofs.YtoldpdhhfmlckaaGreat
open Go.Ev
set_option maxRecDepth 20000
theorem qa1 (k : Nat) (hk : 2000000 ≤ k) (a : Int) (b : Int) (c : Int) : go (k + 2) impl_ShareOut [(.int .i64 (a)), (.int .i64 (b)), (.int .i64 (c))] = some [.int .i64 (qnr a b c)] := by
  rw [qeu]
  unfold qnr
  cases hm : inR c 1 10000000
  · simp (disch := omega) only [qbu, hm, bit, qan, nth0, qor, Bool.not_false, qdv, Bool.false_and, qdt]
  cases hp : inR b 0 c
  · simp (disch := omega) only [qbu, hm, bit, hp, qan, nth0, qor, Bool.not_false, qdv, Bool.not_true, qdt, Bool.false_and, Bool.and_false]
  have hm' := qhx.1 hm
  cases ht : inR a 0 (1000 * c)
  · simp (disch := omega) only [qbu, hm, bit, hp, qpd, ht, dF, Bool.not_false, qdv, qan, nth0, qor, Bool.not_true, qdt, Bool.and_false]
  have q := qnu hm hp ht
  have q2 : 0 ≤ Int.tdiv (a * b) c ∧ Int.tdiv (a * b) c ≤ 100000000000000000 := by
    have := qop (x := a * b) (y := c) (B := 100000000000000000) (by omega) (by omega) (by omega)
    rw [Int.tdiv_eq_ediv_of_nonneg q.1] at *
    exact ⟨Int.ediv_nonneg q.1 (by omega), this.2⟩
  simp (disch := omega) only [qbu, hm, bit, hp, qpd, ht, dF, Bool.not_false, qdv, qan, nth0, qor, Bool.not_true, qdt, Bool.and_true]
end Go.Proofs.YtoldpdhhfmlckaaGreat
end
section
namespace Go.Proofs.YtoldpdhhfmlckaaGreat
open Go.Ev
set_option maxRecDepth 20000
def sh (G : Nat → Int) (i u : Nat) (x : Int) (j : Nat) : Int := if j = u then G u + x else if j = i then G i - x else G j
end Go.Proofs.YtoldpdhhfmlckaaGreat
end
section
namespace Go.Proofs.YtoldpdhhfmlckaaGreat
open Go.Ev
theorem qge (k : Nat) (v0 : Bool) (v1 : List Int) (v2 v3 : Int) : go (k + 1) spec_l01Byte [(.ptr true [(.arr false (v0) (.ints IntKind.u8 (v1))), (.int .i64 (v2)), (.int .i64 (v3))])] =
 cond (decide (v2 < nI (List.length v1)))
 (cond (decide ((0 : Int) ≤ v2) && decide (v2 < nI (List.length v1)))
 (some [(.int .i64 (bitN BinOp.and .i64 (IntKind.wrap .i64 (bitN BinOp.and .i64 (bitN BinOp.xor .i64 (Int.fdiv (IntKind.wrap .i64 (IntKind.wrap .i64 (v3 * (6364136223846793005 : Int)) + (1442695040888963407 : Int))) ((2 : Int) ^ shiftN .i64 (33 : Int))) (Int.fdiv (IntKind.wrap .i64 (IntKind.wrap .i64 (v3 * (6364136223846793005 : Int)) + (1442695040888963407 : Int))) ((2 : Int) ^ shiftN .i64 (45 : Int)))) (255 : Int) + IntKind.wrap .i64 (List.getD v1 (Int.toNat v2) (0 : Int)))) (255 : Int))), (.ptr true [(.arr false (v0) (.ints IntKind.u8 (v1))), (.int .i64 (IntKind.wrap .i64 (v2 + (1 : Int)))), (.int .i64 (IntKind.wrap .i64 (IntKind.wrap .i64 (v3 * (6364136223846793005 : Int)) + (1442695040888963407 : Int))))])])
 (none))
 (some [(.int .i64 (bitN BinOp.and .i64 (bitN BinOp.xor .i64 (Int.fdiv (IntKind.wrap .i64 (IntKind.wrap .i64 (v3 * (6364136223846793005 : Int)) + (1442695040888963407 : Int))) ((2 : Int) ^ shiftN .i64 (33 : Int))) (Int.fdiv (IntKind.wrap .i64 (IntKind.wrap .i64 (v3 * (6364136223846793005 : Int)) + (1442695040888963407 : Int))) ((2 : Int) ^ shiftN .i64 (45 : Int)))) (255 : Int))), (.ptr true [(.arr false (v0) (.ints IntKind.u8 (v1))), (.int .i64 (v2)), (.int .i64 (IntKind.wrap .i64 (IntKind.wrap .i64 (v3 * (6364136223846793005 : Int)) + (1442695040888963407 : Int))))])]) := by kernel_rfl
theorem qgd (k : Nat) (v0 : Bool) (v1 : List Int) (v2 v3 v4 : Int) : go (k + 1) spec_l01Below [(.ptr true [(.arr false (v0) (.ints IntKind.u8 (v1))), (.int .i64 (v2)), (.int .i64 (v3))]), (.int .i64 (v4))] =
 cond (decide (v4 ≤ (0 : Int)))
 (some [(.int .i64 (0 : Int)), (.ptr true [(.arr false (v0) (.ints IntKind.u8 (v1))), (.int .i64 (v2)), (.int .i64 (v3))])])
 (cond (decide (v4 ≤ (256 : Int)))
 ((go k spec_l01Byte [(.ptr true [(.arr false (v0) (.ints IntKind.u8 (v1))), (.int .i64 (v2)), (.int .i64 (v3))])]).bind fun r0 =>
 cond (!decide (v4 = (0 : Int)))
 (some [(.int .i64 (Int.tmod (D.toInt (nth r0 0)) v4)), (.ptr true [(.arr false (v0) (.ints IntKind.u8 (v1))), (.int .i64 (D.toInt (D.cell 1 (nth r0 1)))), (.int .i64 (D.toInt (D.cell 2 (nth r0 1))))])])
 (none))
 ((go k spec_l01Byte [(.ptr true [(.arr false (v0) (.ints IntKind.u8 (v1))), (.int .i64 (v2)), (.int .i64 (v3))])]).bind fun r1 =>
 (go k spec_l01Byte [(.ptr true [(.arr false (v0) (.ints IntKind.u8 (v1))), (.int .i64 (D.toInt (D.cell 1 (nth r1 1)))), (.int .i64 (D.toInt (D.cell 2 (nth r1 1))))])]).bind fun r2 =>
 (go k spec_l01Byte [(.ptr true [(.arr false (v0) (.ints IntKind.u8 (v1))), (.int .i64 (D.toInt (D.cell 1 (nth r2 1)))), (.int .i64 (D.toInt (D.cell 2 (nth r2 1))))])]).bind fun r3 =>
 (go k spec_l01Byte [(.ptr true [(.arr false (v0) (.ints IntKind.u8 (v1))), (.int .i64 (D.toInt (D.cell 1 (nth r3 1)))), (.int .i64 (D.toInt (D.cell 2 (nth r3 1))))])]).bind fun r4 =>
 cond (!decide (v4 = (0 : Int)))
 (some [(.int .i64 (Int.tmod (IntKind.wrap .i64 (IntKind.wrap .i64 (IntKind.wrap .i64 (IntKind.wrap .i64 (D.toInt (nth r1 0) * (16777216 : Int)) + IntKind.wrap .i64 (D.toInt (nth r2 0) * (65536 : Int))) + IntKind.wrap .i64 (D.toInt (nth r3 0) * (256 : Int))) + D.toInt (nth r4 0))) v4)), (.ptr true [(.arr false (v0) (.ints IntKind.u8 (v1))), (.int .i64 (D.toInt (D.cell 1 (nth r4 1)))), (.int .i64 (D.toInt (D.cell 2 (nth r4 1))))])])
 (none))) := by kernel_rfl
theorem qgg (k : Nat) (v0 : Bool) (v1 : List Int) (v2 v3 v4 : Int) : go (k + 1) spec_l01Once [(.ptr true [(.arr false (v0) (.ints IntKind.u8 (v1))), (.int .i64 (v2)), (.int .i64 (v3))]), (.int .i64 (v4))] =
 (go k spec_l01Below [(.ptr true [(.arr false (v0) (.ints IntKind.u8 (v1))), (.int .i64 (v2)), (.int .i64 (v3))]), (.int .i64 (v4))]).bind fun r0 =>
 some [(.bool (decide (D.toInt (nth r0 0) = (0 : Int)))), (.ptr true [(.arr false (v0) (.ints IntKind.u8 (v1))), (.int .i64 (D.toInt (D.cell 1 (nth r0 1)))), (.int .i64 (D.toInt (D.cell 2 (nth r0 1))))])] := by kernel_rfl
theorem qft (k : Nat) (a0 a1 a2 b : Int) : go (k + 1) spec_ChildOf [(.agg [(.int .i64 (a0)), (.int .i64 (a1)), (.int .i64 (a2))]), (.int .i64 (b))] =
 (go k spec_IdOk [(.agg [(.int .i64 (a0)), (.int .i64 (a1)), (.int .i64 (a2))])]).bind fun r0 =>
 cond (!bit (nth r0 0))
 (some [(.agg [(.int .i64 (0 : Int)), (.int .i64 (0 : Int)), (.int .i64 (0 : Int))]), (.bool (false))])
 (cond (decide (a1 = (4 : Int)))
 (some [(.agg [(.int .i64 (0 : Int)), (.int .i64 (0 : Int)), (.int .i64 (0 : Int))]), (.bool (false))])
 ((go k spec_l01In [(.int .i64 (b)), (.int .i64 (0 : Int)), (.int .i64 ((1 : Int)))]).bind fun r1 =>
 cond (!bit (nth r1 0))
 (some [(.agg [(.int .i64 (0 : Int)), (.int .i64 (0 : Int)), (.int .i64 (0 : Int))]), (.bool (false))])
 (some [(.agg [(.int .i64 (a0)), (.int .i64 (IntKind.wrap .i64 (a1 + (1 : Int)))), (.int .i64 (IntKind.wrap .i64 (IntKind.wrap .i64 ((2 : Int) * a2) + b)))]), (.bool (true))]))) := by kernel_rfl
def qnd (x0 x1 : Int) (z2 : Bool) (l3 : List Int) (x4 x5 : Int) (z6 : Bool) (l7 : List (Int × Int × Int)) (x8 x9 x10 : Int) : St := ⟨fill 44 [(0, (.ptr 1 (0) (0))), (2, (.int .i64 (x0))), (3, (.ptr 3 (0) (0))), (5, (.ptr 4 (0) (0))), (8, (.int .i64 (x1)))], [(.ptr 1 (0) (0)), (.ptr 3 (0) (0)), (.sl 0 none)], [(.arr false (z2) (.ints IntKind.u8 (l3))), (.box true [(.sl 0 none), (.int .i64 (x4)), (.int .i64 (x5))]), (.arr true (z6) (.r3 (l7))), (.box true [(.sl 2 none)]), (.box true [(.int .i64 (x8)), (.int .i64 (x9)), (.int .i64 (x10))])]⟩
theorem qgk (k : Nat) (v0 : Bool) (v1 : List Int) (v2 v3 v4 v5 v6 v7 : Int) (v8 : Bool) (v9 : List (Int × Int × Int)) : go (k + 1) spec_l04Root [(.ptr true [(.arr false (v0) (.ints IntKind.u8 (v1))), (.int .i64 (v2)), (.int .i64 (v3))]), (.agg [(.int .i64 (v4)), (.int .i64 (v5)), (.int .i64 (v6))]), (.int .i64 (v7)), (.ptr true [(.arr true (v8) (.r3 (v9)))])] =
 cond (decide (v5 = (4 : Int)))
 (cond (decide (List.length (v9 ++ [(v4, v5, v6)]) ≤ bigLen))
 (some [(.ptr true [(.arr false (v0) (.ints IntKind.u8 (v1))), (.int .i64 (v2)), (.int .i64 (v3))]), (.ptr true [(.arr true (v8 && decide (List.length (v9 ++ [(v4, v5, v6)]) = 0)) (.r3 (v9 ++ [(v4, v5, v6)])))])])
 (none))
 ((go k spec_l01Once [(.ptr true [(.arr false (v0) (.ints IntKind.u8 (v1))), (.int .i64 (v2)), (.int .i64 (v3))]), (.int .i64 (v7))]).bind fun r0 =>
 cond (!bit (nth r0 0))
 (cond (decide (List.length (v9 ++ [(v4, v5, v6)]) ≤ bigLen))
 (some [(.ptr true [(.arr false (v0) (.ints IntKind.u8 (v1))), (.int .i64 (D.toInt (D.cell 1 (nth r0 1)))), (.int .i64 (D.toInt (D.cell 2 (nth r0 1))))]), (.ptr true [(.arr true (v8 && decide (List.length (v9 ++ [(v4, v5, v6)]) = 0)) (.r3 (v9 ++ [(v4, v5, v6)])))])])
 (none))
 (lp k spec_l04Root [(.ptr true [(.arr false (v0) (.ints IntKind.u8 (v1))), (.int .i64 (v2)), (.int .i64 (v3))]), (.ptr true [(.arr true (v8) (.r3 (v9)))])] [] 4 k (qnd v7 (0 : Int) v0 v1 (D.toInt (D.cell 1 (nth r0 1))) (D.toInt (D.cell 2 (nth r0 1))) v8 v9 v4 v5 v6))) := by kernel_rfl
theorem qi7 (k n : Nat) (fu : List (Nat × Nat)) (v0 : Bool) (v1 : List Int) (v2 v3 : Int) (v8 : Bool) (v9 : List (Int × Int × Int)) (x0 x1 : Int) (z2 : Bool) (l3 : List Int) (x4 x5 : Int) (z6 : Bool) (l7 : List (Int × Int × Int)) (x8 x9 x10 : Int) : lp k spec_l04Root [(.ptr true [(.arr false (v0) (.ints IntKind.u8 (v1))), (.int .i64 (v2)), (.int .i64 (v3))]), (.ptr true [(.arr true (v8) (.r3 (v9)))])] fu 4 (n + 1) (qnd x0 x1 z2 l3 x4 x5 z6 l7 x8 x9 x10) =
 cond (decide (x1 < (2 : Int)))
 ((go k spec_ChildOf [(.agg [(.int .i64 (x8)), (.int .i64 (x9)), (.int .i64 (x10))]), (.int .i64 (x1))]).bind fun r0 =>
 (go k spec_l04Root [(.ptr true [(.arr false (z2) (.ints IntKind.u8 (l3))), (.int .i64 (x4)), (.int .i64 (x5))]), (.agg [(.int .i64 (D.toInt (D.cell 0 (nth r0 0)))), (.int .i64 (D.toInt (D.cell 1 (nth r0 0)))), (.int .i64 (D.toInt (D.cell 2 (nth r0 0))))]), (.int .i64 (IntKind.wrap .i64 (x0 + (1 : Int)))), (.ptr true [(.arr true (z6) (.r3 (l7)))])]).bind fun r1 =>
 lp k spec_l04Root [(.ptr true [(.arr false (v0) (.ints IntKind.u8 (v1))), (.int .i64 (v2)), (.int .i64 (v3))]), (.ptr true [(.arr true (v8) (.r3 (v9)))])] fu 4 n (qnd x0 (IntKind.wrap .i64 (x1 + (1 : Int))) z2 l3 (D.toInt (D.cell 1 (nth r1 0))) (D.toInt (D.cell 2 (nth r1 0))) (D.nil (D.cell 0 (nth r1 1))) (D.r3 (D.cell 0 (nth r1 1))) x8 x9 x10))
 (some [(.ptr true [(.arr false (z2) (.ints IntKind.u8 (l3))), (.int .i64 (x4)), (.int .i64 (x5))]), (.ptr true [(.arr true (z6) (.r3 (l7)))])]) := by kernel_rfl
def qnc (x0 : Int) (z1 : Bool) (l2 : List Int) (x3 x4 : Int) (z5 : Bool) (l6 : List (Int × Int × Int)) (x7 : Int) (z8 : Bool) (l9 : List (Int × Int × Int)) (x10 : Int) : St := ⟨fill 24 [(0, (.ptr 1 (0) (0))), (2, (.ptr 3 (0) (0))), (3, (.ptr 5 (0) (0))), (4, (.int .i64 (x0)))], [(.ptr 1 (0) (0)), (.sl 0 none)], [(.arr false (z1) (.ints IntKind.u8 (l2))), (.box true [(.sl 0 none), (.int .i64 (x3)), (.int .i64 (x4))]), (.arr true (z5) (.r3 (l6))), (.box true [(.int .i64 (x7)), (.sl 2 none)]), (.arr true (z8) (.r3 (l9))), (.box true [(.int .i64 (x10)), (.sl 4 none)])]⟩
theorem qgj (k : Nat) (v0 : Bool) (v1 : List Int) (v2 v3 : Int) : go (k + 1) spec_l04Mesh [(.ptr true [(.arr false (v0) (.ints IntKind.u8 (v1))), (.int .i64 (v2)), (.int .i64 (v3))])] =
 (go k spec_l01Below [(.ptr true [(.arr false (v0) (.ints IntKind.u8 (v1))), (.int .i64 (v2)), (.int .i64 (v3))]), (.int .i64 ((3 : Int)))]).bind fun r0 =>
 lp k spec_l04Mesh [(.ptr true [(.arr false (v0) (.ints IntKind.u8 (v1))), (.int .i64 (v2)), (.int .i64 (v3))])] [] 3 k (qnc (0 : Int) v0 v1 (D.toInt (D.cell 1 (nth r0 1))) (D.toInt (D.cell 2 (nth r0 1))) true ([]) (0 : Int) true ([]) (IntKind.wrap .i64 ((1 : Int) + D.toInt (nth r0 0)))) := by kernel_rfl
theorem qi6 (k n : Nat) (fu : List (Nat × Nat)) (v0 : Bool) (v1 : List Int) (v2 v3 x0 : Int) (z1 : Bool) (l2 : List Int) (x3 x4 : Int) (z5 : Bool) (l6 : List (Int × Int × Int)) (x7 : Int) (z8 : Bool) (l9 : List (Int × Int × Int)) (x10 : Int) : lp k spec_l04Mesh [(.ptr true [(.arr false (v0) (.ints IntKind.u8 (v1))), (.int .i64 (v2)), (.int .i64 (v3))])] fu 3 (n + 1) (qnc x0 z1 l2 x3 x4 z5 l6 x7 z8 l9 x10) =
 cond (decide (x0 < x10))
 ((go k spec_l01Below [(.ptr true [(.arr false (z1) (.ints IntKind.u8 (l2))), (.int .i64 (x3)), (.int .i64 (x4))]), (.int .i64 ((2 : Int)))]).bind fun r0 =>
 (go k spec_l04Root [(.ptr true [(.arr false (z1) (.ints IntKind.u8 (l2))), (.int .i64 (D.toInt (D.cell 1 (nth r0 1)))), (.int .i64 (D.toInt (D.cell 2 (nth r0 1))))]), (.agg [(.int .i64 (x0)), (.int .i64 (0 : Int)), (.int .i64 (0 : Int))]), (.int .i64 (IntKind.wrap .i64 ((1 : Int) + D.toInt (nth r0 0)))), (.ptr true [(.arr true (z8) (.r3 (l9)))])]).bind fun r1 =>
 lp k spec_l04Mesh [(.ptr true [(.arr false (v0) (.ints IntKind.u8 (v1))), (.int .i64 (v2)), (.int .i64 (v3))])] fu 3 n (qnc (IntKind.wrap .i64 (x0 + (1 : Int))) z1 l2 (D.toInt (D.cell 1 (nth r1 0))) (D.toInt (D.cell 2 (nth r1 0))) z5 l6 x7 (D.nil (D.cell 0 (nth r1 1))) (D.r3 (D.cell 0 (nth r1 1))) x10))
 (some [(.agg [(.int .i64 (x10)), (.arr true (z8) (.r3 (l9)))]), (.ptr true [(.arr false (z1) (.ints IntKind.u8 (l2))), (.int .i64 (x3)), (.int .i64 (x4))])]) := by kernel_rfl
def qmz (x0 : Int) (z1 : Bool) (l2 : List (Int × Int × Int)) (x3 : Int) (z4 : Bool) (l5 : List (Int × Int × Int)) (x6 : Int) : St := ⟨fill 23 [(2, (.ptr 1 (0) (0))), (3, (.ptr 3 (0) (0))), (4, (.int .i64 (x0)))], [], [(.arr true (z1) (.r3 (l2))), (.box true [(.int .i64 (x3)), (.sl 0 none)]), (.arr true (z4) (.r3 (l5))), (.box true [(.int .i64 (x6)), (.sl 2 none)])]⟩
theorem qfs (k : Nat) (a0 : Int) (a1z : Bool) (a1 : List (Int × Int × Int)) : go (k + 1) spec_Balance [(.agg [(.int .i64 (a0)), (.arr false (a1z) (.r3 (a1)))])] =
 (go k spec_l04Copy [(.agg [(.int .i64 (a0)), (.arr false (a1z) (.r3 (a1)))])]).bind fun r0 =>
 (go k spec_MeshOk [(.agg [(.int .i64 (a0)), (.arr false (a1z) (.r3 (a1)))])]).bind fun r1 =>
 cond (!bit (nth r1 0))
 (some [(.agg [(.int .i64 (D.toInt (D.cell 0 (nth r0 0)))), (.arr true (D.nil (D.cell 1 (nth r0 0))) (.r3 (D.r3 (D.cell 1 (nth r0 0)))))])])
 ((go k spec_l05First [(.agg [(.int .i64 (D.toInt (D.cell 0 (nth r0 0)))), (.arr false (D.nil (D.cell 1 (nth r0 0))) (.r3 (D.r3 (D.cell 1 (nth r0 0)))))])]).bind fun r2 =>
 lp k spec_Balance [] [] 5 k (qmz (D.toInt (nth r2 0)) true ([]) (0 : Int) (D.nil (D.cell 1 (nth r0 0))) (D.r3 (D.cell 1 (nth r0 0))) (D.toInt (D.cell 0 (nth r0 0))))) := by kernel_rfl
theorem qit (k n : Nat) (fu : List (Nat × Nat)) (x0 : Int) (z1 : Bool) (l2 : List (Int × Int × Int)) (x3 : Int) (z4 : Bool) (l5 : List (Int × Int × Int)) (x6 : Int) : lp k spec_Balance [] fu 5 (n + 1) (qmz x0 z1 l2 x3 z4 l5 x6) =
 cond (decide ((0 : Int) ≤ x0))
 ((go k spec_l05Coarser [(.agg [(.int .i64 (x6)), (.arr false (z4) (.r3 (l5)))]), (.int .i64 (x0))]).bind fun r0 =>
 (go k spec_l05Split [(.agg [(.int .i64 (x6)), (.arr false (z4) (.r3 (l5)))]), (.int .i64 (D.toInt (nth r0 0)))]).bind fun r1 =>
 (go k spec_l05First [(.agg [(.int .i64 (D.toInt (D.cell 0 (nth r1 0)))), (.arr false (D.nil (D.cell 1 (nth r1 0))) (.r3 (D.r3 (D.cell 1 (nth r1 0)))))])]).bind fun r2 =>
 lp k spec_Balance [] fu 5 n (qmz (D.toInt (nth r2 0)) z1 l2 x3 (D.nil (D.cell 1 (nth r1 0))) (D.r3 (D.cell 1 (nth r1 0))) (D.toInt (D.cell 0 (nth r1 0)))))
 (some [(.agg [(.int .i64 (x6)), (.arr true (z4) (.r3 (l5)))])]) := by kernel_rfl
theorem qgl (k : Nat) (a0 : Int) (a1z : Bool) (a1 : List (Int × Int × Int)) (b : Int) : go (k + 1) spec_l05Coarser [(.agg [(.int .i64 (a0)), (.arr false (a1z) (.r3 (a1)))]), (.int .i64 (b))] =
 cond (decide ((0 : Int) ≤ b) && decide (b < nI (List.length a1)))
 (cond (decide ((0 : Int) ≤ IntKind.wrap .i64 (b + (1 : Int))) && decide (IntKind.wrap .i64 (b + (1 : Int)) < nI (List.length a1)))
 (cond (decide (Prod.fst (Prod.snd (List.getD a1 (Int.toNat (IntKind.wrap .i64 (b + (1 : Int)))) zz3)) < Prod.fst (Prod.snd (List.getD a1 (Int.toNat b) zz3))))
 (some [(.int .i64 (IntKind.wrap .i64 (b + (1 : Int))))])
 (some [(.int .i64 (b))]))
 (none))
 (none) := by kernel_rfl
theorem qgp (k : Nat) (a0 : Int) (a1z : Bool) (a1 : List (Int × Int × Int)) (b : Int) : go (k + 1) spec_l05Split [(.agg [(.int .i64 (a0)), (.arr false (a1z) (.r3 (a1)))]), (.int .i64 (b))] =
 cond (decide ((0 : Int) ≤ b) && decide (b < nI (List.length a1)))
 ((go k spec_ChildOf [(.agg [(.int .i64 (Prod.fst (List.getD a1 (Int.toNat b) zz3))), (.int .i64 (Prod.fst (Prod.snd (List.getD a1 (Int.toNat b) zz3)))), (.int .i64 (Prod.snd (Prod.snd (List.getD a1 (Int.toNat b) zz3))))]), (.int .i64 (0 : Int))]).bind fun r0 =>
 cond (decide ((0 : Int) ≤ b) && decide (b < nI (List.length a1)))
 ((go k spec_ChildOf [(.agg [(.int .i64 (Prod.fst (List.getD a1 (Int.toNat b) zz3))), (.int .i64 (Prod.fst (Prod.snd (List.getD a1 (Int.toNat b) zz3)))), (.int .i64 (Prod.snd (Prod.snd (List.getD a1 (Int.toNat b) zz3))))]), (.int .i64 ((1 : Int)))]).bind fun r1 =>
 cond (decide ((0 : Int) ≤ (0 : Int)) && decide ((0 : Int) ≤ b) && decide (b ≤ nI (List.length a1)))
 (cond (decide (List.length ([] ++ List.take (Int.toNat b - Int.toNat (0 : Int)) (List.drop (0 + Int.toNat (0 : Int)) a1)) ≤ bigLen))
 (cond (decide (List.length ([] ++ List.take (Int.toNat b - Int.toNat (0 : Int)) (List.drop (0 + Int.toNat (0 : Int)) a1) ++ [(D.toInt (D.cell 0 (nth r0 0)), D.toInt (D.cell 1 (nth r0 0)), D.toInt (D.cell 2 (nth r0 0))), (D.toInt (D.cell 0 (nth r1 0)), D.toInt (D.cell 1 (nth r1 0)), D.toInt (D.cell 2 (nth r1 0)))]) ≤ bigLen))
 (cond (decide ((0 : Int) ≤ IntKind.wrap .i64 (b + (1 : Int))) && decide (IntKind.wrap .i64 (b + (1 : Int)) ≤ nI (List.length a1)) && decide (nI (List.length a1) ≤ nI (List.length a1)))
 (cond (decide (List.length ([] ++ List.take (Int.toNat b - Int.toNat (0 : Int)) (List.drop (0 + Int.toNat (0 : Int)) a1) ++ [(D.toInt (D.cell 0 (nth r0 0)), D.toInt (D.cell 1 (nth r0 0)), D.toInt (D.cell 2 (nth r0 0))), (D.toInt (D.cell 0 (nth r1 0)), D.toInt (D.cell 1 (nth r1 0)), D.toInt (D.cell 2 (nth r1 0)))] ++ List.take (Int.toNat (nI (List.length a1)) - Int.toNat (IntKind.wrap .i64 (b + (1 : Int)))) (List.drop (0 + Int.toNat (IntKind.wrap .i64 (b + (1 : Int)))) a1)) ≤ bigLen))
 (some [(.agg [(.int .i64 (a0)), (.arr true (false && decide (List.length ([] ++ List.take (Int.toNat b - Int.toNat (0 : Int)) (List.drop (0 + Int.toNat (0 : Int)) a1)) = 0) && decide (List.length ([] ++ List.take (Int.toNat b - Int.toNat (0 : Int)) (List.drop (0 + Int.toNat (0 : Int)) a1) ++ [(D.toInt (D.cell 0 (nth r0 0)), D.toInt (D.cell 1 (nth r0 0)), D.toInt (D.cell 2 (nth r0 0))), (D.toInt (D.cell 0 (nth r1 0)), D.toInt (D.cell 1 (nth r1 0)), D.toInt (D.cell 2 (nth r1 0)))]) = 0) && decide (List.length ([] ++ List.take (Int.toNat b - Int.toNat (0 : Int)) (List.drop (0 + Int.toNat (0 : Int)) a1) ++ [(D.toInt (D.cell 0 (nth r0 0)), D.toInt (D.cell 1 (nth r0 0)), D.toInt (D.cell 2 (nth r0 0))), (D.toInt (D.cell 0 (nth r1 0)), D.toInt (D.cell 1 (nth r1 0)), D.toInt (D.cell 2 (nth r1 0)))] ++ List.take (Int.toNat (nI (List.length a1)) - Int.toNat (IntKind.wrap .i64 (b + (1 : Int)))) (List.drop (0 + Int.toNat (IntKind.wrap .i64 (b + (1 : Int)))) a1)) = 0)) (.r3 ([] ++ List.take (Int.toNat b - Int.toNat (0 : Int)) (List.drop (0 + Int.toNat (0 : Int)) a1) ++ [(D.toInt (D.cell 0 (nth r0 0)), D.toInt (D.cell 1 (nth r0 0)), D.toInt (D.cell 2 (nth r0 0))), (D.toInt (D.cell 0 (nth r1 0)), D.toInt (D.cell 1 (nth r1 0)), D.toInt (D.cell 2 (nth r1 0)))] ++ List.take (Int.toNat (nI (List.length a1)) - Int.toNat (IntKind.wrap .i64 (b + (1 : Int)))) (List.drop (0 + Int.toNat (IntKind.wrap .i64 (b + (1 : Int)))) a1))))])])
 (none))
 (none))
 (none))
 (none))
 (none))
 (none))
 (none) := by kernel_rfl
theorem qgo (k : Nat) (v0 : Bool) (v1 : List Int) (v2 v3 : Int) : go (k + 1) spec_l05Mesh [(.ptr true [(.arr false (v0) (.ints IntKind.u8 (v1))), (.int .i64 (v2)), (.int .i64 (v3))])] =
 (go k spec_l04Mesh [(.ptr true [(.arr false (v0) (.ints IntKind.u8 (v1))), (.int .i64 (v2)), (.int .i64 (v3))])]).bind fun r0 =>
 (go k spec_Balance [(.agg [(.int .i64 (D.toInt (D.cell 0 (nth r0 0)))), (.arr false (D.nil (D.cell 1 (nth r0 0))) (.r3 (D.r3 (D.cell 1 (nth r0 0)))))])]).bind fun r1 =>
 some [(.agg [(.int .i64 (D.toInt (D.cell 0 (nth r1 0)))), (.arr true (D.nil (D.cell 1 (nth r1 0))) (.r3 (D.r3 (D.cell 1 (nth r1 0)))))]), (.ptr true [(.arr false (v0) (.ints IntKind.u8 (v1))), (.int .i64 (D.toInt (D.cell 1 (nth r0 1)))), (.int .i64 (D.toInt (D.cell 2 (nth r0 1))))])] := by kernel_rfl
def qnf (x0 : Int) (z1 : Bool) (l2 : List Int) (x3 x4 : Int) (z5 : Bool) (l6 : List (Int × Int × Int)) (z7 : Bool) (l8 : List Int) (z9 : Bool) (l10 : List Int) (z11 : Bool) (l12 : List Int) (x13 : Int) (z14 : Bool) (l15 : List (Int × Int × Int)) (x16 : Int) (z17 : Bool) (l18 : List Int) (z19 : Bool) (l20 : List Int) (z21 : Bool) (l22 : List Int) (x23 : Int) : St := ⟨fill 67 [(0, (.ptr 1 (0) (0))), (2, (.ptr 6 (0) (0))), (3, (.ptr 8 (0) (0))), (4, (.ptr 12 (0) (0))), (5, (.int .i64 (x0)))], [(.ptr 1 (0) (0)), (.sl 0 none)], [(.arr false (z1) (.ints IntKind.u8 (l2))), (.box true [(.sl 0 none), (.int .i64 (x3)), (.int .i64 (x4))]), (.arr true (z5) (.r3 (l6))), (.arr true (z7) (.ints .i64 (l8))), (.arr true (z9) (.ints .i64 (l10))), (.arr true (z11) (.ints .i64 (l12))), (.box true [(.int .i64 (x13)), (.sl 2 none), (.sl 3 none), (.sl 4 none), (.sl 5 none)]), (.arr true (z14) (.r3 (l15))), (.box true [(.int .i64 (x16)), (.sl 7 none)]), (.arr true (z17) (.ints .i64 (l18))), (.arr true (z19) (.ints .i64 (l20))), (.arr true (z21) (.ints .i64 (l22))), (.box true [(.int .i64 (x23)), (.sl 7 none), (.sl 9 none), (.sl 10 none), (.sl 11 none)])]⟩
def qng (x0 x1 : Int) (z2 : Bool) (l3 : List Int) (x4 x5 : Int) (z6 : Bool) (l7 : List (Int × Int × Int)) (z8 : Bool) (l9 : List Int) (z10 : Bool) (l11 : List Int) (z12 : Bool) (l13 : List Int) (x14 : Int) (z15 : Bool) (l16 : List (Int × Int × Int)) (x17 : Int) (z18 : Bool) (l19 : List Int) (z20 : Bool) (l21 : List Int) (z22 : Bool) (l23 : List Int) (x24 : Int) : St := ⟨fill 67 [(0, (.ptr 1 (0) (0))), (2, (.ptr 6 (0) (0))), (3, (.ptr 8 (0) (0))), (4, (.ptr 12 (0) (0))), (6, (.int .i64 (x0))), (7, (.int .i64 (x1)))], [(.ptr 1 (0) (0)), (.sl 0 none)], [(.arr false (z2) (.ints IntKind.u8 (l3))), (.box true [(.sl 0 none), (.int .i64 (x4)), (.int .i64 (x5))]), (.arr true (z6) (.r3 (l7))), (.arr true (z8) (.ints .i64 (l9))), (.arr true (z10) (.ints .i64 (l11))), (.arr true (z12) (.ints .i64 (l13))), (.box true [(.int .i64 (x14)), (.sl 2 none), (.sl 3 none), (.sl 4 none), (.sl 5 none)]), (.arr true (z15) (.r3 (l16))), (.box true [(.int .i64 (x17)), (.sl 7 none)]), (.arr true (z18) (.ints .i64 (l19))), (.arr true (z20) (.ints .i64 (l21))), (.arr true (z22) (.ints .i64 (l23))), (.box true [(.int .i64 (x24)), (.sl 7 none), (.sl 9 none), (.sl 10 none), (.sl 11 none)])]⟩
theorem qgt (k : Nat) (v0 : Bool) (v1 : List Int) (v2 v3 : Int) : go (k + 1) spec_l07State [(.ptr true [(.arr false (v0) (.ints IntKind.u8 (v1))), (.int .i64 (v2)), (.int .i64 (v3))])] =
 (go k spec_l05Mesh [(.ptr true [(.arr false (v0) (.ints IntKind.u8 (v1))), (.int .i64 (v2)), (.int .i64 (v3))])]).bind fun r0 =>
 lp k spec_l07State [(.ptr true [(.arr false (v0) (.ints IntKind.u8 (v1))), (.int .i64 (v2)), (.int .i64 (v3))])] [] 4 k (qnf (0 : Int) v0 v1 (D.toInt (D.cell 1 (nth r0 1))) (D.toInt (D.cell 2 (nth r0 1))) true ([]) true ([]) true ([]) true ([]) (0 : Int) (D.nil (D.cell 1 (nth r0 0))) (D.r3 (D.cell 1 (nth r0 0))) (D.toInt (D.cell 0 (nth r0 0))) true ([]) true ([]) true ([]) (D.toInt (D.cell 0 (nth r0 0)))) := by kernel_rfl
theorem qi9 (k n : Nat) (fu : List (Nat × Nat)) (v0 : Bool) (v1 : List Int) (v2 v3 x0 : Int) (z1 : Bool) (l2 : List Int) (x3 x4 : Int) (z5 : Bool) (l6 : List (Int × Int × Int)) (z7 : Bool) (l8 : List Int) (z9 : Bool) (l10 : List Int) (z11 : Bool) (l12 : List Int) (x13 : Int) (z14 : Bool) (l15 : List (Int × Int × Int)) (x16 : Int) (z17 : Bool) (l18 : List Int) (z19 : Bool) (l20 : List Int) (z21 : Bool) (l22 : List Int) (x23 : Int) : lp k spec_l07State [(.ptr true [(.arr false (v0) (.ints IntKind.u8 (v1))), (.int .i64 (v2)), (.int .i64 (v3))])] fu 4 (n + 1) (qnf x0 z1 l2 x3 x4 z5 l6 z7 l8 z9 l10 z11 l12 x13 z14 l15 x16 z17 l18 z19 l20 z21 l22 x23) =
 cond (decide (x0 < x16))
 ((go k spec_l01Below [(.ptr true [(.arr false (z1) (.ints IntKind.u8 (l2))), (.int .i64 (x3)), (.int .i64 (x4))]), (.int .i64 ((4 : Int)))]).bind fun r0 =>
 (go k spec_l01Below [(.ptr true [(.arr false (z1) (.ints IntKind.u8 (l2))), (.int .i64 (D.toInt (D.cell 1 (nth r0 1)))), (.int .i64 (D.toInt (D.cell 2 (nth r0 1))))]), (.int .i64 ((5000 : Int)))]).bind fun r1 =>
 cond (decide (List.length (l22 ++ [IntKind.wrap .i64 (D.toInt (nth r0 0) * D.toInt (nth r1 0))]) ≤ bigLen))
 (lp k spec_l07State [(.ptr true [(.arr false (v0) (.ints IntKind.u8 (v1))), (.int .i64 (v2)), (.int .i64 (v3))])] fu 4 n (qnf (IntKind.wrap .i64 (x0 + (1 : Int))) z1 l2 (D.toInt (D.cell 1 (nth r1 1))) (D.toInt (D.cell 2 (nth r1 1))) z5 l6 z7 l8 z9 l10 z11 l12 x13 z14 l15 x16 z17 l18 z19 l20 (z21 && decide (List.length (l22 ++ [IntKind.wrap .i64 (D.toInt (nth r0 0) * D.toInt (nth r1 0))]) = 0)) (l22 ++ [IntKind.wrap .i64 (D.toInt (nth r0 0) * D.toInt (nth r1 0))]) x23))
 (none))
 ((go k spec_l01Below [(.ptr true [(.arr false (z1) (.ints IntKind.u8 (l2))), (.int .i64 (x3)), (.int .i64 (x4))]), (.int .i64 ((20000 : Int)))]).bind fun r2 =>
 lp k spec_l07State [(.ptr true [(.arr false (v0) (.ints IntKind.u8 (v1))), (.int .i64 (v2)), (.int .i64 (v3))])] fu 9 k (qng (IntKind.wrap .i64 ((1 : Int) + D.toInt (nth r2 0))) (0 : Int) z1 l2 (D.toInt (D.cell 1 (nth r2 1))) (D.toInt (D.cell 2 (nth r2 1))) z5 l6 z7 l8 z9 l10 z11 l12 x13 z14 l15 x16 z17 l18 z19 l20 z21 l22 x23)) := by kernel_rfl
theorem qja (k n : Nat) (fu : List (Nat × Nat)) (v0 : Bool) (v1 : List Int) (v2 v3 x0 x1 : Int) (z2 : Bool) (l3 : List Int) (x4 x5 : Int) (z6 : Bool) (l7 : List (Int × Int × Int)) (z8 : Bool) (l9 : List Int) (z10 : Bool) (l11 : List Int) (z12 : Bool) (l13 : List Int) (x14 : Int) (z15 : Bool) (l16 : List (Int × Int × Int)) (x17 : Int) (z18 : Bool) (l19 : List Int) (z20 : Bool) (l21 : List Int) (z22 : Bool) (l23 : List Int) (x24 : Int) : lp k spec_l07State [(.ptr true [(.arr false (v0) (.ints IntKind.u8 (v1))), (.int .i64 (v2)), (.int .i64 (v3))])] fu 9 (n + 1) (qng x0 x1 z2 l3 x4 x5 z6 l7 z8 l9 z10 l11 z12 l13 x14 z15 l16 x17 z18 l19 z20 l21 z22 l23 x24) =
 cond (decide (x1 < nI (List.length l16)))
 ((go k spec_l01Below [(.ptr true [(.arr false (z2) (.ints IntKind.u8 (l3))), (.int .i64 (x4)), (.int .i64 (x5))]), (.int .i64 (x0))]).bind fun r0 =>
 (go k spec_l01Once [(.ptr true [(.arr false (z2) (.ints IntKind.u8 (l3))), (.int .i64 (D.toInt (D.cell 1 (nth r0 1)))), (.int .i64 (D.toInt (D.cell 2 (nth r0 1))))]), (.int .i64 ((6 : Int)))]).bind fun r1 =>
 cond (bit (nth r1 0))
 ((go k spec_l01Below [(.ptr true [(.arr false (z2) (.ints IntKind.u8 (l3))), (.int .i64 (D.toInt (D.cell 1 (nth r1 1)))), (.int .i64 (D.toInt (D.cell 2 (nth r1 1))))]), (.int .i64 ((3 : Int)))]).bind fun r2 =>
 cond (decide (List.length (l19 ++ [D.toInt (nth r2 0)]) ≤ bigLen))
 ((go k spec_l01Below [(.ptr true [(.arr false (z2) (.ints IntKind.u8 (l3))), (.int .i64 (D.toInt (D.cell 1 (nth r2 1)))), (.int .i64 (D.toInt (D.cell 2 (nth r2 1))))]), (.int .i64 ((200 : Int)))]).bind fun r3 =>
 (go k spec_l01Below [(.ptr true [(.arr false (z2) (.ints IntKind.u8 (l3))), (.int .i64 (D.toInt (D.cell 1 (nth r3 1)))), (.int .i64 (D.toInt (D.cell 2 (nth r3 1))))]), (.int .i64 (IntKind.wrap .i64 (D.toInt (nth r2 0) + (1 : Int))))]).bind fun r4 =>
 cond (decide (List.length (l21 ++ [IntKind.wrap .i64 (IntKind.wrap .i64 (D.toInt (nth r2 0) * D.toInt (nth r3 0)) + D.toInt (nth r4 0))]) ≤ bigLen))
 (lp k spec_l07State [(.ptr true [(.arr false (v0) (.ints IntKind.u8 (v1))), (.int .i64 (v2)), (.int .i64 (v3))])] fu 9 n (qng x0 (IntKind.wrap .i64 (x1 + (1 : Int))) z2 l3 (D.toInt (D.cell 1 (nth r4 1))) (D.toInt (D.cell 2 (nth r4 1))) z6 l7 z8 l9 z10 l11 z12 l13 x14 z15 l16 x17 (z18 && decide (List.length (l19 ++ [D.toInt (nth r2 0)]) = 0)) (l19 ++ [D.toInt (nth r2 0)]) (z20 && decide (List.length (l21 ++ [IntKind.wrap .i64 (IntKind.wrap .i64 (D.toInt (nth r2 0) * D.toInt (nth r3 0)) + D.toInt (nth r4 0))]) = 0)) (l21 ++ [IntKind.wrap .i64 (IntKind.wrap .i64 (D.toInt (nth r2 0) * D.toInt (nth r3 0)) + D.toInt (nth r4 0))]) z22 l23 x24))
 (none))
 (none))
 (cond (decide (List.length (l19 ++ [D.toInt (nth r0 0)]) ≤ bigLen))
 ((go k spec_l01Below [(.ptr true [(.arr false (z2) (.ints IntKind.u8 (l3))), (.int .i64 (D.toInt (D.cell 1 (nth r1 1)))), (.int .i64 (D.toInt (D.cell 2 (nth r1 1))))]), (.int .i64 ((200 : Int)))]).bind fun r5 =>
 (go k spec_l01Below [(.ptr true [(.arr false (z2) (.ints IntKind.u8 (l3))), (.int .i64 (D.toInt (D.cell 1 (nth r5 1)))), (.int .i64 (D.toInt (D.cell 2 (nth r5 1))))]), (.int .i64 (IntKind.wrap .i64 (D.toInt (nth r0 0) + (1 : Int))))]).bind fun r6 =>
 cond (decide (List.length (l21 ++ [IntKind.wrap .i64 (IntKind.wrap .i64 (D.toInt (nth r0 0) * D.toInt (nth r5 0)) + D.toInt (nth r6 0))]) ≤ bigLen))
 (lp k spec_l07State [(.ptr true [(.arr false (v0) (.ints IntKind.u8 (v1))), (.int .i64 (v2)), (.int .i64 (v3))])] fu 9 n (qng x0 (IntKind.wrap .i64 (x1 + (1 : Int))) z2 l3 (D.toInt (D.cell 1 (nth r6 1))) (D.toInt (D.cell 2 (nth r6 1))) z6 l7 z8 l9 z10 l11 z12 l13 x14 z15 l16 x17 (z18 && decide (List.length (l19 ++ [D.toInt (nth r0 0)]) = 0)) (l19 ++ [D.toInt (nth r0 0)]) (z20 && decide (List.length (l21 ++ [IntKind.wrap .i64 (IntKind.wrap .i64 (D.toInt (nth r0 0) * D.toInt (nth r5 0)) + D.toInt (nth r6 0))]) = 0)) (l21 ++ [IntKind.wrap .i64 (IntKind.wrap .i64 (D.toInt (nth r0 0) * D.toInt (nth r5 0)) + D.toInt (nth r6 0))]) z22 l23 x24))
 (none))
 (none)))
 (some [(.agg [(.int .i64 (x24)), (.arr true (z15) (.r3 (l16))), (.arr true (z18) (.ints .i64 (l19))), (.arr true (z20) (.ints .i64 (l21))), (.arr true (z22) (.ints .i64 (l23)))]), (.ptr true [(.arr false (z2) (.ints IntKind.u8 (l3))), (.int .i64 (x4)), (.int .i64 (x5))])]) := by kernel_rfl
def qm1 (x0 : Int) (z1 : Bool) (l2 : List Int) (x3 x4 : Int) (z5 : Bool) (l6 : List Int) : St := ⟨fill 19 [(3, (.ptr 1 (0) (0))), (4, (.sl 2 none)), (5, (.int .i64 (x0)))], [], [(.arr false (z1) (.ints IntKind.u8 (l2))), (.box true [(.sl 0 none), (.int .i64 (x3)), (.int .i64 (x4))]), (.arr true (z5) (.ints .i64 (l6)))]⟩
def qm2 (x0 x1 : Int) (z2 : Bool) (l3 : List Int) (z4 : Bool) (l5 : List Int) : St := ⟨fill 32 [(0, (.sl 0 none)), (3, (.int .i64 (x0))), (4, (.int .i64 (x1)))], [(.sl 0 none), .un, (.sl 1 none), .un, .un, .un, (.sl 0 none), .un, .un, .un, .un, .un, .un, .un, .un, .un, .un, .un, .un], [(.arr false (z2) (.ints IntKind.u8 (l3))), (.arr true (z4) (.ints .i64 (l5)))]⟩
theorem qfw (k : Nat) (az : Bool) (a : List Int) : go (k + 1) spec_DrawPlaces [(.arr false (az) (.ints IntKind.u8 (a)))] =
 lp k spec_DrawPlaces [] [] 7800003 k (qm2 (IntKind.wrap .i64 ((98231 : Int) + nI (List.length a))) (0 : Int) az a true ([])) := by kernel_rfl
theorem qiv (k n : Nat) (fu : List (Nat × Nat)) (x0 : Int) (z1 : Bool) (l2 : List Int) (x3 x4 : Int) (z5 : Bool) (l6 : List Int) : lp k spec_DrawPlaces [] fu 4 (n + 1) (qm1 x0 z1 l2 x3 x4 z5 l6) =
 cond (decide (x0 < (12 : Int)))
 ((go k spec_l01Below [(.ptr true [(.arr false (z1) (.ints IntKind.u8 (l2))), (.int .i64 (x3)), (.int .i64 (x4))]), (.int .i64 ((10000 : Int)))]).bind fun r0 =>
 cond (decide (List.length (l6 ++ [D.toInt (nth r0 0)]) ≤ bigLen))
 (lp k spec_DrawPlaces [] fu 4 n (qm1 (IntKind.wrap .i64 (x0 + (1 : Int))) z1 l2 (D.toInt (D.cell 1 (nth r0 1))) (D.toInt (D.cell 2 (nth r0 1))) (z5 && decide (List.length (l6 ++ [D.toInt (nth r0 0)]) = 0)) (l6 ++ [D.toInt (nth r0 0)])))
 (none))
 (some [(.arr true (z5) (.ints .i64 (l6)))]) := by kernel_rfl
theorem qiw (k n : Nat) (fu : List (Nat × Nat)) (x0 x1 : Int) (z2 : Bool) (l3 : List Int) (z4 : Bool) (l5 : List Int) : lp k spec_DrawPlaces [] fu 7800003 (n + 1) (qm2 x0 x1 z2 l3 z4 l5) =
 cond (decide (x1 < nI (List.length l3)))
 (cond (decide (x1 < (4000 : Int)))
 (cond (decide ((0 : Int) ≤ x1) && decide (x1 < nI (List.length l3)))
 (lp k spec_DrawPlaces [] fu 7800003 n (qm2 (bitN BinOp.and .i64 (IntKind.wrap .i64 (IntKind.wrap .i64 (IntKind.wrap .i64 (x0 * (131 : Int)) + IntKind.wrap .i64 (List.getD l3 (Int.toNat x1) (0 : Int))) + (7 : Int))) (1073741823 : Int)) (IntKind.wrap .i64 (x1 + (1 : Int))) z2 l3 z4 l5))
 (none))
 (lp k spec_DrawPlaces [] fu 4 k (qm1 (0 : Int) z2 l3 (0 : Int) x0 false ([]))))
 (lp k spec_DrawPlaces [] fu 4 k (qm1 (0 : Int) z2 l3 (0 : Int) x0 false ([]))) := by kernel_rfl
def qm3 (x0 x1 : Int) (z2 : Bool) (l3 : List Int) (z4 : Bool) (l5 : List (Int × Int × Int)) (z6 : Bool) (l7 : List Int) (z8 : Bool) (l9 : List Int) (z10 : Bool) (l11 : List Int) (x12 : Int) : St := ⟨fill 32 [(0, (.sl 0 none)), (3, (.int .i64 (x0))), (4, (.int .i64 (x1)))], [(.sl 0 none), .un, (.ptr 5 (0) (0)), (.sl 0 none), .un, .un], [(.arr false (z2) (.ints IntKind.u8 (l3))), (.arr true (z4) (.r3 (l5))), (.arr true (z6) (.ints .i64 (l7))), (.arr true (z8) (.ints .i64 (l9))), (.arr true (z10) (.ints .i64 (l11))), (.box true [(.int .i64 (x12)), (.sl 1 none), (.sl 2 none), (.sl 3 none), (.sl 4 none)])]⟩
theorem qfx (k : Nat) (az : Bool) (a : List Int) : go (k + 1) spec_DrawState [(.arr false (az) (.ints IntKind.u8 (a)))] =
 lp k spec_DrawState [] [] 7800003 k (qm3 (IntKind.wrap .i64 ((98231 : Int) + nI (List.length a))) (0 : Int) az a true ([]) true ([]) true ([]) true ([]) (0 : Int)) := by kernel_rfl
theorem qix (k n : Nat) (fu : List (Nat × Nat)) (x0 x1 : Int) (z2 : Bool) (l3 : List Int) (z4 : Bool) (l5 : List (Int × Int × Int)) (z6 : Bool) (l7 : List Int) (z8 : Bool) (l9 : List Int) (z10 : Bool) (l11 : List Int) (x12 : Int) : lp k spec_DrawState [] fu 7800003 (n + 1) (qm3 x0 x1 z2 l3 z4 l5 z6 l7 z8 l9 z10 l11 x12) =
 cond (decide (x1 < nI (List.length l3)))
 (cond (decide (x1 < (4000 : Int)))
 (cond (decide ((0 : Int) ≤ x1) && decide (x1 < nI (List.length l3)))
 (lp k spec_DrawState [] fu 7800003 n (qm3 (bitN BinOp.and .i64 (IntKind.wrap .i64 (IntKind.wrap .i64 (IntKind.wrap .i64 (x0 * (131 : Int)) + IntKind.wrap .i64 (List.getD l3 (Int.toNat x1) (0 : Int))) + (7 : Int))) (1073741823 : Int)) (IntKind.wrap .i64 (x1 + (1 : Int))) z2 l3 z4 l5 z6 l7 z8 l9 z10 l11 x12))
 (none))
 ((go k spec_l07State [(.ptr true [(.arr false (z2) (.ints IntKind.u8 (l3))), (.int .i64 (0 : Int)), (.int .i64 (x0))])]).bind fun r0 =>
 some [(.agg [(.int .i64 (D.toInt (D.cell 0 (nth r0 0)))), (.arr true (D.nil (D.cell 1 (nth r0 0))) (.r3 (D.r3 (D.cell 1 (nth r0 0))))), (.arr true (D.nil (D.cell 2 (nth r0 0))) (.ints .i64 (D.ints (D.cell 2 (nth r0 0))))), (.arr true (D.nil (D.cell 3 (nth r0 0))) (.ints .i64 (D.ints (D.cell 3 (nth r0 0))))), (.arr true (D.nil (D.cell 4 (nth r0 0))) (.ints .i64 (D.ints (D.cell 4 (nth r0 0)))))])]))
 ((go k spec_l07State [(.ptr true [(.arr false (z2) (.ints IntKind.u8 (l3))), (.int .i64 (0 : Int)), (.int .i64 (x0))])]).bind fun r1 =>
 some [(.agg [(.int .i64 (D.toInt (D.cell 0 (nth r1 0)))), (.arr true (D.nil (D.cell 1 (nth r1 0))) (.r3 (D.r3 (D.cell 1 (nth r1 0))))), (.arr true (D.nil (D.cell 2 (nth r1 0))) (.ints .i64 (D.ints (D.cell 2 (nth r1 0))))), (.arr true (D.nil (D.cell 3 (nth r1 0))) (.ints .i64 (D.ints (D.cell 3 (nth r1 0))))), (.arr true (D.nil (D.cell 4 (nth r1 0))) (.ints .i64 (D.ints (D.cell 4 (nth r1 0)))))])]) := by kernel_rfl

end Go.Proofs.YtoldpdhhfmlckaaGreat
end
section
namespace Go.Proofs.YtoldpdhhfmlckaaGreat
open Go.Ev
set_option maxRecDepth 20000
theorem qlw (o : Bool) (d0 : D) (l : List D) : (D.ptr o (d0 :: l)).cell 0 = d0 := Eq.trans rfl rfl
theorem qlx (o : Bool) (d0 d1 : D) (l : List D) : (D.ptr o (d0 :: d1 :: l)).cell 1 = d1 := Eq.trans rfl rfl
theorem qly (o : Bool) (d0 d1 d2 : D) (l : List D) : (D.ptr o (d0 :: d1 :: d2 :: l)).cell 2 = d2 := Eq.trans rfl rfl
theorem qao (x : Int) : 0 ≤ bitN .and .i64 x 255 ∧ bitN .and .i64 x 255 ≤ 255 := by
  have h : (BitVec.ofInt IntKind.i64.bits x &&& BitVec.ofInt IntKind.i64.bits 255).toNat ≤ 255 := by
    rw [BitVec.toNat_and]; exact Nat.le_trans Nat.and_le_right (by decide)
  show 0 ≤ IntKind.wrap .i64 _ ∧ IntKind.wrap .i64 _ ≤ 255
  rw [qpd (by omega) (by omega)]; omega
theorem qcn (k : Nat) (hk : 2000000 ≤ k) (z : Bool) (l : List Int) (i h : Int) (hl : (l.length : Int) ≤ 1048576) (h0 : 0 ≤ i) (h1 : i ≤ l.length) : ∃ v i' h' : Int, go (k + 1) spec_l01Byte [.ptr true [.arr false (z) (.ints .u8 (l)), .int .i64 (i), .int .i64 (h)]] = some [.int .i64 v, .ptr true [.arr false (z) (.ints .u8 (l)), .int .i64 (i'), .int .i64 (h')]] ∧ (0 ≤ v ∧ v ≤ 255) ∧ 0 ≤ i' ∧ i' ≤ l.length := by
  have e := qge (k + 0) z l i h
  by_cases g : i < l.length
  · simp (disch := omega) only [nI, dT, Bool.and_true, qpd, qdv] at e; exact ⟨_, _, _, e, qao _, by omega, by omega⟩
  · simp (disch := omega) only [nI, dF, dT, Bool.and_false, qpd, qdt] at e; exact ⟨_, _, _, e, qao _, by omega, by omega⟩
theorem qoq {v b : Int} (h : 0 ≤ v) (hb : 1 ≤ b) : 0 ≤ Int.tmod v b ∧ Int.tmod v b < b := ⟨Int.tmod_nonneg b h, Int.tmod_lt_of_pos v (by omega)⟩
theorem qcm (k : Nat) (hk : 2000000 ≤ k) (z : Bool) (l : List Int) (i h b : Int) (hl : (l.length : Int) ≤ 1048576) (h0 : 0 ≤ i) (h1 : i ≤ l.length) (hb : 1 ≤ b) (hb' : b ≤ 1000000) : ∃ v i' h' : Int, go (k + 2) spec_l01Below [.ptr true [.arr false (z) (.ints .u8 (l)), .int .i64 (i), .int .i64 (h)], .int .i64 b] = some [.int .i64 v, .ptr true [.arr false (z) (.ints .u8 (l)), .int .i64 (i'), .int .i64 (h')]] ∧ (0 ≤ v ∧ v < b) ∧ 0 ≤ i' ∧ i' ≤ l.length := by
  have e := qgd (k + 1) z l i h b
  obtain ⟨v1, i1, k1, e1, b1, q1, r1⟩ := qcn k (by omega) z l i h hl h0 h1
  by_cases g : b ≤ 256
  · simp (disch := omega) only [dF, dT, e1, Bool.not_false, qdv, qan, nth0, qos, nth1, qlx, qly, qpd, qdt] at e
    exact ⟨_, _, _, e, qoq b1.1 hb, q1, r1⟩
  · obtain ⟨v2, i2, k2, e2, b2, q2, r2⟩ := qcn k (by omega) z l i1 k1 hl q1 r1
    obtain ⟨v3, i3, k3, e3, b3, q3, r3⟩ := qcn k (by omega) z l i2 k2 hl q2 r2
    obtain ⟨v4, i4, k4, e4, b4, q4, r4⟩ := qcn k (by omega) z l i3 k3 hl q3 r3
    simp (disch := omega) only [dF, e1, Bool.not_false, qdv, qan, nth0, qos, nth1, qlx, qly, e2, qpd, e3, e4, qdt] at e
    exact ⟨_, _, _, e, qoq (by omega) hb, q4, r4⟩
theorem qcp (k : Nat) (hk : 2000000 ≤ k) (z : Bool) (l : List Int) (i h b : Int) (hl : (l.length : Int) ≤ 1048576) (h0 : 0 ≤ i) (h1 : i ≤ l.length) (hb : 1 ≤ b) (hb' : b ≤ 1000000) : ∃ (v : Bool) (i' h' : Int), go (k + 3) spec_l01Once [.ptr true [.arr false (z) (.ints .u8 (l)), .int .i64 (i), .int .i64 (h)], .int .i64 b] = some [.bool v, .ptr true [.arr false (z) (.ints .u8 (l)), .int .i64 (i'), .int .i64 (h')]] ∧ 0 ≤ i' ∧ i' ≤ l.length := by
  have e := qgg (k + 2) z l i h b
  obtain ⟨v1, i1, k1, e1, b1, q1, r1⟩ := qcm k (by omega) z l i h b hl h0 h1 hb hb'
  simp (disch := omega) only [e1, qan, nth0, qos, nth1, qlx, qly] at e
  exact ⟨_, _, _, e, q1, r1⟩
theorem qb3 (k : Nat) (hk : 2000000 ≤ k) (r v ix b : Int) (hid : idOk r v ix = true) (hv : v < 4) (hb : b = 0 ∨ b = 1) : go (k + 3) spec_ChildOf [.agg [.int .i64 r, .int .i64 v, .int .i64 ix], .int .i64 b] = some [.agg [.int .i64 r, .int .i64 (v + 1), .int .i64 (2 * ix + b)], .bool true] := by
  rw [qft]
  have h := qhv.1 hid
  have hp : pow2 v ≤ 16 := by
    rcases lev (qhx.2 h.2.1) with rfl | rfl | rfl | rfl | rfl <;> decide
  have hi : inR b 0 1 = true := qhx.2 (by omega)
  simp (disch := omega) only [qb9, hid, bit, dF, qco, hi, qpd, qan, nth0, qor, Bool.not_true, qdt]
def qad (K : Nat) (z : Bool) (l : List Int) (v : Int) (N : Nat) : Prop := ∀ (r ix c i h : Int) (q : Bool) (out : List Cell), idOk r v ix = true → 1 ≤ c → c ≤ 90 + v → 0 ≤ i → i ≤ l.length → out.length + N ≤ 4096 →
    ∃ (new : List Cell) (i' h' : Int), go K spec_l04Root [.ptr true [.arr false (z) (.ints .u8 (l)), .int .i64 (i), .int .i64 (h)], .agg [.int .i64 r, .int .i64 v, .int .i64 ix], .int .i64 c, .ptr true [.arr true q (.r3 out)]] = some [.ptr true [.arr false (z) (.ints .u8 (l)), .int .i64 (i'), .int .i64 (h')], .ptr true [.arr true false (.r3 (out ++ new))]] ∧ (0 ≤ i' ∧ i' ≤ l.length) ∧ (1 ≤ new.length ∧ new.length ≤ N) ∧ okp (qob r v ix) new = true ∧ endp (qob r v ix) new = qob r v ix + qo6 v
theorem qmg {r v ix : Int} (hid : idOk r v ix = true) : okp (qob r v ix) [(r, v, ix)] = true ∧ endp (qob r v ix) [(r, v, ix)] = qob r v ix + qo6 v :=
  ⟨qlr.2 ⟨hid, rfl, rfl⟩, rfl⟩
theorem qmf (k : Nat) (hk : 2000000 ≤ k) (z : Bool) (l : List Int) (hl : (l.length : Int) ≤ 1048576) : qad (k + 4) z l 4 1 := by
  intro r ix c i h q out hid hc hc' h0 h1 ho
  have e := qgk (k + 3) z l i h r 4 ix c q out
  have lo : (out ++ [(r, (4 : Int), ix)]).length = out.length + 1 := by simp
  simp (disch := omega) only [dTT, big0, dT, dF, Bool.and_false, qdv, bit] at e
  exact ⟨[(r, 4, ix)], i, h, e, ⟨h0, h1⟩, by simp, qmg hid⟩
theorem qmh (k : Nat) (hk : 2000000 ≤ k) (z : Bool) (l : List Int) (hl : (l.length : Int) ≤ 1048576) (v : Int) (h0v : 0 ≤ v) (hv : v < 4) (N : Nat) (hN : 1 ≤ N) (H : qad (k + 4) z l (v + 1) N) : qad (k + 4 + 1) z l v (2 * N) := by
  intro r ix c i h q out hid hc hc' h0 h1 ho
  have e := qgk (k + 4) z l i h r v ix c q out
  have lo : (out ++ [(r, v, ix)]).length = out.length + 1 := by simp
  obtain ⟨b, i1, k1, e1, q1, r1⟩ := qcp (k + 1) (by omega) z l i h c hl h0 h1 hc (by omega)
  cases b
  · simp (disch := omega) only [dF, big0, dT, Bool.and_false, qdv, e1, bit, qan, nth0, qor, Bool.not_false, nth1, qlx, qos, qly, qdt] at e
    exact ⟨[(r, v, ix)], i1, k1, e, ⟨q1, r1⟩, ⟨by simp, by simp; omega⟩, qmg hid⟩
  · simp (disch := omega) only [dF, big0, dT, Bool.and_false, qdv, e1, bit, qan, nth0, qor, Bool.not_true, nth1, qlx, qos, qly, qdt] at e
    have ch := qdn hid hv
    obtain ⟨n1, i2, k2, e2, p2, s2, o2, d2⟩ := H r (2 * ix) (c + 1) i1 k1 q out ch.1 (by omega) (by omega) q1 r1 (by omega)
    have l2 : (out ++ n1).length = out.length + n1.length := List.length_append ..
    obtain ⟨n2, i3, k3, e3, p3, s3, o3, d3⟩ := H r (2 * ix + 1) (c + 1) i2 k2 false (out ++ n1) ch.2.1 (by omega) (by omega) p2.1 p2.2 (by omega)
    have cA := qb3 (k + 1) (by omega) r v ix 0 hid hv (Or.inl rfl)
    have cB := qb3 (k + 1) (by omega) r v ix 1 hid hv (Or.inr rfl)
    rw [Int.add_zero] at cA
    have f0 := qi7 (k + 4) (k + 3) [] z l i h q out c 0 z l i1 k1 q out r v ix
    have f1 := qi7 (k + 4) (k + 2) [] z l i h q out c 1 z l i2 k2 false (out ++ n1) r v ix
    have f2 := qi7 (k + 4) (k + 1) [] z l i h q out c 2 z l i3 k3 false (out ++ n1 ++ n2) r v ix
    have w1 : IntKind.wrap .i64 (c + 1) = c + 1 := qpd (by omega) (by omega)
    have w2 : IntKind.wrap .i64 ((0 : Int) + 1) = 1 := by rw [qpd (by omega) (by omega)]; rfl
    have w3 : IntKind.wrap .i64 ((1 : Int) + 1) = 2 := by rw [qpd (by omega) (by omega)]; rfl
    simp (disch := omega) only [dF, qpd, qdt] at f2
    simp (disch := omega) only [dT, cB, w1, w3, qan, nth0, qdi, qos, qdj, qdk, e3, qlx, qly, nth1, qlw, qln, qlz, f2, qdv] at f1
    simp (disch := omega) only [dT, cA, w1, w2, qan, nth0, qdi, qos, qdj, qdk, e2, qlx, qly, nth1, qlw, qln, qlz, f1, qdv] at f0
    rw [f0, List.append_assoc] at e
    refine ⟨n1 ++ n2, i3, k3, e, p3, ?_, ?_, ?_⟩
    · rw [List.length_append]; omega
    · rw [qlq, Bool.and_eq_true]
      rw [ch.2.2.1] at o2 d2
      rw [ch.2.2.2.1] at o3
      exact ⟨o2, by rw [d2]; exact o3⟩
    · rw [qhd]
      rw [ch.2.2.1] at d2
      rw [ch.2.2.2.1] at d3
      rw [d2, d3, Int.add_assoc, ch.2.2.2.2]
theorem qct (k : Nat) (hk : 2000000 ≤ k) (z : Bool) (l : List Int) (hl : (l.length : Int) ≤ 1048576) : qad (k + 8) z l 0 16 :=
  qmh (k + 3) (by omega) z l hl 0 (by omega) (by omega) 8 (by omega) (qmh (k + 2) (by omega) z l hl 1 (by omega) (by omega) 4 (by omega) (qmh (k + 1) (by omega) z l hl 2 (by omega) (by omega) 2 (by omega) (qmh k hk z l hl 3 (by omega) (by omega) 1 (by omega) (qmf k hk z l hl))))
end Go.Proofs.YtoldpdhhfmlckaaGreat
end
section
namespace Go.Proofs.YtoldpdhhfmlckaaGreat
open Go.Ev
set_option maxRecDepth 20000
theorem qko (k : Nat) (hk : 2000000 ≤ k) (fu : List (Nat × Nat)) (v0 : Bool) (v1 : List Int) (v2 v3 : Int) (z : Bool) (l : List Int) (hl : (l.length : Int) ≤ 1048576) (z5 : Bool) (l6 : List Cell) (x7 : Int) (R : Nat) (hR : 1 ≤ R) (hR' : R ≤ 3) : ∀ (n t : Nat) (i h : Int) (q : Bool) (out : List Cell), t ≤ R → R - t < n → 0 ≤ i → i ≤ l.length → (q = false ∨ t = 0) → out.length ≤ 16 * t → okp 0 out = true → endp 0 out = 16 * t →
    ∃ (out' : List Cell) (i' h' : Int), lp (k + 8) spec_l04Mesh [(.ptr true [(.arr false (v0) (.ints IntKind.u8 (v1))), (.int .i64 (v2)), (.int .i64 (v3))])] fu 3 (n) (qnc (t : Int) z l i h z5 l6 x7 q out (R : Int)) = some [.agg [.int .i64 (R : Int), .arr true false (.r3 out')], .ptr true [.arr false (z) (.ints .u8 (l)), .int .i64 (i'), .int .i64 (h')]] ∧ (0 ≤ i' ∧ i' ≤ l.length) ∧ qla R 0 out' = true
  | 0, t, i, h, q, out, ht, hn, h0, h1, hq, ho, o, d => by omega
  | n + 1, t, i, h, q, out, ht, hn, h0, h1, hq, ho, o, d => by
    have e := qi6 (k + 8) n fu v0 v1 v2 v3 (t : Int) z l i h z5 l6 x7 q out (R : Int)
    by_cases g : t < R
    · obtain ⟨v, i1, k1, e1, b1, q1, r1⟩ := qcm (k + 6) (by omega) z l i h 2 hl h0 h1 (by omega) (by omega)
      have id : idOk (t : Int) 0 0 = true := qhv.2 ⟨by omega, by omega, by omega, by decide⟩
      obtain ⟨n1, i2, k2, e2, p2, s2, o2, d2⟩ := qct k (by omega) z l hl (t : Int) 0 (1 + v) i1 k1 q out id (by omega) (by omega) q1 r1 (by omega)
      have st : qob (t : Int) 0 0 = 16 * t := by rw [qod id]; omega
      rw [st] at o2 d2
      have lo : (out ++ n1).length = out.length + n1.length := List.length_append ..
      obtain ⟨out', i', h', e3, p3, o3⟩ := qko k hk fu v0 v1 v2 v3 z l hl z5 l6 x7 R hR hR' n (t + 1) i2 k2 false (out ++ n1) (by omega) (by omega) p2.1 p2.2 (Or.inl rfl) (by omega) (by rw [qlq, d, Bool.and_eq_true]; exact ⟨o, o2⟩) (by rw [qhd, d, d2, w0]; omega)
      simp (disch := omega) only [dT, e1, qdg, qpd, qan, nth1, qlx, qos, qly, nth0, e2, qlw, qln, qlz, e3, qdv] at e
      exact ⟨out', i', h', e, p3, o3⟩
    · have : t = R := by omega
      subst this
      rcases hq with rfl | h
      · simp (disch := omega) only [dF, qdg, qpd, qdt] at e
        exact ⟨out, i, h, e, ⟨h0, h1⟩, qlc.2 ⟨o, by omega, by rw [d]; omega⟩⟩
      · omega
theorem qcs (k : Nat) (hk : 2000000 ≤ k) (z : Bool) (l : List Int) (i h : Int) (hl : (l.length : Int) ≤ 1048576) (h0 : 0 ≤ i) (h1 : i ≤ l.length) :
    ∃ (r : Int) (out : List Cell) (i' h' : Int), go (k + 9) spec_l04Mesh [.ptr true [.arr false (z) (.ints .u8 (l)), .int .i64 (i), .int .i64 (h)]] = some [.agg [.int .i64 r, .arr true false (.r3 out)], .ptr true [.arr false (z) (.ints .u8 (l)), .int .i64 (i'), .int .i64 (h')]] ∧ (0 ≤ i' ∧ i' ≤ l.length) ∧ qla r 0 out = true ∧ r ≤ 3 := by
  have e := qgj (k + 8) z l i h
  obtain ⟨v, i1, k1, e1, b1, q1, r1⟩ := qcm (k + 6) (by omega) z l i h 3 hl h0 h1 (by omega) (by omega)
  obtain ⟨w, rfl⟩ : ∃ w : Nat, v = (w : Int) := ⟨v.toNat, by omega⟩
  obtain ⟨out, i2, k2, e2, p2, o2⟩ := qko k hk [] z l i h z l hl true [] 0 (1 + w) (by omega) (by omega) (k + 8) 0 i1 k1 true [] (by omega) (by omega) q1 r1 (Or.inr rfl) (by simp) rfl rfl
  rw [show ((1 + w : Nat) : Int) = 1 + (w : Int) by omega, show ((0 : Nat) : Int) = 0 from rfl] at e2
  rw [show ((1 + w : Nat) : Int) = 1 + (w : Int) by omega] at o2
  simp (disch := omega) only [e1, qan, nth1, qlx, qos, qly, nth0, qpd, e2] at e
  exact ⟨_, _, _, _, e, p2, o2, by omega⟩
theorem qcu (k : Nat) (hk : 2000000 ≤ k) (a0 : Int) (a1z : Bool) (a1 : List Cell) (i : Nat) (hl : (a1.length : Int) ≤ 1048576) (hi : i + 1 < a1.length) : go (k + 1) spec_l05Coarser [.agg [.int .i64 a0, .arr false a1z (.r3 a1)], .int .i64 (i : Int)] = some [.int .i64 ((qdq a1 i : Nat) : Int)] := by
  rw [qgl]
  unfold qdq
  simp (disch := omega) only [dT, nI, Bool.and_true, qdg, qpd, Int.toNat_natCast, qdv]
  by_cases g : qjk a1 (i + 1) < qjk a1 i
  · rw [if_pos g]; simp only [qjk] at g; simp (disch := omega) only [dT, qdv]
  · rw [if_neg g]; simp only [qjk] at g; simp (disch := omega) only [dF, qdt]
theorem qoo {α : Type} (l : List α) (i : Nat) : List.take (l.length - i) (List.drop i l) = l.drop i := by
  apply List.take_of_length_le; rw [List.length_drop]; omega
theorem ton0 : Int.toNat 0 = 0 := Eq.trans rfl rfl
theorem qcy (k : Nat) (hk : 2000000 ≤ k) (a0 : Int) (a1z : Bool) (a1 : List Cell) (i : Nat) (hl : (a1.length : Int) ≤ 1000000) (hi : i < a1.length) (hid : idOk (a1.getD i zz3).1 (a1.getD i zz3).2.1 (a1.getD i zz3).2.2 = true) (hv : (a1.getD i zz3).2.1 < 4) : go (k + 4) spec_l05Split [.agg [.int .i64 a0, .arr false a1z (.r3 a1)], .int .i64 (i : Int)] = some [.agg [.int .i64 a0, .arr true false (.r3 (qn3 a1 i))]] := by
  rw [qgp]
  have cA := qb3 k (by omega) _ _ _ 0 hid hv (Or.inl rfl)
  have cB := qb3 k (by omega) _ _ _ 1 hid hv (Or.inr rfl)
  rw [Int.add_zero] at cA
  have l1 : (a1.take i).length = i := by rw [List.length_take]; omega
  have l2 : ∀ x y : Cell, (a1.take i ++ [x, y]).length = i + 2 := fun x y => by rw [List.length_append, l1]; rfl
  have l3 : ∀ x y : Cell, (a1.take i ++ [x, y] ++ a1.drop (i + 1)).length = a1.length + 1 := fun x y => by rw [List.length_append, l2, List.length_drop]; omega
  simp (disch := omega) only [dT, nI, Bool.and_true, Int.toNat_natCast, cA, cB, ton0, Nat.sub_zero, Nat.zero_add, List.drop_zero, qlm, l1, big0, l2, qdg, qpd, qoo, l3, Bool.false_and, dF, Bool.and_false, qdv, qan, nth0, qdi, qos, qdj, qdk]
  rw [List.append_assoc]; rfl
theorem qj9 (k : Nat) (hk : 2000000 ≤ k) (fu : List (Nat × Nat)) (z1 : Bool) (l2 : List Cell) (x3 r : Int) : ∀ (N n : Nat) (l : List Cell), N < n → qla r 0 l = true → 129 ≤ N + l.length →
    lp (k + 5) spec_Balance [] fu 5 (n) (qmz (unb l) z1 l2 x3 false l r) = some [.agg [.int .i64 r, .arr true false (.r3 (balN N l))]]
  | N, 0, l, hn, h, hN => by omega
  | 0, n + 1, l, hn, h, hN => by have := qlf h; omega
  | N + 1, n + 1, l, hn, h, hN => by
    have ml := qlf h
    have e := qit (k + 5) n fu (unb l) z1 l2 x3 false l r
    unfold balN
    by_cases g : unb l < 0
    · rw [if_pos g]; simp (disch := omega) only [dF, qdt] at e; exact e
    · rw [if_neg g]
      obtain ⟨j, ej, h1, h2⟩ := qo3 (by omega : 0 ≤ unb l)
      have c := qdr h h1 h2
      have sm := qn6 h c.1 c.2
      have sl := qn4 c.1
      have id := ((qle _ _ _ h).2.2.2.1 _ c.1).2.2
      have IH := qj9 k hk fu z1 l2 x3 r N n _ (by omega) sm (by omega)
      rw [ej, Int.toNat_natCast]
      rw [ej] at e
      have mv := qlg _ _ _ sm
      have mm := qlf sm
      simp (disch := omega) only [dT, qcu, qan, nth0, qos, qdv] at e
      rw [qcy (k + 1) (by omega) _ _ _ _ (by omega) c.1 id c.2] at e
      simp (disch := omega) only [qan, nth0, qdi, qos, qdj, qln, qlz] at e
      rw [qcw (k + 4) (by omega) _ _ _ (by omega) mv] at e
      simp (disch := omega) only [qan, nth0, qos, IH] at e
      exact e
theorem qb2 (k : Nat) (hk : 2000000 ≤ k) (a0 : Int) (a1z : Bool) (a1 : List Cell) (h : qla a0 0 a1 = true) : go (k + 6) spec_Balance [.agg [.int .i64 a0, .arr false a1z (.r3 a1)]] = some [.agg [.int .i64 a0, .arr true false (.r3 (bal a1))]] := by
  rw [qfs]
  have ml := qlf h
  have mv := qlg _ _ _ h
  simp (disch := omega) only [qcq, qcd, h, bit, qan, nth0, qor, Bool.not_true, qdt, qdi, qos, qdj, qln, qlz]
  rw [qcw (k + 4) (by omega) _ _ _ (by omega) mv]
  simp (disch := omega) only [qan, nth0, qos]
  exact qj9 k hk [] true [] 0 a0 _ _ a1 (by omega) h (by omega)
theorem qcx (k : Nat) (hk : 2000000 ≤ k) (z : Bool) (l : List Int) (i h : Int) (hl : (l.length : Int) ≤ 1048576) (h0 : 0 ≤ i) (h1 : i ≤ l.length) :
    ∃ (r : Int) (out : List Cell) (i' h' : Int), go (k + 10) spec_l05Mesh [.ptr true [.arr false (z) (.ints .u8 (l)), .int .i64 (i), .int .i64 (h)]] = some [.agg [.int .i64 r, .arr true false (.r3 out)], .ptr true [.arr false (z) (.ints .u8 (l)), .int .i64 (i'), .int .i64 (h')]] ∧ (0 ≤ i' ∧ i' ≤ l.length) ∧ qla r 0 out = true ∧ unb out < 0 ∧ r ≤ 3 := by
  have e := qgo (k + 9) z l i h
  obtain ⟨r, out, i1, k1, e1, q1, m1, r1⟩ := qcs k (by omega) z l i h hl h0 h1
  have e2 := qb2 (k + 3) (by omega) r false out m1
  simp (disch := omega) only [e1, qan, nth0, qdi, qos, qdj, qln, qlz, e2, nth1, qlx, qly] at e
  exact ⟨_, _, _, _, e, q1, (qaj m1).1, (qaj m1).2, r1⟩
end Go.Proofs.YtoldpdhhfmlckaaGreat
end
section
namespace Go.Proofs.YtoldpdhhfmlckaaGreat
open Go.Ev
set_option maxRecDepth 20000
theorem qk2 : ∀ (m t : List Int) (x y : Int), m.length = t.length → qkz m t = true → 0 ≤ x → x ≤ 10000000 → 0 ≤ y → y ≤ 1000 * x → qkz (m ++ [x]) (t ++ [y]) = true
  | [], [], x, y, _, _, h1, h2, h3, h4 => by simp only [List.nil_append, qkz, Bool.and_eq_true, qhx]; exact ⟨⟨h1, h2⟩, ⟨h3, h4⟩, trivial⟩
  | [], _ :: _, _, _, h, _, _, _, _, _ => by simp at h
  | _ :: _, [], _, _, h, _, _, _, _, _ => by simp at h
  | a :: m, b :: t, x, y, hl, h, h1, h2, h3, h4 => by
    simp only [List.cons_append, qkz, Bool.and_eq_true] at h ⊢
    exact ⟨h.1, h.2.1, qk2 m t x y (by simpa using hl) h.2.2 h1 h2 h3 h4⟩
theorem qam : ∀ (a : List Int) (x : Int), qak a = true → 0 ≤ x → x ≤ 1000000 → qak (a ++ [x]) = true
  | [], x, _, h1, h2 => by simp only [List.nil_append, qak, Bool.and_eq_true, qhx]; exact ⟨⟨h1, h2⟩, trivial⟩
  | a :: l, x, h, h1, h2 => by
    simp only [List.cons_append, qak, Bool.and_eq_true] at h ⊢
    exact ⟨h.1, qam l x h.2 h1 h2⟩
theorem qkr (k : Nat) (hk : 2000000 ≤ k) (fu : List (Nat × Nat)) (v0 : Bool) (v1 : List Int) (v2 v3 : Int) (x0 : Int) (hx : 1 ≤ x0) (hx' : x0 ≤ 20000) (z : Bool) (l : List Int) (hl : (l.length : Int) ≤ 1048576) (z6 : Bool) (l7 : List Cell) (z8 : Bool) (l9 : List Int) (z10 : Bool) (l11 : List Int) (z12 : Bool) (l13 : List Int) (x14 : Int) (c : List Cell) (hc : 1 ≤ c.length) (hc' : c.length ≤ 128) (x17 : Int) (bd : List Int) (r : Int) :
    ∀ (n t : Nat) (i h : Int) (zm zt : Bool) (m tr : List Int), t ≤ c.length → c.length - t < n → 0 ≤ i → i ≤ l.length → (zm = false ∨ t = 0) → (zt = false ∨ t = 0) → m.length = t → tr.length = t → qkz m tr = true → isum m ≤ 20000 * t →
    ∃ (m' t' : List Int) (i' h' : Int), lp (k + 10) spec_l07State [(.ptr true [(.arr false (v0) (.ints IntKind.u8 (v1))), (.int .i64 (v2)), (.int .i64 (v3))])] fu 9 (n) (qng x0 (t : Int) z l i h z6 l7 z8 l9 z10 l11 z12 l13 x14 false c x17 zm m zt tr false bd r) = some [.agg [.int .i64 (r), .arr true (false) (.r3 (c)), .arr true (false) (.ints .i64 (m')), .arr true (false) (.ints .i64 (t')), .arr true (false) (.ints .i64 (bd))], .ptr true [.arr false (z) (.ints .u8 (l)), .int .i64 (i'), .int .i64 (h')]] ∧ (0 ≤ i' ∧ i' ≤ l.length) ∧ m'.length = c.length ∧ t'.length = c.length ∧ qkz m' t' = true ∧ isum m' ≤ 2560000
  | 0, t, i, h, zm, zt, m, tr, ht, hn, h0, h1, hzm, hzt, lm, lt, ok, sm => by omega
  | n + 1, t, i, h, zm, zt, m, tr, ht, hn, h0, h1, hzm, hzt, lm, lt, ok, sm => by
    have e := qja (k + 10) n fu v0 v1 v2 v3 x0 (t : Int) z l i h z6 l7 z8 l9 z10 l11 z12 l13 x14 false c x17 zm m zt tr false bd r
    by_cases g : t < c.length
    · have la : ∀ x : Int, (m ++ [x]).length = t + 1 := fun x => by rw [List.length_append, lm]; rfl
      have lb : ∀ x : Int, (tr ++ [x]).length = t + 1 := fun x => by rw [List.length_append, lt]; rfl
      have step : ∀ (x y : Int), 0 ≤ x → x < 20000 → 0 ≤ y → y ≤ 1000 * x → ∀ (i2 k2 : Int), 0 ≤ i2 → i2 ≤ l.length → _ := fun x y hx0 hx1 hy0 hy1 i2 k2 hi0 hi1 =>
        qkr k hk fu v0 v1 v2 v3 x0 hx hx' z l hl z6 l7 z8 l9 z10 l11 z12 l13 x14 c hc hc' x17 bd r n (t + 1) i2 k2 false false (m ++ [x]) (tr ++ [y]) (by omega) (by omega) hi0 hi1 (Or.inl rfl) (Or.inl rfl) (la x) (lb y) (qk2 m tr x y (by omega) ok (by omega) (by omega) hy0 hy1) (by rw [qhz]; simp only [isum]; omega)
      obtain ⟨u1, i1, k1, e1, b1, q1, r1⟩ := qcm (k + 8) (by omega) z l i h x0 hl h0 h1 hx (by omega)
      obtain ⟨u2, i2, k2, e2, q2, r2⟩ := qcp (k + 7) (by omega) z l i1 k1 6 hl q1 r1 (by omega) (by omega)
      cases u2
      · obtain ⟨u3, i3, k3, e3, b3, q3, r3⟩ := qcm (k + 8) (by omega) z l i2 k2 200 hl q2 r2 (by omega) (by omega)
        obtain ⟨u4, i4, k4, e4, b4, q4, r4⟩ := qcm (k + 8) (by omega) z l i3 k3 (u1 + 1) hl q3 r3 (by omega) (by omega)
        have p0 : 0 ≤ u1 * u3 := Int.mul_nonneg b1.1 b3.1
        have p1 : u1 * u3 ≤ u1 * 199 := Int.mul_le_mul_of_nonneg_left (by omega) b1.1
        obtain ⟨m', t', i', h', e5, p5⟩ := step u1 (u1 * u3 + u4) (by omega) (by omega) (by omega) (by omega) i4 k4 q4 r4
        simp (disch := omega) only [nI, dT, e1, bit, la, big0, lb, qdg, qpd, dF, Bool.and_false, qdv, qan, nth1, qlx, qos, qly, e2, nth0, qor, e3, e4, e5, qdt] at e
        exact ⟨m', t', i', h', e, p5⟩
      · obtain ⟨u0, i0, k0, e0, b0, q0, r0⟩ := qcm (k + 8) (by omega) z l i2 k2 3 hl q2 r2 (by omega) (by omega)
        obtain ⟨u3, i3, k3, e3, b3, q3, r3⟩ := qcm (k + 8) (by omega) z l i0 k0 200 hl q0 r0 (by omega) (by omega)
        obtain ⟨u4, i4, k4, e4, b4, q4, r4⟩ := qcm (k + 8) (by omega) z l i3 k3 (u0 + 1) hl q3 r3 (by omega) (by omega)
        have p0 : 0 ≤ u0 * u3 := Int.mul_nonneg b0.1 b3.1
        have p1 : u0 * u3 ≤ u0 * 199 := Int.mul_le_mul_of_nonneg_left (by omega) b0.1
        obtain ⟨m', t', i', h', e5, p5⟩ := step u0 (u0 * u3 + u4) (by omega) (by omega) (by omega) (by omega) i4 k4 q4 r4
        simp (disch := omega) only [nI, dT, e1, bit, la, big0, lb, qdg, qpd, dF, Bool.and_false, qdv, qan, nth1, qlx, qos, qly, e2, nth0, qor, e0, e3, e4, e5] at e
        exact ⟨m', t', i', h', e, p5⟩
    · have : zm = false := by rcases hzm with h | h <;> omega
      subst this
      have : zt = false := by rcases hzt with h | h <;> omega
      subst this
      simp (disch := omega) only [nI, dF, bit, big0, qdg, qpd, Bool.false_and, qdt] at e
      exact ⟨m, tr, i, h, e, ⟨h0, h1⟩, by omega, by omega, ok, by omega⟩
theorem qkq (k : Nat) (hk : 2000000 ≤ k) (fu : List (Nat × Nat)) (v0 : Bool) (v1 : List Int) (v2 v3 : Int) (z : Bool) (l : List Int) (hl : (l.length : Int) ≤ 1048576) (z6 : Bool) (l7 : List Cell) (z8 : Bool) (l9 : List Int) (z10 : Bool) (l11 : List Int) (z12 : Bool) (l13 : List Int) (x14 : Int) (c : List Cell) (R : Nat) (hR : 1 ≤ R) (hR' : R ≤ 3) (hm : qla R 0 c = true) (hu : unb c < 0) :
    ∀ (n t : Nat) (i h : Int) (zb : Bool) (bd : List Int), t ≤ R → R - t < n → 0 ≤ i → i ≤ l.length → (zb = false ∨ t = 0) → bd.length = t → qak bd = true →
    ∃ (m' t' bd' : List Int) (i' h' : Int), lp (k + 10) spec_l07State [(.ptr true [(.arr false (v0) (.ints IntKind.u8 (v1))), (.int .i64 (v2)), (.int .i64 (v3))])] fu 4 (n) (qnf (t : Int) z l i h z6 l7 z8 l9 z10 l11 z12 l13 x14 false c (R : Int) true [] true [] zb bd (R : Int)) = some [.agg [.int .i64 ((R : Int)), .arr true (false) (.r3 (c)), .arr true (false) (.ints .i64 (m')), .arr true (false) (.ints .i64 (t')), .arr true (false) (.ints .i64 (bd'))], .ptr true [.arr false (z) (.ints .u8 (l)), .int .i64 (i'), .int .i64 (h')]] ∧ (0 ≤ i' ∧ i' ≤ l.length) ∧ StF (R : Int) c m' t' bd' ∧ isum m' ≤ 2560000
  | 0, t, i, h, zb, bd, ht, hn, h0, h1, hz, lb, ok => by omega
  | n + 1, t, i, h, zb, bd, ht, hn, h0, h1, hz, lb, ok => by
    have e := qi9 (k + 10) n fu v0 v1 v2 v3 (t : Int) z l i h z6 l7 z8 l9 z10 l11 z12 l13 x14 false c (R : Int) true [] true [] zb bd (R : Int)
    by_cases g : t < R
    · have la : ∀ x : Int, (bd ++ [x]).length = t + 1 := fun x => by rw [List.length_append, lb]; rfl
      obtain ⟨u1, i1, k1, e1, b1, q1, r1⟩ := qcm (k + 8) (by omega) z l i h 4 hl h0 h1 (by omega) (by omega)
      obtain ⟨u2, i2, k2, e2, b2, q2, r2⟩ := qcm (k + 8) (by omega) z l i1 k1 5000 hl q1 r1 (by omega) (by omega)
      have p0 : 0 ≤ u1 * u2 := Int.mul_nonneg b1.1 b2.1
      have p1 : u1 * u2 ≤ u1 * 4999 := Int.mul_le_mul_of_nonneg_left (by omega) b1.1
      obtain ⟨m', t', bd', i', h', e5, p5⟩ := qkq k hk fu v0 v1 v2 v3 z l hl z6 l7 z8 l9 z10 l11 z12 l13 x14 c R hR hR' hm hu n (t + 1) i2 k2 false (bd ++ [u1 * u2]) (by omega) (by omega) q2 r2 (Or.inl rfl) (la _) (qam bd _ ok p0 (by omega))
      simp (disch := omega) only [dT, e1, la, big0, qdg, qpd, dF, Bool.and_false, qdv, qan, nth1, qlx, qos, qly, e2, nth0, e5] at e
      exact ⟨m', t', bd', i', h', e, p5⟩
    · have : zb = false := by rcases hz with h | h <;> omega
      subst this
      obtain ⟨u1, i1, k1, e1, b1, q1, r1⟩ := qcm (k + 8) (by omega) z l i h 20000 hl h0 h1 (by omega) (by omega)
      have ml := qlf hm
      obtain ⟨m', t', i', h', e5, p5, lm, lt, mk, sm⟩ := qkr k hk fu v0 v1 v2 v3 (1 + u1) (by omega) (by omega) z l hl z6 l7 z8 l9 z10 l11 z12 l13 x14 c ml.1 ml.2 (R : Int) bd (R : Int) (k + 10) 0 i1 k1 true true [] [] (by omega) (by omega) q1 r1 (Or.inr rfl) (Or.inr rfl) rfl rfl rfl (by simp [isum])
      rw [show ((0 : Nat) : Int) = 0 from rfl] at e5
      simp (disch := omega) only [dF, big0, qdg, qpd, Bool.false_and, e1, qan, nth0, qos, nth1, qlx, qly, e5, qdt] at e
      exact ⟨m', t', bd, i', h', e, p5, ⟨hm, hu, lm, lt, by omega, mk, ok, by omega⟩, sm⟩
theorem qc2 (k : Nat) (hk : 2000000 ≤ k) (z : Bool) (l : List Int) (i h : Int) (hl : (l.length : Int) ≤ 1048576) (h0 : 0 ≤ i) (h1 : i ≤ l.length) :
    ∃ (r : Int) (c : List Cell) (m t b : List Int) (i' h' : Int), go (k + 11) spec_l07State [.ptr true [.arr false (z) (.ints .u8 (l)), .int .i64 (i), .int .i64 (h)]] = some [.agg [.int .i64 (r), .arr true (false) (.r3 (c)), .arr true (false) (.ints .i64 (m)), .arr true (false) (.ints .i64 (t)), .arr true (false) (.ints .i64 (b))], .ptr true [.arr false (z) (.ints .u8 (l)), .int .i64 (i'), .int .i64 (h')]] ∧ (0 ≤ i' ∧ i' ≤ l.length) ∧ StF r c m t b ∧ r ≤ 3 ∧ isum m ≤ 2560000 := by
  have e := qgt (k + 10) z l i h
  obtain ⟨r, c, i1, k1, e1, q1, hm, hu, r3⟩ := qcx k (by omega) z l i h hl h0 h1
  have rr := (qle _ _ _ hm).1
  obtain ⟨R, rfl⟩ : ∃ R : Nat, r = (R : Int) := ⟨r.toNat, by omega⟩
  obtain ⟨m', t', bd', i', h', e5, p5, S, sm⟩ := qkq k hk [] z l i h z l hl true [] true [] true [] true [] 0 c R (by omega) (by omega) hm hu (k + 10) 0 i1 k1 true [] (by omega) (by omega) q1.1 q1.2 (Or.inr rfl) rfl rfl
  rw [show ((0 : Nat) : Int) = 0 from rfl] at e5
  simp (disch := omega) only [e1, qan, nth1, qlx, qos, qly, nth0, qdj, qln, qlz, qdi, e5] at e
  exact ⟨_, _, _, _, _, _, _, e, p5, S, r3, sm⟩
theorem qke (k : Nat) (hk : 2000000 ≤ k) (fu : List (Nat × Nat)) (z : Bool) (l : List Int) (hl : (l.length : Int) ≤ 1048576) (z4 : Bool) (l5 : List Cell) (z6 : Bool) (l7 : List Int) (z8 : Bool) (l9 : List Int) (z10 : Bool) (l11 : List Int) (x12 : Int) :
    ∀ (n t : Nat) (h : Int), t ≤ l.length → l.length - t < n →
    ∃ (r : Int) (c : List Cell) (m t' b : List Int), lp (k + 11) spec_DrawState [] fu 7800003 (n) (qm3 h (t : Int) z l z4 l5 z6 l7 z8 l9 z10 l11 x12) = some [.agg [.int .i64 (r), .arr true (false) (.r3 (c)), .arr true (false) (.ints .i64 (m)), .arr true (false) (.ints .i64 (t')), .arr true (false) (.ints .i64 (b))]] ∧ StF r c m t' b ∧ r ≤ 3 ∧ isum m ≤ 2560000
  | 0, t, h, ht, hn => by omega
  | n + 1, t, h, ht, hn => by
    have e := qix (k + 11) n fu h (t : Int) z l z4 l5 z6 l7 z8 l9 z10 l11 x12
    obtain ⟨r, c, m, t', b, i1, h1, e1, p1, S1, r3⟩ := qc2 k (by omega) z l 0 h hl (by omega) (by omega)
    by_cases g : t < l.length
    · by_cases g2 : (t : Int) < 4000
      · simp (disch := omega) only [nI, dT, Bool.and_true, Int.toNat_natCast, qdg, qpd, qdv] at e
        obtain ⟨r, c, m, t', b, e3, p3⟩ := qke k hk fu z l hl z4 l5 z6 l7 z8 l9 z10 l11 x12 n (t + 1) _ (by omega) (by omega)
        exact ⟨r, c, m, t', b, e.trans e3, p3⟩
      · simp (disch := omega) only [nI, dT, dF, Bool.and_true, Int.toNat_natCast, qdg, qpd, qdv, e1, qan, nth0, qdi, qos, qdj, qln, qlz, qdk, qhy, qdl, qdm, qdt] at e
        exact ⟨_, _, _, _, _, e, S1, r3⟩
    · simp (disch := omega) only [nI, dF, dT, Bool.and_false, Int.toNat_natCast, qdg, qpd, qdt, e1, qan, nth0, qdi, qos, qdj, qln, qlz, qdk, qhy, qdl, qdm] at e
      exact ⟨_, _, _, _, _, e, S1, r3⟩
theorem qb7 (k : Nat) (hk : 2000000 ≤ k) (z : Bool) (l : List Int) (hl : (l.length : Int) ≤ 1048576) :
    ∃ (r : Int) (c : List Cell) (m t b : List Int), go (k + 12) spec_DrawState [.arr false z (.ints .u8 l)] = some [.agg [.int .i64 (r), .arr true (false) (.r3 (c)), .arr true (false) (.ints .i64 (m)), .arr true (false) (.ints .i64 (t)), .arr true (false) (.ints .i64 (b))]] ∧ StF r c m t b ∧ r ≤ 3 ∧ isum m ≤ 2560000 := by
  have e := qfx (k + 11) z l
  obtain ⟨r, c, m, t, b, e3, p3⟩ := qke k hk [] z l hl true [] true [] true [] true [] 0 (k + 11) 0 (IntKind.wrap .i64 (98231 + nI l.length)) (by omega) (by omega)
  rw [show ((0 : Nat) : Int) = 0 from rfl] at e3
  exact ⟨r, c, m, t, b, e.trans e3, p3⟩
def qab (p : List Int) : Prop := p.length = 12 ∧ ∀ x ∈ p, 0 ≤ x ∧ x < 10000
theorem qkd (k : Nat) (hk : 2000000 ≤ k) (fu : List (Nat × Nat)) (z : Bool) (l : List Int) (hl : (l.length : Int) ≤ 1048576) :
    ∀ (n t : Nat) (i h : Int) (q : Bool) (p : List Int), t ≤ 12 → 12 - t < n → 0 ≤ i → i ≤ l.length → q = false → p.length = t → (∀ x ∈ p, 0 ≤ x ∧ x < 10000) →
    ∃ p' : List Int, lp (k + 2) spec_DrawPlaces [] fu 4 (n) (qm1 (t : Int) z l i h q p) = some [.arr true false (.ints .i64 p')] ∧ qab p'
  | 0, t, i, h, q, p, ht, hn, h0, h1, hq, hp, hx => by omega
  | n + 1, t, i, h, q, p, ht, hn, h0, h1, hq, hp, hx => by
    have e := qiv (k + 2) n fu (t : Int) z l i h q p
    subst hq
    by_cases g : t < 12
    · have la : ∀ x : Int, (p ++ [x]).length = t + 1 := fun x => by rw [List.length_append, hp]; rfl
      obtain ⟨u1, i1, k1, e1, b1, q1, r1⟩ := qcm k (by omega) z l i h 10000 hl h0 h1 (by omega) (by omega)
      obtain ⟨p', e2, p2⟩ := qkd k hk fu z l hl n (t + 1) i1 k1 false (p ++ [u1]) (by omega) (by omega) q1 r1 rfl (la _) (fun x hx' => by
        rcases List.mem_append.1 hx' with h | h
        · exact hx x h
        · rw [List.mem_singleton] at h; omega)
      simp (disch := omega) only [dT, e1, la, big0, qdg, qpd, dF, Bool.and_false, qdv, qan, nth1, qlx, qos, qly, nth0, e2] at e
      exact ⟨p', e, p2⟩
    · simp (disch := omega) only [dF, big0, qdg, qpd, Bool.false_and, qdt] at e
      exact ⟨p, e, by omega, hx⟩
theorem qkc (k : Nat) (hk : 2000000 ≤ k) (fu : List (Nat × Nat)) (z : Bool) (l : List Int) (hl : (l.length : Int) ≤ 1048576) (z4 : Bool) (l5 : List Int) :
    ∀ (n t : Nat) (h : Int), t ≤ l.length → l.length - t < n →
    ∃ p : List Int, lp (k + 2) spec_DrawPlaces [] fu 7800003 (n) (qm2 h (t : Int) z l z4 l5) = some [.arr true false (.ints .i64 p)] ∧ qab p
  | 0, t, h, ht, hn => by omega
  | n + 1, t, h, ht, hn => by
    have e := qiw (k + 2) n fu h (t : Int) z l z4 l5
    obtain ⟨p, e1, p1⟩ := qkd k hk fu z l hl (k + 2) 0 0 h false [] (by omega) (by omega) (by omega) (by omega) rfl rfl (fun x hx => by cases hx)
    rw [show ((0 : Nat) : Int) = 0 from rfl] at e1
    by_cases g : t < l.length
    · by_cases g2 : (t : Int) < 4000
      · simp (disch := omega) only [nI, dT, Bool.and_true, Int.toNat_natCast, qdg, qpd, qdv] at e
        obtain ⟨p, e3, p3⟩ := qkc k hk fu z l hl z4 l5 n (t + 1) _ (by omega) (by omega)
        exact ⟨p, e.trans e3, p3⟩
      · simp (disch := omega) only [nI, dT, dF, Bool.and_true, Int.toNat_natCast, qdg, qpd, qdv, e1, qdt] at e
        exact ⟨_, e, p1⟩
    · simp (disch := omega) only [nI, dF, dT, Bool.and_false, Int.toNat_natCast, qdg, qpd, qdt, e1] at e
      exact ⟨_, e, p1⟩
theorem qb6 (k : Nat) (hk : 2000000 ≤ k) (z : Bool) (l : List Int) (hl : (l.length : Int) ≤ 1048576) :
    ∃ p : List Int, go (k + 3) spec_DrawPlaces [.arr false z (.ints .u8 l)] = some [.arr true false (.ints .i64 p)] ∧ qab p := by
  have e := qfw (k + 2) z l
  obtain ⟨p, e3, p3⟩ := qkc k hk [] z l hl true [] (k + 2) 0 (IntKind.wrap .i64 (98231 + nI l.length)) (by omega) (by omega)
  rw [show ((0 : Nat) : Int) = 0 from rfl] at e3
  exact ⟨p, e.trans e3, p3⟩
end Go.Proofs.YtoldpdhhfmlckaaGreat
end
section
namespace Go.Proofs.YtoldpdhhfmlckaaGreat
open Go.RowKit Go.Lib Go.Ev Go.Shelf
def qae (Q : Nat → Ending → World → Prop) (en : Ending) (w' : World) : Prop := ∃ q, Q q en w'

theorem qhu : (Tryz.prog.info? 3).map (fun i => (i.zero, i.size, i.bytes)) = some (some (.int .i64 0), 1, 8) := by kernel_rfl
theorem qok : (Tryz.prog.info? 3).map (·.size) = some 1 := by kernel_rfl
theorem qoy : Tryz.prog.underlying 27 = some (.slice 3) := by kernel_rfl
theorem qog : ∀ w, (Go.sizeOf 3).run Tryz.prog w = .ok 1 w := fun w => by
  obtain ⟨i0, hi, h0, h1, h2⟩ := info_parts qhu
  simp [Go.sizeOf, typeInfo, hi, h1]

set_option maxHeartbeats 4000000 in
set_option maxRecDepth 100000 in
theorem ql3 (g n c i j m vc c1 : Nat) (a b1 : Addr) (w w1 : World) (hij : i < j) (hj : j = n) (hnc : n ≤ c) (hn : n ≤ 1099511627776) (hc : c ≤ 9223372036854775807) (hm : n ≤ i + m) (hmb : m ≤ 1099511627776)
    (hr : (Builtin.append_ #[27, 27] 27 #[.slice (some ⟨g, 0, none⟩) i c, .slice (some a) m vc]).run Tryz.prog w = .ok (.slice (some b1) (i + m) c1) w1) :
    Calls Tryz.prog 240 #[.slice (some ⟨g, 0, none⟩) n c, .int .i64 i, .int .i64 j, .slice (some a) m vc] w fun en w' => en = .returned (.slice (some b1) (i + m) c1) ∧ w' = w1 := by
  subst hj
  have t0 := qoy
  have hz1 : ¬ ((i : Int) = (j : Int)) := by omega
  have hb6 : j ≤ j := by omega
  have hb7 : (j : Int) ≤ (j : Int) := by omega
  have mixed : Tryz.prog.follows Departure.mixedOrders = true := by kernel_rfl
  have hlen : IntKind.i64.wrap ((i : Int) + (m : Int)) = (i : Int) + (m : Int) := by rw [IntKind.wrap_i64]; omega
  have hb1 : (0 : Int) ≤ (i : Int) + (m : Int) := by omega
  have htn : ((i : Int) + (m : Int)).toNat = i + m := by omega
  have hb8 : ¬ ((i + m : Nat) < j) := by omega
  go_enter Tryz.func240, Tryz.ntmps240
  go_wp2_with (at_builtin; refine Lib.wpList_append_run _ rfl _ _ _ _ rfl _ _ rfl rfl _ _ hr ?_)
  go_ret
  exact ⟨rfl, rfl⟩
set_option maxHeartbeats 4000000 in
set_option maxRecDepth 100000 in
theorem ql1 (g n c i j m vc c1 : Nat) (a b1 : Addr) (w w1 w2 : World) (hij : i < j) (hj : j = n) (hnc : n ≤ c) (hn : n ≤ 1099511627776) (hc : c ≤ 9223372036854775807) (hm : i + m < n) (hmb : m ≤ 1099511627776)
    (hr : (Builtin.append_ #[27, 27] 27 #[.slice (some ⟨g, 0, none⟩) i c, .slice (some a) m vc]).run Tryz.prog w = .ok (.slice (some b1) (i + m) c1) w1)
    (hk : ∀ ty kc, (Builtin.clear_ #[27] ty #[.slice (some ⟨g, i + m, none⟩) (n - (i + m)) kc]).run Tryz.prog w1 = .ok (.tuple #[]) w2) :
    Calls Tryz.prog 240 #[.slice (some ⟨g, 0, none⟩) n c, .int .i64 i, .int .i64 j, .slice (some a) m vc] w fun en w' => en = .returned (.slice (some b1) (i + m) c1) ∧ w' = w2 := by
  subst hj
  have t0 := qoy
  have hz1 : ¬ ((i : Int) = (j : Int)) := by omega
  have hb6 : j ≤ j := by omega
  have hb7 : (j : Int) ≤ (j : Int) := by omega
  have mixed : Tryz.prog.follows Departure.mixedOrders = true := by kernel_rfl
  have hlen : IntKind.i64.wrap ((i : Int) + (m : Int)) = (i : Int) + (m : Int) := by rw [IntKind.wrap_i64]; omega
  have hb1 : (0 : Int) ≤ (i : Int) + (m : Int) := by omega
  have htn : ((i : Int) + (m : Int)).toNat = i + m := by omega
  have hb8 : (i + m : Nat) < j := by omega
  have hb9 : ¬ (c = i + m) := by omega
  go_enter Tryz.func240, Tryz.ntmps240
  go_wp2_with (at_builtin; refine Lib.wpList_append_run _ rfl _ _ _ _ rfl _ _ rfl rfl _ _ hr ?_)
  go_ret
  exact ⟨rfl, rfl⟩
set_option maxHeartbeats 4000000 in
set_option maxRecDepth 100000 in
theorem qmb (g n c i j m vc : Nat) (a : Addr) (w : World) (W1 W2 : Nat → World) (hij : i < j) (hj : j < n) (hnc : n ≤ c) (hn : n ≤ 1099511627776) (hc : c ≤ 9223372036854775807) (hm : j < i + m) (hmb : m ≤ 1099511627776) (hroom : i + m + (n - j) ≤ c)
    (hov : ∀ q lb cb, (callFunc 257 #[.slice (some ⟨g, i + m, none⟩) lb cb, .slice (some a) m vc]).run Tryz.prog (w.drewN q) = .ok (.value (.bool false)) (w.drewN q))
    (hcpa : ∀ q ty dc sc, (Builtin.copy_ #[27, 27] ty #[.slice (some ⟨g, i + m, none⟩) (n - j) dc, .slice (some ⟨g, j, none⟩) (n - j) sc]).run Tryz.prog (w.drewN q) = .ok (goInt (n - j : Nat)) (W1 q))
    (hcpb : ∀ q ty dc, (Builtin.copy_ #[27, 27] ty #[.slice (some ⟨g, i, none⟩) (i + m + (n - j) - i) dc, .slice (some a) m vc]).run Tryz.prog (W1 q) = .ok (goInt m) (W2 q)) :
    Calls Tryz.prog 240 #[.slice (some ⟨g, 0, none⟩) n c, .int .i64 i, .int .i64 j, .slice (some a) m vc] w (qae fun q en w' => en = .returned (.slice (some ⟨g, 0, none⟩) (i + m + (n - j)) c) ∧ w' = W2 q) := by
  have t0 := qoy
  have hz1 : ¬ ((i : Int) = (j : Int)) := by omega
  have hb6 : j ≤ n := by omega
  have hb7 : (j : Int) ≤ (n : Int) := by omega
  have mixed : Tryz.prog.follows Departure.mixedOrders = true := by kernel_rfl
  have hlen : IntKind.i64.wrap ((i : Int) + (m : Int)) = (i : Int) + (m : Int) := by rw [IntKind.wrap_i64]; omega
  have hb1 : (0 : Int) ≤ (i : Int) + (m : Int) := by omega
  have htn : ((i : Int) + (m : Int)).toNat = i + m := by omega
  have hz2 : ¬ ((j : Int) = (n : Int)) := by omega
  have hci : ¬ (c = i) := by omega
  have hcj : ¬ (c = j) := by omega
  have hw0 : IntKind.i64.wrap ((i : Int) + (m : Int) + ((n - j : Nat) : Int)) = (i : Int) + (m : Int) + ((n - j : Nat) : Int) := by rw [IntKind.wrap_i64]; omega
  have hb3 : (i : Int) + (m : Int) ≤ (i : Int) + (m : Int) + ((n - j : Nat) : Int) := by omega
  have hb4 : (i : Int) ≤ (i : Int) + (m : Int) + ((n - j : Nat) : Int) := by omega
  have hcm : ¬ (c = i + m) := by omega
  go_enter Tryz.func240, Tryz.ntmps240
  go_wp2_with fail
  go_quiet (fail)
  go_wp2_with (simp only [hov])
  go_region_law_o (fail)
  go_wp2
  go_ret
  exact ⟨_, rfl, rfl⟩
set_option maxHeartbeats 4000000 in
set_option maxRecDepth 100000 in
theorem ql7 (g n c i j m vc : Nat) (a : Addr) (w : World) (W1 W2 W3 : Nat → World) (hij : i < j) (hj : j < n) (hnc : n ≤ c) (hn : n ≤ 1099511627776) (hc : c ≤ 9223372036854775807) (hm : i + m < j) (hmb : m ≤ 1099511627776)
    (hcpa : ∀ q ty dc, (Builtin.copy_ #[27, 27] ty #[.slice (some ⟨g, i, none⟩) (i + m + (n - j) - i) dc, .slice (some a) m vc]).run Tryz.prog (w.drewN q) = .ok (goInt m) (W1 q))
    (hcpb : ∀ q ty dc sc, (Builtin.copy_ #[27, 27] ty #[.slice (some ⟨g, i + m, none⟩) (n - j) dc, .slice (some ⟨g, j, none⟩) (n - j) sc]).run Tryz.prog (W1 q).drew = .ok (goInt (n - j : Nat)) (W2 q))
    (hk : ∀ q ty kc, (Builtin.clear_ #[27] ty #[.slice (some ⟨g, i + m + (n - j), none⟩) (n - (i + m + (n - j))) kc]).run Tryz.prog (W2 q) = .ok (.tuple #[]) (W3 q)) :
    Calls Tryz.prog 240 #[.slice (some ⟨g, 0, none⟩) n c, .int .i64 i, .int .i64 j, .slice (some a) m vc] w (qae fun q en w' => en = .returned (.slice (some ⟨g, 0, none⟩) (i + m + (n - j)) c) ∧ w' = W3 q) := by
  have t0 := qoy
  have hz1 : ¬ ((i : Int) = (j : Int)) := by omega
  have hb6 : j ≤ n := by omega
  have hb7 : (j : Int) ≤ (n : Int) := by omega
  have mixed : Tryz.prog.follows Departure.mixedOrders = true := by kernel_rfl
  have hlen : IntKind.i64.wrap ((i : Int) + (m : Int)) = (i : Int) + (m : Int) := by rw [IntKind.wrap_i64]; omega
  have hb1 : (0 : Int) ≤ (i : Int) + (m : Int) := by omega
  have htn : ((i : Int) + (m : Int)).toNat = i + m := by omega
  have hz2 : ¬ ((j : Int) = (n : Int)) := by omega
  have hci : ¬ (c = i) := by omega
  have hcj : ¬ (c = j) := by omega
  have hw0 : IntKind.i64.wrap ((i : Int) + (m : Int) + ((n - j : Nat) : Int)) = (i : Int) + (m : Int) + ((n - j : Nat) : Int) := by rw [IntKind.wrap_i64]; omega
  have hb3 : (i : Int) + (m : Int) ≤ (i : Int) + (m : Int) + ((n - j : Nat) : Int) := by omega
  have hb4 : (i : Int) ≤ (i : Int) + (m : Int) + ((n - j : Nat) : Int) := by omega
  have hcm : ¬ (c = i + m) := by omega
  have hct : ¬ (c = i + m + (n - j)) := by omega
  have htt : ((i : Int) + (m : Int) + ((n - j : Nat) : Int)).toNat = i + m + (n - j) := by omega
  have hb8 : (i : Int) + (m : Int) + ((n - j : Nat) : Int) ≤ (n : Int) := by omega
  go_enter Tryz.func240, Tryz.ntmps240
  go_wp2_with fail
  go_quiet (fail)
  go_wp2
  go_region_law_o (fail)
  go_wp2
  go_ret
  exact ⟨_, rfl, rfl⟩
set_option maxHeartbeats 4000000 in
set_option maxRecDepth 100000 in
theorem ql9 (g n c i j m vc N : Nat) (a : Addr) (w : World) (G : Nat → Nat) (W1 W2 W3 : Nat → World) (hij : i < j) (hj : j < n) (hnc : n ≤ c) (hn : n ≤ 1099511627776) (hc : c ≤ 9223372036854775807) (hmb : m ≤ 1099511627776) (hroom : c < i + m + (n - j)) (hG : ∀ q, i + m + (n - j) ≤ G q)
    (hr : ∀ q, (Builtin.append_ #[27, 3] 27 #[.slice (some ⟨g, 0, none⟩) i c, .int .i64 ((i : Int) + (m : Int) + ((n - j : Nat) : Int) - (i : Int))]).run Tryz.prog (w.drewN q) = .ok (.slice (some ⟨N, 0, none⟩) (i + m + (n - j)) (G q)) (W1 q))
    (hcpa : ∀ q ty dc, (Builtin.copy_ #[27, 27] ty #[.slice (some ⟨N, i, none⟩) (i + m + (n - j) - i) dc, .slice (some a) m vc]).run Tryz.prog (W1 q) = .ok (goInt m) (W2 q))
    (hcpb : ∀ q ty dc sc, (Builtin.copy_ #[27, 27] ty #[.slice (some ⟨N, i + m, none⟩) (n - j) dc, .slice (some ⟨g, j, none⟩) (n - j) sc]).run Tryz.prog (W2 q).drew = .ok (goInt (n - j : Nat)) (W3 q)) :
    Calls Tryz.prog 240 #[.slice (some ⟨g, 0, none⟩) n c, .int .i64 i, .int .i64 j, .slice (some a) m vc] w (qae fun q en w' => en = .returned (.slice (some ⟨N, 0, none⟩) (i + m + (n - j)) (G q)) ∧ w' = W3 q) := by
  have t0 := qoy
  have hz1 : ¬ ((i : Int) = (j : Int)) := by omega
  have hb6 : j ≤ n := by omega
  have hb7 : (j : Int) ≤ (n : Int) := by omega
  have mixed : Tryz.prog.follows Departure.mixedOrders = true := by kernel_rfl
  have hlen : IntKind.i64.wrap ((i : Int) + (m : Int)) = (i : Int) + (m : Int) := by rw [IntKind.wrap_i64]; omega
  have hb1 : (0 : Int) ≤ (i : Int) + (m : Int) := by omega
  have htn : ((i : Int) + (m : Int)).toNat = i + m := by omega
  have hz2 : ¬ ((j : Int) = (n : Int)) := by omega
  have hci : ¬ (c = i) := by omega
  have hcj : ¬ (c = j) := by omega
  have hw0 : IntKind.i64.wrap ((i : Int) + (m : Int) + ((n - j : Nat) : Int)) = (i : Int) + (m : Int) + ((n - j : Nat) : Int) := by rw [IntKind.wrap_i64]; omega
  have hb3 : (i : Int) + (m : Int) ≤ (i : Int) + (m : Int) + ((n - j : Nat) : Int) := by omega
  have hb4 : (i : Int) ≤ (i : Int) + (m : Int) + ((n - j : Nat) : Int) := by omega
  have hgi : ∀ q, ¬ (G q = i) := fun q => by have := hG q; omega
  have hgm : ∀ q, ¬ (G q = i + m) := fun q => by have := hG q; omega
  have hw2 : IntKind.i64.wrap ((i : Int) + (m : Int) + ((n - j : Nat) : Int) - (i : Int)) = (i : Int) + (m : Int) + ((n - j : Nat) : Int) - (i : Int) := by rw [IntKind.wrap_i64]; omega
  go_enter Tryz.func240, Tryz.ntmps240
  go_wp2_with fail
  go_quiet (fail)
  go_wp2_with (at_builtin; refine Lib.wpList_append_run _ rfl _ _ _ _ rfl _ _ rfl rfl _ _ (hr _) ?_)
  go_region_law_o (fail)
  go_wp2
  go_ret
  exact ⟨_, rfl, rfl⟩

theorem qht : (Tryz.prog.info? 123).map (fun i => (i.zero, i.size, i.bytes)) = some (some (.agg #[.int .i64 0, .int .i64 0, .int .i64 0]), 3, 24) := by kernel_rfl
theorem qoj : (Tryz.prog.info? 123).map (·.size) = some 3 := by kernel_rfl
theorem qox : Tryz.prog.underlying 24 = some (.slice 123) := by kernel_rfl
theorem qof : ∀ w, (Go.sizeOf 123).run Tryz.prog w = .ok 3 w := fun w => by
  obtain ⟨i0, hi, h0, h1, h2⟩ := info_parts qht
  simp [Go.sizeOf, typeInfo, hi, h1]

set_option maxHeartbeats 4000000 in
set_option maxRecDepth 100000 in
theorem ql2 (g n c i j m vc c1 : Nat) (a b1 : Addr) (w w1 : World) (hij : i < j) (hj : j = n) (hnc : n ≤ c) (hn : n ≤ 1099511627776) (hc : c ≤ 9223372036854775807) (hm : n ≤ i + m) (hmb : m ≤ 1099511627776)
    (hr : (Builtin.append_ #[24, 24] 24 #[.slice (some ⟨g, 0, none⟩) i c, .slice (some a) m vc]).run Tryz.prog w = .ok (.slice (some b1) (i + m) c1) w1) :
    Calls Tryz.prog 254 #[.slice (some ⟨g, 0, none⟩) n c, .int .i64 i, .int .i64 j, .slice (some a) m vc] w fun en w' => en = .returned (.slice (some b1) (i + m) c1) ∧ w' = w1 := by
  subst hj
  have t0 := qox
  have hz1 : ¬ ((i : Int) = (j : Int)) := by omega
  have hb6 : j ≤ j := by omega
  have hb7 : (j : Int) ≤ (j : Int) := by omega
  have mixed : Tryz.prog.follows Departure.mixedOrders = true := by kernel_rfl
  have hlen : IntKind.i64.wrap ((i : Int) + (m : Int)) = (i : Int) + (m : Int) := by rw [IntKind.wrap_i64]; omega
  have hb1 : (0 : Int) ≤ (i : Int) + (m : Int) := by omega
  have htn : ((i : Int) + (m : Int)).toNat = i + m := by omega
  have hb8 : ¬ ((i + m : Nat) < j) := by omega
  go_enter Tryz.func254, Tryz.ntmps254
  go_wp2_with (at_builtin; refine Lib.wpList_append_run _ rfl _ _ _ _ rfl _ _ rfl rfl _ _ hr ?_)
  go_ret
  exact ⟨rfl, rfl⟩
set_option maxHeartbeats 4000000 in
set_option maxRecDepth 100000 in
theorem ql0 (g n c i j m vc c1 : Nat) (a b1 : Addr) (w w1 w2 : World) (hij : i < j) (hj : j = n) (hnc : n ≤ c) (hn : n ≤ 1099511627776) (hc : c ≤ 9223372036854775807) (hm : i + m < n) (hmb : m ≤ 1099511627776)
    (hr : (Builtin.append_ #[24, 24] 24 #[.slice (some ⟨g, 0, none⟩) i c, .slice (some a) m vc]).run Tryz.prog w = .ok (.slice (some b1) (i + m) c1) w1)
    (hk : ∀ ty kc, (Builtin.clear_ #[24] ty #[.slice (some ⟨g, (i + m) * 3, none⟩) (n - (i + m)) kc]).run Tryz.prog w1 = .ok (.tuple #[]) w2) :
    Calls Tryz.prog 254 #[.slice (some ⟨g, 0, none⟩) n c, .int .i64 i, .int .i64 j, .slice (some a) m vc] w fun en w' => en = .returned (.slice (some b1) (i + m) c1) ∧ w' = w2 := by
  subst hj
  have t0 := qox
  have hz1 : ¬ ((i : Int) = (j : Int)) := by omega
  have hb6 : j ≤ j := by omega
  have hb7 : (j : Int) ≤ (j : Int) := by omega
  have mixed : Tryz.prog.follows Departure.mixedOrders = true := by kernel_rfl
  have hlen : IntKind.i64.wrap ((i : Int) + (m : Int)) = (i : Int) + (m : Int) := by rw [IntKind.wrap_i64]; omega
  have hb1 : (0 : Int) ≤ (i : Int) + (m : Int) := by omega
  have htn : ((i : Int) + (m : Int)).toNat = i + m := by omega
  have hb8 : (i + m : Nat) < j := by omega
  have hb9 : ¬ (c = i + m) := by omega
  go_enter Tryz.func254, Tryz.ntmps254
  go_wp2_with (at_builtin; refine Lib.wpList_append_run _ rfl _ _ _ _ rfl _ _ rfl rfl _ _ hr ?_)
  go_ret
  exact ⟨rfl, rfl⟩
set_option maxHeartbeats 4000000 in
set_option maxRecDepth 100000 in
theorem qma (g n c i j m vc : Nat) (a : Addr) (w : World) (W1 W2 : Nat → World) (hij : i < j) (hj : j < n) (hnc : n ≤ c) (hn : n ≤ 1099511627776) (hc : c ≤ 9223372036854775807) (hm : j < i + m) (hmb : m ≤ 1099511627776) (hroom : i + m + (n - j) ≤ c)
    (hov : ∀ q lb cb, (callFunc 265 #[.slice (some ⟨g, (i + m) * 3, none⟩) lb cb, .slice (some a) m vc]).run Tryz.prog (w.drewN q) = .ok (.value (.bool false)) (w.drewN q))
    (hcpa : ∀ q ty dc sc, (Builtin.copy_ #[24, 24] ty #[.slice (some ⟨g, (i + m) * 3, none⟩) (n - j) dc, .slice (some ⟨g, (j) * 3, none⟩) (n - j) sc]).run Tryz.prog (w.drewN q) = .ok (goInt (n - j : Nat)) (W1 q))
    (hcpb : ∀ q ty dc, (Builtin.copy_ #[24, 24] ty #[.slice (some ⟨g, (i) * 3, none⟩) (i + m + (n - j) - i) dc, .slice (some a) m vc]).run Tryz.prog (W1 q) = .ok (goInt m) (W2 q)) :
    Calls Tryz.prog 254 #[.slice (some ⟨g, 0, none⟩) n c, .int .i64 i, .int .i64 j, .slice (some a) m vc] w (qae fun q en w' => en = .returned (.slice (some ⟨g, 0, none⟩) (i + m + (n - j)) c) ∧ w' = W2 q) := by
  have t0 := qox
  have hz1 : ¬ ((i : Int) = (j : Int)) := by omega
  have hb6 : j ≤ n := by omega
  have hb7 : (j : Int) ≤ (n : Int) := by omega
  have mixed : Tryz.prog.follows Departure.mixedOrders = true := by kernel_rfl
  have hlen : IntKind.i64.wrap ((i : Int) + (m : Int)) = (i : Int) + (m : Int) := by rw [IntKind.wrap_i64]; omega
  have hb1 : (0 : Int) ≤ (i : Int) + (m : Int) := by omega
  have htn : ((i : Int) + (m : Int)).toNat = i + m := by omega
  have hz2 : ¬ ((j : Int) = (n : Int)) := by omega
  have hci : ¬ (c = i) := by omega
  have hcj : ¬ (c = j) := by omega
  have hw0 : IntKind.i64.wrap ((i : Int) + (m : Int) + ((n - j : Nat) : Int)) = (i : Int) + (m : Int) + ((n - j : Nat) : Int) := by rw [IntKind.wrap_i64]; omega
  have hb3 : (i : Int) + (m : Int) ≤ (i : Int) + (m : Int) + ((n - j : Nat) : Int) := by omega
  have hb4 : (i : Int) ≤ (i : Int) + (m : Int) + ((n - j : Nat) : Int) := by omega
  have hcm : ¬ (c = i + m) := by omega
  go_enter Tryz.func254, Tryz.ntmps254
  go_wp2_with fail
  go_quiet (fail)
  go_wp2_with (simp only [hov])
  go_region_law_o (fail)
  go_wp2
  go_ret
  exact ⟨_, rfl, rfl⟩
set_option maxHeartbeats 4000000 in
set_option maxRecDepth 100000 in
theorem ql6 (g n c i j m vc : Nat) (a : Addr) (w : World) (W1 W2 W3 : Nat → World) (hij : i < j) (hj : j < n) (hnc : n ≤ c) (hn : n ≤ 1099511627776) (hc : c ≤ 9223372036854775807) (hm : i + m < j) (hmb : m ≤ 1099511627776)
    (hcpa : ∀ q ty dc, (Builtin.copy_ #[24, 24] ty #[.slice (some ⟨g, (i) * 3, none⟩) (i + m + (n - j) - i) dc, .slice (some a) m vc]).run Tryz.prog (w.drewN q) = .ok (goInt m) (W1 q))
    (hcpb : ∀ q ty dc sc, (Builtin.copy_ #[24, 24] ty #[.slice (some ⟨g, (i + m) * 3, none⟩) (n - j) dc, .slice (some ⟨g, (j) * 3, none⟩) (n - j) sc]).run Tryz.prog (W1 q).drew = .ok (goInt (n - j : Nat)) (W2 q))
    (hk : ∀ q ty kc, (Builtin.clear_ #[24] ty #[.slice (some ⟨g, (i + m + (n - j)) * 3, none⟩) (n - (i + m + (n - j))) kc]).run Tryz.prog (W2 q) = .ok (.tuple #[]) (W3 q)) :
    Calls Tryz.prog 254 #[.slice (some ⟨g, 0, none⟩) n c, .int .i64 i, .int .i64 j, .slice (some a) m vc] w (qae fun q en w' => en = .returned (.slice (some ⟨g, 0, none⟩) (i + m + (n - j)) c) ∧ w' = W3 q) := by
  have t0 := qox
  have hz1 : ¬ ((i : Int) = (j : Int)) := by omega
  have hb6 : j ≤ n := by omega
  have hb7 : (j : Int) ≤ (n : Int) := by omega
  have mixed : Tryz.prog.follows Departure.mixedOrders = true := by kernel_rfl
  have hlen : IntKind.i64.wrap ((i : Int) + (m : Int)) = (i : Int) + (m : Int) := by rw [IntKind.wrap_i64]; omega
  have hb1 : (0 : Int) ≤ (i : Int) + (m : Int) := by omega
  have htn : ((i : Int) + (m : Int)).toNat = i + m := by omega
  have hz2 : ¬ ((j : Int) = (n : Int)) := by omega
  have hci : ¬ (c = i) := by omega
  have hcj : ¬ (c = j) := by omega
  have hw0 : IntKind.i64.wrap ((i : Int) + (m : Int) + ((n - j : Nat) : Int)) = (i : Int) + (m : Int) + ((n - j : Nat) : Int) := by rw [IntKind.wrap_i64]; omega
  have hb3 : (i : Int) + (m : Int) ≤ (i : Int) + (m : Int) + ((n - j : Nat) : Int) := by omega
  have hb4 : (i : Int) ≤ (i : Int) + (m : Int) + ((n - j : Nat) : Int) := by omega
  have hcm : ¬ (c = i + m) := by omega
  have hct : ¬ (c = i + m + (n - j)) := by omega
  have htt : ((i : Int) + (m : Int) + ((n - j : Nat) : Int)).toNat = i + m + (n - j) := by omega
  have hb8 : (i : Int) + (m : Int) + ((n - j : Nat) : Int) ≤ (n : Int) := by omega
  go_enter Tryz.func254, Tryz.ntmps254
  go_wp2_with fail
  go_quiet (fail)
  go_wp2
  go_region_law_o (fail)
  go_wp2
  go_ret
  exact ⟨_, rfl, rfl⟩
set_option maxHeartbeats 4000000 in
set_option maxRecDepth 100000 in
theorem ql8 (g n c i j m vc N : Nat) (a : Addr) (w : World) (G : Nat → Nat) (W1 W2 W3 : Nat → World) (hij : i < j) (hj : j < n) (hnc : n ≤ c) (hn : n ≤ 1099511627776) (hc : c ≤ 9223372036854775807) (hmb : m ≤ 1099511627776) (hroom : c < i + m + (n - j)) (hG : ∀ q, i + m + (n - j) ≤ G q)
    (hr : ∀ q, (Builtin.append_ #[24, 3] 24 #[.slice (some ⟨g, 0, none⟩) i c, .int .i64 ((i : Int) + (m : Int) + ((n - j : Nat) : Int) - (i : Int))]).run Tryz.prog (w.drewN q) = .ok (.slice (some ⟨N, 0, none⟩) (i + m + (n - j)) (G q)) (W1 q))
    (hcpa : ∀ q ty dc, (Builtin.copy_ #[24, 24] ty #[.slice (some ⟨N, (i) * 3, none⟩) (i + m + (n - j) - i) dc, .slice (some a) m vc]).run Tryz.prog (W1 q) = .ok (goInt m) (W2 q))
    (hcpb : ∀ q ty dc sc, (Builtin.copy_ #[24, 24] ty #[.slice (some ⟨N, (i + m) * 3, none⟩) (n - j) dc, .slice (some ⟨g, (j) * 3, none⟩) (n - j) sc]).run Tryz.prog (W2 q).drew = .ok (goInt (n - j : Nat)) (W3 q)) :
    Calls Tryz.prog 254 #[.slice (some ⟨g, 0, none⟩) n c, .int .i64 i, .int .i64 j, .slice (some a) m vc] w (qae fun q en w' => en = .returned (.slice (some ⟨N, 0, none⟩) (i + m + (n - j)) (G q)) ∧ w' = W3 q) := by
  have t0 := qox
  have hz1 : ¬ ((i : Int) = (j : Int)) := by omega
  have hb6 : j ≤ n := by omega
  have hb7 : (j : Int) ≤ (n : Int) := by omega
  have mixed : Tryz.prog.follows Departure.mixedOrders = true := by kernel_rfl
  have hlen : IntKind.i64.wrap ((i : Int) + (m : Int)) = (i : Int) + (m : Int) := by rw [IntKind.wrap_i64]; omega
  have hb1 : (0 : Int) ≤ (i : Int) + (m : Int) := by omega
  have htn : ((i : Int) + (m : Int)).toNat = i + m := by omega
  have hz2 : ¬ ((j : Int) = (n : Int)) := by omega
  have hci : ¬ (c = i) := by omega
  have hcj : ¬ (c = j) := by omega
  have hw0 : IntKind.i64.wrap ((i : Int) + (m : Int) + ((n - j : Nat) : Int)) = (i : Int) + (m : Int) + ((n - j : Nat) : Int) := by rw [IntKind.wrap_i64]; omega
  have hb3 : (i : Int) + (m : Int) ≤ (i : Int) + (m : Int) + ((n - j : Nat) : Int) := by omega
  have hb4 : (i : Int) ≤ (i : Int) + (m : Int) + ((n - j : Nat) : Int) := by omega
  have hgi : ∀ q, ¬ (G q = i) := fun q => by have := hG q; omega
  have hgm : ∀ q, ¬ (G q = i + m) := fun q => by have := hG q; omega
  have hw2 : IntKind.i64.wrap ((i : Int) + (m : Int) + ((n - j : Nat) : Int) - (i : Int)) = (i : Int) + (m : Int) + ((n - j : Nat) : Int) - (i : Int) := by rw [IntKind.wrap_i64]; omega
  go_enter Tryz.func254, Tryz.ntmps254
  go_wp2_with fail
  go_quiet (fail)
  go_wp2_with (at_builtin; refine Lib.wpList_append_run _ rfl _ _ _ _ rfl _ _ rfl rfl _ _ (hr _) ?_)
  go_region_law_o (fail)
  go_wp2
  go_ret
  exact ⟨_, rfl, rfl⟩
end Go.Proofs.YtoldpdhhfmlckaaGreat
end
section
namespace Go.Proofs.YtoldpdhhfmlckaaGreat
open Go.RowKit Go.Lib Go.Ev Go.Shelf
theorem qhj (w : World) (q : Nat) : Fr (fun _ _ => False) w (w.drewN q) := ⟨rfl, rfl, rfl, Nat.le_refl _, fun _ _ => .inr (.inl rfl)⟩

theorem qpk : ∀ w, (zeroValue 3).run Tryz.prog w = .ok (.int .i64 0) w := fun w => by
  obtain ⟨i0, hi, h0, h1, h2⟩ := info_parts qhu
  simp [zeroValue, typeInfo, hi, h0]
set_option maxHeartbeats 1000000 in
set_option maxRecDepth 100000 in
theorem ql5 (w : World) (g n c i j m vc : Nat) (a : Addr) (xs vs : List Value) (e' : TypeId) (hij : i < j) (hj : j ≤ n) (hm : 1 ≤ m) (hne : i + m ≠ j) (hn : n ≤ 549755813888) (hmb : m ≤ 549755813888)
    (own : w.ownsRow 0 e' 1 (.slice (some ⟨g, 0, none⟩) n c) n xs) (hva : a.block ≠ g) (hvl : vs.length = m * 1) (hv : ∀ q v, vs[q]? = some v → w.cell? (a.add q) = some v)
    (h1c : ∀ v ∈ xs, v.oneCell' = true) (h1v : ∀ v ∈ vs, v.oneCell' = true) :
    Calls Tryz.prog 240 #[.slice (some ⟨g, 0, none⟩) n c, .int .i64 i, .int .i64 j, .slice (some a) m vc] w (RepPost 1 w g (i + m + (n - j)) (xs.take (i * 1) ++ vs ++ xs.drop (j * 1))) := by
  have own0 := own
  obtain ⟨hxl, hx | ⟨g', cap, cur, e1, _, hg, hnc, hcm, hcs, htk⟩⟩ := own
  · simp at hx
  simp only [Value.slice.injEq, Option.some.injEq, Addr.mk.injEq, and_true, true_and] at e1
  obtain ⟨rfl, rfl⟩ := e1
  have hcm' := hcm
  unfold maxLen at hcm'
  obtain ⟨i0, hi, hz0, hzs, hzb⟩ := info_parts qhu
  have hlt : g < w.heap.size := (Array.getElem?_eq_some_iff.1 hg).1
  have hcur : cur.toList.length = c * 1 := by rw [Array.length_toList]; exact hcs
  have htA : xs.take (i * 1) = cur.toList.take (i * 1) := by rw [← htk, take_take_le _ (by omega)]
  have h1z : ∀ n, ∀ v ∈ (Builtin.zeroCells ((.int .i64 0) : Value).cells n).toList, v.oneCell' = true := fun n => zeroCells_oneCell (by intro v hv; simp [Value.cells] at hv; rcases hv with rfl | rfl | rfl <;> rfl) n
  have lz : ∀ n, (Builtin.zeroCells ((.int .i64 0) : Value).cells n).toList.length = n * 1 := fun n => by simp [Builtin.zeroCells, Value.cells]
  by_cases hjn : j = n
  · have hys : xs.take (i * 1) ++ vs ++ xs.drop (j * 1) = xs.take (i * 1) ++ vs := by rw [List.drop_of_length_le (by omega), List.append_nil]
    have owni : w.ownsRow 0 e' i0.size (.slice (some ⟨g, 0, none⟩) i c) i (xs.take (i * 1)) := by
      rw [hzs]; exact own_make hg (by rw [List.length_take]; omega) (by omega) hcm hcs (by rw [htA])
    obtain ⟨u', w1, e2, hr, hown, hfr, _, hblk⟩ := append_any (P := Tryz.prog) (w := w) (t := 27) (t2 := 27) (ty := 27) (e := 3) (e' := e') (d2 := .slice 3) (i := i0) (z := (.int .i64 0)) qoy qoy (fun k h => by cases h) hi hz0 (by rw [hzs]; rfl) (by omega) (by omega)
      (u := .slice (some ⟨g, 0, none⟩) i c) (x := .slice (some a) m vc) (n := i) (m := m) (xs := xs.take (i * 1)) (news := vs) rfl
      (fun w1 h => by
        rw [hzs]
        rcases h with rfl | rfl
        · exact run_firstCells_some w1 1 m a m vc vs hvl hv
        · exact run_firstCells_some w.drew 1 m a m vc vs hvl hv) (by rw [hvl, hzs]) h1v owni (by unfold bigLen; omega)
    have hfr' : Fr (fun b _ => b = g) w w1 := hfr.mono fun x y _ h => by simp [Value.ownBlock] at h; exact h.symm
    rw [hzs] at hown
    have hown0 := hown
    obtain ⟨_, ⟨_, h0⟩ | ⟨g1, cap1, cur1, rfl, _⟩⟩ := hown
    · omega
    have hblk' : ∀ b, (Value.slice (some ⟨g1, 0, none⟩) (i + m) cap1).ownBlock = some b → b = g ∨ w.heap.size ≤ b := fun b hb => (hblk b hb).imp (fun h => by simp [Value.ownBlock] at h; exact h.symm) id
    by_cases hcut : i + m < n
    · obtain ⟨cu, hcu, hcz⟩ := fr_at hfr' hg
      have hfit : (i + m) * 1 + (Builtin.zeroCells ((.int .i64 0) : Value).cells (n - (i + m))).toList.length ≤ cu.size := by rw [lz]; omega
      refine (ql1 g n c i j m vc cap1 a ⟨g1, 0, none⟩ w w1 _ hij hjn hnc (by omega) hcm' hcut (by omega) hr (fun ty kc => run_clear_rows w1 27 3 ty (.int .i64 0) qoy qpk h1z g (i + m) (n - (i + m)) kc (by omega) cu e' hcu (by omega))).mono ?_
      rintro en w' ⟨rfl, rfl⟩
      refine ⟨_, rfl, ⟨e2, ?_⟩, hfr'.trans (fr_row hcu (spl_size (by omega))), hblk'⟩
      rw [hys, show i + m + (n - j) = i + m by omega]
      exact own_clear hown0 hcu (by omega) (by omega)
    · refine (ql3 g n c i j m vc cap1 a ⟨g1, 0, none⟩ w w1 hij hjn hnc (by omega) hcm' (by omega) (by omega) hr).mono ?_
      rintro en w' ⟨rfl, rfl⟩
      refine ⟨_, rfl, ⟨e2, ?_⟩, hfr', hblk'⟩
      rw [hys, show i + m + (n - j) = i + m by omega]
      exact hown0
  · have hj' : j < n := by omega
    obtain ⟨cs, hcsd⟩ : ∃ cs, cs = xs.drop (j * 1) := ⟨_, rfl⟩
    have hcl : cs.length = (n - j) * 1 := by rw [hcsd, List.length_drop]; omega
    have h1s : ∀ v ∈ cs, v.oneCell' = true := fun v hv => h1c v (by rw [hcsd] at hv; exact List.mem_of_mem_drop hv)
    have htd : (cur.toList.drop (j * 1)).take ((n - j) * 1) = cs := by rw [hcsd, ← htk, List.drop_take]; congr 1; omega
    have hys : (xs.take (i * 1) ++ vs ++ cs).length = (i + m + (n - j)) * 1 := by
      rw [List.length_append, List.length_append, List.length_take]; omega
    rw [← hcsd]
    have hmin : Nat.min m (i + m + (n - j) - i) = m := by simp only [Nat.min_def]; split <;> omega
    have hmin2 : Nat.min (n - j) (n - j) = n - j := Nat.min_self _
    by_cases hroom : i + m + (n - j) ≤ c
    · by_cases hgr : j < i + m
      · have hfa : (i + m) * 1 + cs.length ≤ cur.size := by omega
        have hfb : i * 1 + vs.length ≤ (spl cur ((i + m) * 1) cs).size := by rw [spl_size hfa]; omega
        obtain ⟨tB, kB, hsb, hkB⟩ := shape_of (by omega) hv
        refine (qmb g n c i j m vc a w (fun q => (w.drewN q).setRow g (spl cur ((i + m) * 1) cs)) (fun q => ((w.drewN q).setRow g (spl cur ((i + m) * 1) cs)).setRow g (spl (spl cur ((i + m) * 1) cs) (i * 1) vs)) hij hj' hnc (by omega) hcm' hgr (by omega) hroom ?_ ?_ ?_).mono ?_
        · intro q lb cb
          rw [run_callFunc_extern Tryz.func257 (by kernel_rfl) (by kernel_rfl) (by kernel_rfl) (e := Extern.SlicesOverlaps.overlaps #[27, 27] #[4]) (by kernel_rfl),
            Lib.run_overlaps_apart (w.drewN q) 27 4 3 qoy 1 qog ⟨g, (i + m), none⟩ a lb cb m vc (fun h => hva h.symm) e' tB cur.size kB (by simp [World.shape?, hg]) (by simpa [World.shape?] using hsb) hkB (by simp [World.frozen?, hg]) (by simp [World.frozen?, hg])]
          rfl
        · intro q ty dc sc
          have := run_copy_rows (P := Tryz.prog) (w.drewN q) 27 27 ty 3 1 g ((i + m) * 1) (n - j) dc ⟨g, j * 1, none⟩ (n - j) sc cur e' cs qoy qok hg (by rw [hcl, hmin2]) (fun q' v hq => by rw [Addr.add_lit]; simpa [World.cell?, hg] using get_drop htd q' v hq) hfa h1s
          rw [hmin2] at this
          simpa using this
        · intro q ty dc
          have := run_copy_rows (P := Tryz.prog) ((w.drewN q).setRow g (spl cur ((i + m) * 1) cs)) 27 27 ty 3 1 g (i * 1) (i + m + (n - j) - i) dc a m vc (spl cur ((i + m) * 1) cs) e' vs qoy qok (setRow_heap _ g cur _ e' _ hg) (by rw [hvl, hmin]) (fun q' v hq => by rw [cell_setRow hva]; exact hv q' v hq) hfb h1v
          rw [hmin] at this
          simpa using this
        · rintro en w' ⟨q, rfl, rfl⟩
          refine ⟨_, rfl, ⟨e', ?_⟩, ?_, fun b hb => .inl (by simp [Value.ownBlock] at hb; exact hb.symm)⟩
          · refine own_make (setRow_heap _ g _ _ e' _ (setRow_heap _ g cur _ e' _ hg)) hys hroom hcm (by rw [spl_size hfb, spl_size hfa]; exact hcs) ?_
            have d1 : (spl cur ((i + m) * 1) cs).toList.drop ((i + m) * 1) = cs ++ cur.toList.drop ((i + m) * 1 + cs.length) := by
              show List.drop _ (cur.toList.take ((i + m) * 1) ++ cs ++ cur.toList.drop ((i + m) * 1 + cs.length)) = _
              rw [List.append_assoc, List.drop_left' (by rw [List.length_take]; omega)]
            show List.take _ ((spl cur ((i + m) * 1) cs).toList.take (i * 1) ++ vs ++ (spl cur ((i + m) * 1) cs).toList.drop (i * 1 + vs.length)) = _
            rw [show i * 1 + vs.length = (i + m) * 1 by omega, d1, spl_take_lo (by omega) (by omega), htA, ← List.append_assoc]
            exact List.take_left' (by rw [← htA]; exact hys)
          · rw [setRow_setRow]
            exact (((qhj w q).mono fun _ _ _ h => h.elim).trans (fr_row (w := w.drewN q) hg (by rw [spl_size hfb, spl_size hfa])))
      · have hfa : i * 1 + vs.length ≤ cur.size := by omega
        have hfb : (i + m) * 1 + cs.length ≤ (spl cur (i * 1) vs).size := by rw [spl_size hfa]; omega
        have hfc : (i + m + (n - j)) * 1 + (Builtin.zeroCells ((.int .i64 0) : Value).cells (n - (i + m + (n - j)))).toList.length ≤ (spl (spl cur (i * 1) vs) ((i + m) * 1) cs).size := by rw [spl_size hfb, spl_size hfa, lz]; omega
        have htd1 : ((spl cur (i * 1) vs).toList.drop (j * 1)).take ((n - j) * 1) = cs := by rw [spl_drop_hi (by omega) hfa]; exact htd
        refine (ql7 g n c i j m vc a w (fun q => (w.drewN q).setRow g (spl cur (i * 1) vs)) (fun q => ((w.drewN q).setRow g (spl cur (i * 1) vs)).drew.setRow g (spl (spl cur (i * 1) vs) ((i + m) * 1) cs)) (fun q => (((w.drewN q).setRow g (spl cur (i * 1) vs)).drew.setRow g (spl (spl cur (i * 1) vs) ((i + m) * 1) cs)).setRow g (spl (spl (spl cur (i * 1) vs) ((i + m) * 1) cs) ((i + m + (n - j)) * 1) (Builtin.zeroCells ((.int .i64 0) : Value).cells (n - (i + m + (n - j)))).toList)) hij hj' hnc (by omega) hcm' (by omega) (by omega) ?_ ?_ ?_).mono ?_
        · intro q ty dc
          have := run_copy_rows (P := Tryz.prog) (w.drewN q) 27 27 ty 3 1 g (i * 1) (i + m + (n - j) - i) dc a m vc cur e' vs qoy qok hg (by rw [hvl, hmin]) hv hfa h1v
          rw [hmin] at this
          simpa using this
        · intro q ty dc sc
          have hh : ((w.drewN q).setRow g (spl cur (i * 1) vs)).drew.heap[g]? = some (.cells (spl cur (i * 1) vs) e' (0, 0)) := setRow_heap _ g cur _ e' _ hg
          have := run_copy_rows (P := Tryz.prog) ((w.drewN q).setRow g (spl cur (i * 1) vs)).drew 27 27 ty 3 1 g ((i + m) * 1) (n - j) dc ⟨g, j * 1, none⟩ (n - j) sc _ e' cs qoy qok hh (by rw [hcl, hmin2]) (fun q' v hq => cell_at hh (get_drop htd1 q' v hq)) hfb h1s
          rw [hmin2] at this
          simpa using this
        · intro q ty kc
          have := run_clear_rows (P := Tryz.prog) _ 27 3 ty (.int .i64 0) qoy qpk h1z g ((i + m + (n - j)) * 1) (n - (i + m + (n - j))) kc (by omega) _ e' (setRow_heap ((w.drewN q).setRow g (spl cur (i * 1) vs)).drew g _ (spl (spl cur (i * 1) vs) ((i + m) * 1) cs) e' _ (setRow_heap (w.drewN q) g cur _ e' _ hg)) hfc
          simpa using this
        · rintro en w' ⟨q, rfl, rfl⟩
          refine ⟨_, rfl, ⟨e', ?_⟩, ?_, fun b hb => .inl (by simp [Value.ownBlock] at hb; exact hb.symm)⟩
          · refine own_make (setRow_heap _ g _ _ e' _ (setRow_heap _ g _ _ e' _ (setRow_heap (w.drewN q) g cur _ e' _ hg))) hys hroom hcm (by rw [spl_size hfc, spl_size hfb, spl_size hfa]; exact hcs) ?_
            rw [spl_take_lo (by omega) (by rw [spl_size hfb, spl_size hfa]; omega)]
            have e1 := spl_take hfb
            rw [show (i + m) * 1 + cs.length = (i + m + (n - j)) * 1 by omega] at e1
            rw [e1]
            have e2 := spl_take hfa
            rw [show i * 1 + vs.length = (i + m) * 1 by omega] at e2
            rw [e2, htA]
          · have f1 := fr_row (w := w.drewN q) hg (spl_size hfa)
            have g1 := setRow_heap (w.drewN q) g cur (spl cur (i * 1) vs) e' _ hg
            have f2 := fr_row (w := ((w.drewN q).setRow g (spl cur (i * 1) vs)).drew) g1 (spl_size hfb)
            have g2 := setRow_heap ((w.drewN q).setRow g (spl cur (i * 1) vs)).drew g _ (spl (spl cur (i * 1) vs) ((i + m) * 1) cs) e' _ g1
            have f3 := fr_row g2 (spl_size hfc)
            exact ((qhj w q).mono fun _ _ _ h => h.elim).trans (f1.trans (((fr_drew _).mono fun _ _ _ h => h.elim).trans (f2.trans f3)))
    · obtain ⟨ROW, hROW⟩ : ∃ ROW : Nat → Array Value, ROW = fun q => (xs.take (i * 1)).toArray ++ Builtin.zeroCells ((.int .i64 0) : Value).cells (m + (n - j)) ++ Builtin.zeroCells ((.int .i64 0) : Value).cells (grownCap (w.drewN q) (i + (m + (n - j))) c 3 - (i + (m + (n - j)))) := ⟨_, rfl⟩
      obtain ⟨G, hGd⟩ : ∃ G : Nat → Nat, G = fun q => grownCap (w.drewN q) (i + (m + (n - j))) c 3 := ⟨_, rfl⟩
      have hG : ∀ q, i + m + (n - j) ≤ G q := fun q => by have := grownCap_ge (w.drewN q) (i + (m + (n - j))) c 3; rw [hGd]; show i + m + (n - j) ≤ grownCap (w.drewN q) (i + (m + (n - j))) c 3; omega
      have hGm : ∀ q, G q ≤ maxLen := fun q => by rw [hGd]; exact grownCap_le_maxLen _ _ _ _ (by unfold maxLen; omega)
      have hrs : ∀ q, (ROW q).size = G q * 1 := fun q => by
        have := hG q
        rw [hGd] at this ⊢
        rw [hROW]
        simp only [Array.size_append, List.size_toArray, List.length_take]
        rw [← Array.length_toList (xs := Builtin.zeroCells _ _), lz, ← Array.length_toList (xs := Builtin.zeroCells _ _), lz]
        simp only at this
        omega
      have hrt : ∀ q, (ROW q).toList.take (i * 1) = xs.take (i * 1) := fun q => by
        rw [hROW]
        simp only [Array.toList_append, List.append_assoc]
        exact List.take_left' (by rw [List.length_take]; omega)
      have hap : ∀ q, (Builtin.append_ #[27, 3] 27 #[.slice (some ⟨g, 0, none⟩) i c, .int .i64 ((i : Int) + (m : Int) + ((n - j : Nat) : Int) - (i : Int))]).run Tryz.prog (w.drewN q) = .ok (.slice (some ⟨w.heap.size, 0, none⟩) (i + m + (n - j)) (G q)) ((w.drewN q).drew.alloc (.cells (ROW q) 3)) := fun q => by
        have hold : (Builtin.firstCells i0.size i (.slice (some ⟨g, 0, none⟩) i c)).run Tryz.prog (w.drewN q).drew = .ok (xs.take (i * 1)).toArray (w.drewN q).drew := by
          rw [hzs]
          exact run_firstCells_some _ 1 i ⟨g, 0, none⟩ i c _ (by rw [List.length_take]; omega) (fun q' v hq => by
            rw [Addr.add_lit]
            have := get_drop (cur := cur) (o := 0) (L := i * 1) (cs := xs.take (i * 1)) (by rw [List.drop_zero, htA]) q' v hq
            simpa [World.cell?, hg] using this)
        have h := Lib.run_append_grow_zeros (P := Tryz.prog) (w.drewN q) 27 3 27 3 i0 (.int .i64 0) .i64 .i64 qoy (by kernel_rfl) hi hz0 (some ⟨g, 0, none⟩) i c (xs.take (i * 1)) hold (m + (n - j)) (by omega) (by omega) (by omega) (by omega) (by rw [hzb]; omega) (by rw [hzb]; exact growslice_fits (by omega) (by omega))
        rw [show (i : Int) + (m : Int) + ((n - j : Nat) : Int) - (i : Int) = ((m + (n - j) : Nat) : Int) by omega, show i + m + (n - j) = i + (m + (n - j)) by omega, hGd, hROW]
        exact h
      have hfa : ∀ q, i * 1 + vs.length ≤ (ROW q).size := fun q => by rw [hrs q]; have := hG q; omega
      have hfb : ∀ q, (i + m) * 1 + cs.length ≤ (spl (ROW q) (i * 1) vs).size := fun q => by rw [spl_size (hfa q), hrs q]; have := hG q; omega
      have hnew : ∀ q, ((w.drewN q).drew.alloc (.cells (ROW q) 3)).heap[w.heap.size]? = some (.cells (ROW q) 3 (0, 0)) := fun q => heap_alloc_new (w.drewN q).drew _
      have hold : ∀ q b, b < w.heap.size → ((w.drewN q).drew.alloc (.cells (ROW q) 3)).heap[b]? = w.heap[b]? := fun q b hb => by
        show (w.heap.push _)[b]? = _
        rw [Array.getElem?_push, if_neg (by omega)]
      have hab : a.block < w.heap.size := block_lt_of_cell (hv 0 _ (List.getElem?_eq_getElem (show 0 < vs.length by omega)))
      refine (ql9 g n c i j m vc w.heap.size a w G (fun q => (w.drewN q).drew.alloc (.cells (ROW q) 3)) (fun q => ((w.drewN q).drew.alloc (.cells (ROW q) 3)).setRow w.heap.size (spl (ROW q) (i * 1) vs)) (fun q => (((w.drewN q).drew.alloc (.cells (ROW q) 3)).setRow w.heap.size (spl (ROW q) (i * 1) vs)).drew.setRow w.heap.size (spl (spl (ROW q) (i * 1) vs) ((i + m) * 1) cs)) hij hj' hnc (by omega) hcm' (by omega) (by omega) hG hap ?_ ?_).mono ?_
      · intro q ty dc
        have := run_copy_rows (P := Tryz.prog) ((w.drewN q).drew.alloc (.cells (ROW q) 3)) 27 27 ty 3 1 w.heap.size (i * 1) (i + m + (n - j) - i) dc a m vc (ROW q) 3 vs qoy qok (hnew q) (by rw [hvl, hmin]) (fun q' v hq => by
          rw [← hv q' v hq]; simp only [World.cell?, addr_block]; rw [hold q a.block hab]) (hfa q) h1v
        rw [hmin] at this
        simpa using this
      · intro q ty dc sc
        have hh : (((w.drewN q).drew.alloc (.cells (ROW q) 3)).setRow w.heap.size (spl (ROW q) (i * 1) vs)).drew.heap[w.heap.size]? = some (.cells (spl (ROW q) (i * 1) vs) 3 (0, 0)) := setRow_heap _ _ _ _ 3 _ (hnew q)
        have hh2 : (((w.drewN q).drew.alloc (.cells (ROW q) 3)).setRow w.heap.size (spl (ROW q) (i * 1) vs)).drew.heap[g]? = some (.cells cur e' (0, 0)) := by
          show (((w.drewN q).drew.alloc (.cells (ROW q) 3)).setRow w.heap.size (spl (ROW q) (i * 1) vs)).heap[g]? = _
          rw [setRow_other _ w.heap.size g _ (by omega), hold q g hlt]; exact hg
        have := run_copy_rows (P := Tryz.prog) (((w.drewN q).drew.alloc (.cells (ROW q) 3)).setRow w.heap.size (spl (ROW q) (i * 1) vs)).drew 27 27 ty 3 1 w.heap.size ((i + m) * 1) (n - j) dc ⟨g, j * 1, none⟩ (n - j) sc _ 3 cs qoy qok hh (by rw [hcl, hmin2]) (fun q' v hq => cell_at hh2 (get_drop htd q' v hq)) (hfb q) h1s
        rw [hmin2] at this
        simpa using this
      · rintro en w' ⟨q, rfl, rfl⟩
        refine ⟨_, rfl, ⟨3, ?_⟩, ?_, fun b hb => .inr (by simp [Value.ownBlock] at hb; omega)⟩
        · refine own_make (setRow_heap _ _ _ _ 3 _ (setRow_heap _ _ _ _ 3 _ (hnew q))) hys (hG q) (hGm q) (by rw [spl_size (hfb q), spl_size (hfa q)]; exact hrs q) ?_
          have e1 := spl_take (hfb q)
          rw [show (i + m) * 1 + cs.length = (i + m + (n - j)) * 1 by omega] at e1
          rw [e1]
          have e2 := spl_take (hfa q)
          rw [show i * 1 + vs.length = (i + m) * 1 by omega] at e2
          rw [e2, hrt q]
        · have f0 : Fr (fun b _ => b = g ∨ w.heap.size ≤ b) w ((w.drewN q).drew.alloc (.cells (ROW q) 3)) := ((qhj w q).mono fun _ _ _ h => h.elim).trans (((fr_drew _).mono fun _ _ _ h => h.elim).trans ((fr_alloc _ _).mono fun _ _ _ h => h.elim))
          have f1 := fr_new f0 (Nat.le_refl _) (hnew q) (spl_size (hfa q))
          have f2 := fr_new (f1.trans ((fr_drew _).mono fun _ _ _ h => h.elim)) (Nat.le_refl _) (setRow_heap _ _ _ _ 3 _ (hnew q)) (spl_size (hfb q))
          exact f2.mono fun x y hx h => h.elim id fun h => by omega

theorem qpj : ∀ w, (zeroValue 123).run Tryz.prog w = .ok (.agg #[.int .i64 0, .int .i64 0, .int .i64 0]) w := fun w => by
  obtain ⟨i0, hi, h0, h1, h2⟩ := info_parts qht
  simp [zeroValue, typeInfo, hi, h0]
set_option maxHeartbeats 1000000 in
set_option maxRecDepth 100000 in
theorem ql4 (w : World) (g n c i j m vc : Nat) (a : Addr) (xs vs : List Value) (e' : TypeId) (hij : i < j) (hj : j ≤ n) (hm : 1 ≤ m) (hne : i + m ≠ j) (hn : n ≤ 549755813888) (hmb : m ≤ 549755813888)
    (own : w.ownsRow 0 e' 3 (.slice (some ⟨g, 0, none⟩) n c) n xs) (hva : a.block ≠ g) (hvl : vs.length = m * 3) (hv : ∀ q v, vs[q]? = some v → w.cell? (a.add q) = some v)
    (h1c : ∀ v ∈ xs, v.oneCell' = true) (h1v : ∀ v ∈ vs, v.oneCell' = true) :
    Calls Tryz.prog 254 #[.slice (some ⟨g, 0, none⟩) n c, .int .i64 i, .int .i64 j, .slice (some a) m vc] w (RepPost 3 w g (i + m + (n - j)) (xs.take (i * 3) ++ vs ++ xs.drop (j * 3))) := by
  have own0 := own
  obtain ⟨hxl, hx | ⟨g', cap, cur, e1, _, hg, hnc, hcm, hcs, htk⟩⟩ := own
  · simp at hx
  simp only [Value.slice.injEq, Option.some.injEq, Addr.mk.injEq, and_true, true_and] at e1
  obtain ⟨rfl, rfl⟩ := e1
  have hcm' := hcm
  unfold maxLen at hcm'
  obtain ⟨i0, hi, hz0, hzs, hzb⟩ := info_parts qht
  have hlt : g < w.heap.size := (Array.getElem?_eq_some_iff.1 hg).1
  have hcur : cur.toList.length = c * 3 := by rw [Array.length_toList]; exact hcs
  have htA : xs.take (i * 3) = cur.toList.take (i * 3) := by rw [← htk, take_take_le _ (by omega)]
  have h1z : ∀ n, ∀ v ∈ (Builtin.zeroCells ((.agg #[.int .i64 0, .int .i64 0, .int .i64 0]) : Value).cells n).toList, v.oneCell' = true := fun n => zeroCells_oneCell (by intro v hv; simp [Value.cells] at hv; rcases hv with rfl | rfl | rfl <;> rfl) n
  have lz : ∀ n, (Builtin.zeroCells ((.agg #[.int .i64 0, .int .i64 0, .int .i64 0]) : Value).cells n).toList.length = n * 3 := fun n => by simp [Builtin.zeroCells, Value.cells]
  by_cases hjn : j = n
  · have hys : xs.take (i * 3) ++ vs ++ xs.drop (j * 3) = xs.take (i * 3) ++ vs := by rw [List.drop_of_length_le (by omega), List.append_nil]
    have owni : w.ownsRow 0 e' i0.size (.slice (some ⟨g, 0, none⟩) i c) i (xs.take (i * 3)) := by
      rw [hzs]; exact own_make hg (by rw [List.length_take]; omega) (by omega) hcm hcs (by rw [htA])
    obtain ⟨u', w1, e2, hr, hown, hfr, _, hblk⟩ := append_any (P := Tryz.prog) (w := w) (t := 24) (t2 := 24) (ty := 24) (e := 123) (e' := e') (d2 := .slice 123) (i := i0) (z := (.agg #[.int .i64 0, .int .i64 0, .int .i64 0])) qox qox (fun k h => by cases h) hi hz0 (by rw [hzs]; rfl) (by omega) (by omega)
      (u := .slice (some ⟨g, 0, none⟩) i c) (x := .slice (some a) m vc) (n := i) (m := m) (xs := xs.take (i * 3)) (news := vs) rfl
      (fun w1 h => by
        rw [hzs]
        rcases h with rfl | rfl
        · exact run_firstCells_some w1 3 m a m vc vs hvl hv
        · exact run_firstCells_some w.drew 3 m a m vc vs hvl hv) (by rw [hvl, hzs]) h1v owni (by unfold bigLen; omega)
    have hfr' : Fr (fun b _ => b = g) w w1 := hfr.mono fun x y _ h => by simp [Value.ownBlock] at h; exact h.symm
    rw [hzs] at hown
    have hown0 := hown
    obtain ⟨_, ⟨_, h0⟩ | ⟨g1, cap1, cur1, rfl, _⟩⟩ := hown
    · omega
    have hblk' : ∀ b, (Value.slice (some ⟨g1, 0, none⟩) (i + m) cap1).ownBlock = some b → b = g ∨ w.heap.size ≤ b := fun b hb => (hblk b hb).imp (fun h => by simp [Value.ownBlock] at h; exact h.symm) id
    by_cases hcut : i + m < n
    · obtain ⟨cu, hcu, hcz⟩ := fr_at hfr' hg
      have hfit : (i + m) * 3 + (Builtin.zeroCells ((.agg #[.int .i64 0, .int .i64 0, .int .i64 0]) : Value).cells (n - (i + m))).toList.length ≤ cu.size := by rw [lz]; omega
      refine (ql0 g n c i j m vc cap1 a ⟨g1, 0, none⟩ w w1 _ hij hjn hnc (by omega) hcm' hcut (by omega) hr (fun ty kc => run_clear_rows w1 24 123 ty (.agg #[.int .i64 0, .int .i64 0, .int .i64 0]) qox qpj h1z g ((i + m) * 3) (n - (i + m)) kc (by omega) cu e' hcu (by omega))).mono ?_
      rintro en w' ⟨rfl, rfl⟩
      refine ⟨_, rfl, ⟨e2, ?_⟩, hfr'.trans (fr_row hcu (spl_size (by omega))), hblk'⟩
      rw [hys, show i + m + (n - j) = i + m by omega]
      exact own_clear hown0 hcu (by omega) (by omega)
    · refine (ql2 g n c i j m vc cap1 a ⟨g1, 0, none⟩ w w1 hij hjn hnc (by omega) hcm' (by omega) (by omega) hr).mono ?_
      rintro en w' ⟨rfl, rfl⟩
      refine ⟨_, rfl, ⟨e2, ?_⟩, hfr', hblk'⟩
      rw [hys, show i + m + (n - j) = i + m by omega]
      exact hown0
  · have hj' : j < n := by omega
    obtain ⟨cs, hcsd⟩ : ∃ cs, cs = xs.drop (j * 3) := ⟨_, rfl⟩
    have hcl : cs.length = (n - j) * 3 := by rw [hcsd, List.length_drop]; omega
    have h1s : ∀ v ∈ cs, v.oneCell' = true := fun v hv => h1c v (by rw [hcsd] at hv; exact List.mem_of_mem_drop hv)
    have htd : (cur.toList.drop (j * 3)).take ((n - j) * 3) = cs := by rw [hcsd, ← htk, List.drop_take]; congr 1; omega
    have hys : (xs.take (i * 3) ++ vs ++ cs).length = (i + m + (n - j)) * 3 := by
      rw [List.length_append, List.length_append, List.length_take]; omega
    rw [← hcsd]
    have hmin : Nat.min m (i + m + (n - j) - i) = m := by simp only [Nat.min_def]; split <;> omega
    have hmin2 : Nat.min (n - j) (n - j) = n - j := Nat.min_self _
    by_cases hroom : i + m + (n - j) ≤ c
    · by_cases hgr : j < i + m
      · have hfa : (i + m) * 3 + cs.length ≤ cur.size := by omega
        have hfb : i * 3 + vs.length ≤ (spl cur ((i + m) * 3) cs).size := by rw [spl_size hfa]; omega
        obtain ⟨tB, kB, hsb, hkB⟩ := shape_of (by omega) hv
        refine (qma g n c i j m vc a w (fun q => (w.drewN q).setRow g (spl cur ((i + m) * 3) cs)) (fun q => ((w.drewN q).setRow g (spl cur ((i + m) * 3) cs)).setRow g (spl (spl cur ((i + m) * 3) cs) (i * 3) vs)) hij hj' hnc (by omega) hcm' hgr (by omega) hroom ?_ ?_ ?_).mono ?_
        · intro q lb cb
          rw [run_callFunc_extern Tryz.func265 (by kernel_rfl) (by kernel_rfl) (by kernel_rfl) (e := Extern.SlicesOverlaps.overlaps #[24, 24] #[4]) (by kernel_rfl),
            Lib.run_overlaps_apart (w.drewN q) 24 4 123 qox 3 qof ⟨g, ((i + m) * 3), none⟩ a lb cb m vc (fun h => hva h.symm) e' tB cur.size kB (by simp [World.shape?, hg]) (by simpa [World.shape?] using hsb) hkB (by simp [World.frozen?, hg]) (by simp [World.frozen?, hg])]
          rfl
        · intro q ty dc sc
          have := run_copy_rows (P := Tryz.prog) (w.drewN q) 24 24 ty 123 3 g ((i + m) * 3) (n - j) dc ⟨g, j * 3, none⟩ (n - j) sc cur e' cs qox qoj hg (by rw [hcl, hmin2]) (fun q' v hq => by rw [Addr.add_lit]; simpa [World.cell?, hg] using get_drop htd q' v hq) hfa h1s
          rw [hmin2] at this
          simpa using this
        · intro q ty dc
          have := run_copy_rows (P := Tryz.prog) ((w.drewN q).setRow g (spl cur ((i + m) * 3) cs)) 24 24 ty 123 3 g (i * 3) (i + m + (n - j) - i) dc a m vc (spl cur ((i + m) * 3) cs) e' vs qox qoj (setRow_heap _ g cur _ e' _ hg) (by rw [hvl, hmin]) (fun q' v hq => by rw [cell_setRow hva]; exact hv q' v hq) hfb h1v
          rw [hmin] at this
          simpa using this
        · rintro en w' ⟨q, rfl, rfl⟩
          refine ⟨_, rfl, ⟨e', ?_⟩, ?_, fun b hb => .inl (by simp [Value.ownBlock] at hb; exact hb.symm)⟩
          · refine own_make (setRow_heap _ g _ _ e' _ (setRow_heap _ g cur _ e' _ hg)) hys hroom hcm (by rw [spl_size hfb, spl_size hfa]; exact hcs) ?_
            have d1 : (spl cur ((i + m) * 3) cs).toList.drop ((i + m) * 3) = cs ++ cur.toList.drop ((i + m) * 3 + cs.length) := by
              show List.drop _ (cur.toList.take ((i + m) * 3) ++ cs ++ cur.toList.drop ((i + m) * 3 + cs.length)) = _
              rw [List.append_assoc, List.drop_left' (by rw [List.length_take]; omega)]
            show List.take _ ((spl cur ((i + m) * 3) cs).toList.take (i * 3) ++ vs ++ (spl cur ((i + m) * 3) cs).toList.drop (i * 3 + vs.length)) = _
            rw [show i * 3 + vs.length = (i + m) * 3 by omega, d1, spl_take_lo (by omega) (by omega), htA, ← List.append_assoc]
            exact List.take_left' (by rw [← htA]; exact hys)
          · rw [setRow_setRow]
            exact (((qhj w q).mono fun _ _ _ h => h.elim).trans (fr_row (w := w.drewN q) hg (by rw [spl_size hfb, spl_size hfa])))
      · have hfa : i * 3 + vs.length ≤ cur.size := by omega
        have hfb : (i + m) * 3 + cs.length ≤ (spl cur (i * 3) vs).size := by rw [spl_size hfa]; omega
        have hfc : (i + m + (n - j)) * 3 + (Builtin.zeroCells ((.agg #[.int .i64 0, .int .i64 0, .int .i64 0]) : Value).cells (n - (i + m + (n - j)))).toList.length ≤ (spl (spl cur (i * 3) vs) ((i + m) * 3) cs).size := by rw [spl_size hfb, spl_size hfa, lz]; omega
        have htd1 : ((spl cur (i * 3) vs).toList.drop (j * 3)).take ((n - j) * 3) = cs := by rw [spl_drop_hi (by omega) hfa]; exact htd
        refine (ql6 g n c i j m vc a w (fun q => (w.drewN q).setRow g (spl cur (i * 3) vs)) (fun q => ((w.drewN q).setRow g (spl cur (i * 3) vs)).drew.setRow g (spl (spl cur (i * 3) vs) ((i + m) * 3) cs)) (fun q => (((w.drewN q).setRow g (spl cur (i * 3) vs)).drew.setRow g (spl (spl cur (i * 3) vs) ((i + m) * 3) cs)).setRow g (spl (spl (spl cur (i * 3) vs) ((i + m) * 3) cs) ((i + m + (n - j)) * 3) (Builtin.zeroCells ((.agg #[.int .i64 0, .int .i64 0, .int .i64 0]) : Value).cells (n - (i + m + (n - j)))).toList)) hij hj' hnc (by omega) hcm' (by omega) (by omega) ?_ ?_ ?_).mono ?_
        · intro q ty dc
          have := run_copy_rows (P := Tryz.prog) (w.drewN q) 24 24 ty 123 3 g (i * 3) (i + m + (n - j) - i) dc a m vc cur e' vs qox qoj hg (by rw [hvl, hmin]) hv hfa h1v
          rw [hmin] at this
          simpa using this
        · intro q ty dc sc
          have hh : ((w.drewN q).setRow g (spl cur (i * 3) vs)).drew.heap[g]? = some (.cells (spl cur (i * 3) vs) e' (0, 0)) := setRow_heap _ g cur _ e' _ hg
          have := run_copy_rows (P := Tryz.prog) ((w.drewN q).setRow g (spl cur (i * 3) vs)).drew 24 24 ty 123 3 g ((i + m) * 3) (n - j) dc ⟨g, j * 3, none⟩ (n - j) sc _ e' cs qox qoj hh (by rw [hcl, hmin2]) (fun q' v hq => cell_at hh (get_drop htd1 q' v hq)) hfb h1s
          rw [hmin2] at this
          simpa using this
        · intro q ty kc
          have := run_clear_rows (P := Tryz.prog) _ 24 123 ty (.agg #[.int .i64 0, .int .i64 0, .int .i64 0]) qox qpj h1z g ((i + m + (n - j)) * 3) (n - (i + m + (n - j))) kc (by omega) _ e' (setRow_heap ((w.drewN q).setRow g (spl cur (i * 3) vs)).drew g _ (spl (spl cur (i * 3) vs) ((i + m) * 3) cs) e' _ (setRow_heap (w.drewN q) g cur _ e' _ hg)) hfc
          simpa using this
        · rintro en w' ⟨q, rfl, rfl⟩
          refine ⟨_, rfl, ⟨e', ?_⟩, ?_, fun b hb => .inl (by simp [Value.ownBlock] at hb; exact hb.symm)⟩
          · refine own_make (setRow_heap _ g _ _ e' _ (setRow_heap _ g _ _ e' _ (setRow_heap (w.drewN q) g cur _ e' _ hg))) hys hroom hcm (by rw [spl_size hfc, spl_size hfb, spl_size hfa]; exact hcs) ?_
            rw [spl_take_lo (by omega) (by rw [spl_size hfb, spl_size hfa]; omega)]
            have e1 := spl_take hfb
            rw [show (i + m) * 3 + cs.length = (i + m + (n - j)) * 3 by omega] at e1
            rw [e1]
            have e2 := spl_take hfa
            rw [show i * 3 + vs.length = (i + m) * 3 by omega] at e2
            rw [e2, htA]
          · have f1 := fr_row (w := w.drewN q) hg (spl_size hfa)
            have g1 := setRow_heap (w.drewN q) g cur (spl cur (i * 3) vs) e' _ hg
            have f2 := fr_row (w := ((w.drewN q).setRow g (spl cur (i * 3) vs)).drew) g1 (spl_size hfb)
            have g2 := setRow_heap ((w.drewN q).setRow g (spl cur (i * 3) vs)).drew g _ (spl (spl cur (i * 3) vs) ((i + m) * 3) cs) e' _ g1
            have f3 := fr_row g2 (spl_size hfc)
            exact ((qhj w q).mono fun _ _ _ h => h.elim).trans (f1.trans (((fr_drew _).mono fun _ _ _ h => h.elim).trans (f2.trans f3)))
    · obtain ⟨ROW, hROW⟩ : ∃ ROW : Nat → Array Value, ROW = fun q => (xs.take (i * 3)).toArray ++ Builtin.zeroCells ((.agg #[.int .i64 0, .int .i64 0, .int .i64 0]) : Value).cells (m + (n - j)) ++ Builtin.zeroCells ((.agg #[.int .i64 0, .int .i64 0, .int .i64 0]) : Value).cells (grownCap (w.drewN q) (i + (m + (n - j))) c 123 - (i + (m + (n - j)))) := ⟨_, rfl⟩
      obtain ⟨G, hGd⟩ : ∃ G : Nat → Nat, G = fun q => grownCap (w.drewN q) (i + (m + (n - j))) c 123 := ⟨_, rfl⟩
      have hG : ∀ q, i + m + (n - j) ≤ G q := fun q => by have := grownCap_ge (w.drewN q) (i + (m + (n - j))) c 123; rw [hGd]; show i + m + (n - j) ≤ grownCap (w.drewN q) (i + (m + (n - j))) c 123; omega
      have hGm : ∀ q, G q ≤ maxLen := fun q => by rw [hGd]; exact grownCap_le_maxLen _ _ _ _ (by unfold maxLen; omega)
      have hrs : ∀ q, (ROW q).size = G q * 3 := fun q => by
        have := hG q
        rw [hGd] at this ⊢
        rw [hROW]
        simp only [Array.size_append, List.size_toArray, List.length_take]
        rw [← Array.length_toList (xs := Builtin.zeroCells _ _), lz, ← Array.length_toList (xs := Builtin.zeroCells _ _), lz]
        simp only at this
        omega
      have hrt : ∀ q, (ROW q).toList.take (i * 3) = xs.take (i * 3) := fun q => by
        rw [hROW]
        simp only [Array.toList_append, List.append_assoc]
        exact List.take_left' (by rw [List.length_take]; omega)
      have hap : ∀ q, (Builtin.append_ #[24, 3] 24 #[.slice (some ⟨g, 0, none⟩) i c, .int .i64 ((i : Int) + (m : Int) + ((n - j : Nat) : Int) - (i : Int))]).run Tryz.prog (w.drewN q) = .ok (.slice (some ⟨w.heap.size, 0, none⟩) (i + m + (n - j)) (G q)) ((w.drewN q).drew.alloc (.cells (ROW q) 123)) := fun q => by
        have hold : (Builtin.firstCells i0.size i (.slice (some ⟨g, 0, none⟩) i c)).run Tryz.prog (w.drewN q).drew = .ok (xs.take (i * 3)).toArray (w.drewN q).drew := by
          rw [hzs]
          exact run_firstCells_some _ 3 i ⟨g, 0, none⟩ i c _ (by rw [List.length_take]; omega) (fun q' v hq => by
            rw [Addr.add_lit]
            have := get_drop (cur := cur) (o := 0) (L := i * 3) (cs := xs.take (i * 3)) (by rw [List.drop_zero, htA]) q' v hq
            simpa [World.cell?, hg] using this)
        have h := Lib.run_append_grow_zeros (P := Tryz.prog) (w.drewN q) 24 3 24 123 i0 (.agg #[.int .i64 0, .int .i64 0, .int .i64 0]) .i64 .i64 qox (by kernel_rfl) hi hz0 (some ⟨g, 0, none⟩) i c (xs.take (i * 3)) hold (m + (n - j)) (by omega) (by omega) (by omega) (by omega) (by rw [hzb]; omega) (by rw [hzb]; exact growslice_fits (by omega) (by omega))
        rw [show (i : Int) + (m : Int) + ((n - j : Nat) : Int) - (i : Int) = ((m + (n - j) : Nat) : Int) by omega, show i + m + (n - j) = i + (m + (n - j)) by omega, hGd, hROW]
        exact h
      have hfa : ∀ q, i * 3 + vs.length ≤ (ROW q).size := fun q => by rw [hrs q]; have := hG q; omega
      have hfb : ∀ q, (i + m) * 3 + cs.length ≤ (spl (ROW q) (i * 3) vs).size := fun q => by rw [spl_size (hfa q), hrs q]; have := hG q; omega
      have hnew : ∀ q, ((w.drewN q).drew.alloc (.cells (ROW q) 123)).heap[w.heap.size]? = some (.cells (ROW q) 123 (0, 0)) := fun q => heap_alloc_new (w.drewN q).drew _
      have hold : ∀ q b, b < w.heap.size → ((w.drewN q).drew.alloc (.cells (ROW q) 123)).heap[b]? = w.heap[b]? := fun q b hb => by
        show (w.heap.push _)[b]? = _
        rw [Array.getElem?_push, if_neg (by omega)]
      have hab : a.block < w.heap.size := block_lt_of_cell (hv 0 _ (List.getElem?_eq_getElem (show 0 < vs.length by omega)))
      refine (ql8 g n c i j m vc w.heap.size a w G (fun q => (w.drewN q).drew.alloc (.cells (ROW q) 123)) (fun q => ((w.drewN q).drew.alloc (.cells (ROW q) 123)).setRow w.heap.size (spl (ROW q) (i * 3) vs)) (fun q => (((w.drewN q).drew.alloc (.cells (ROW q) 123)).setRow w.heap.size (spl (ROW q) (i * 3) vs)).drew.setRow w.heap.size (spl (spl (ROW q) (i * 3) vs) ((i + m) * 3) cs)) hij hj' hnc (by omega) hcm' (by omega) (by omega) hG hap ?_ ?_).mono ?_
      · intro q ty dc
        have := run_copy_rows (P := Tryz.prog) ((w.drewN q).drew.alloc (.cells (ROW q) 123)) 24 24 ty 123 3 w.heap.size (i * 3) (i + m + (n - j) - i) dc a m vc (ROW q) 123 vs qox qoj (hnew q) (by rw [hvl, hmin]) (fun q' v hq => by
          rw [← hv q' v hq]; simp only [World.cell?, addr_block]; rw [hold q a.block hab]) (hfa q) h1v
        rw [hmin] at this
        simpa using this
      · intro q ty dc sc
        have hh : (((w.drewN q).drew.alloc (.cells (ROW q) 123)).setRow w.heap.size (spl (ROW q) (i * 3) vs)).drew.heap[w.heap.size]? = some (.cells (spl (ROW q) (i * 3) vs) 123 (0, 0)) := setRow_heap _ _ _ _ 123 _ (hnew q)
        have hh2 : (((w.drewN q).drew.alloc (.cells (ROW q) 123)).setRow w.heap.size (spl (ROW q) (i * 3) vs)).drew.heap[g]? = some (.cells cur e' (0, 0)) := by
          show (((w.drewN q).drew.alloc (.cells (ROW q) 123)).setRow w.heap.size (spl (ROW q) (i * 3) vs)).heap[g]? = _
          rw [setRow_other _ w.heap.size g _ (by omega), hold q g hlt]; exact hg
        have := run_copy_rows (P := Tryz.prog) (((w.drewN q).drew.alloc (.cells (ROW q) 123)).setRow w.heap.size (spl (ROW q) (i * 3) vs)).drew 24 24 ty 123 3 w.heap.size ((i + m) * 3) (n - j) dc ⟨g, j * 3, none⟩ (n - j) sc _ 123 cs qox qoj hh (by rw [hcl, hmin2]) (fun q' v hq => cell_at hh2 (get_drop htd q' v hq)) (hfb q) h1s
        rw [hmin2] at this
        simpa using this
      · rintro en w' ⟨q, rfl, rfl⟩
        refine ⟨_, rfl, ⟨123, ?_⟩, ?_, fun b hb => .inr (by simp [Value.ownBlock] at hb; omega)⟩
        · refine own_make (setRow_heap _ _ _ _ 123 _ (setRow_heap _ _ _ _ 123 _ (hnew q))) hys (hG q) (hGm q) (by rw [spl_size (hfb q), spl_size (hfa q)]; exact hrs q) ?_
          have e1 := spl_take (hfb q)
          rw [show (i + m) * 3 + cs.length = (i + m + (n - j)) * 3 by omega] at e1
          rw [e1]
          have e2 := spl_take (hfa q)
          rw [show i * 3 + vs.length = (i + m) * 3 by omega] at e2
          rw [e2, hrt q]
        · have f0 : Fr (fun b _ => b = g ∨ w.heap.size ≤ b) w ((w.drewN q).drew.alloc (.cells (ROW q) 123)) := ((qhj w q).mono fun _ _ _ h => h.elim).trans (((fr_drew _).mono fun _ _ _ h => h.elim).trans ((fr_alloc _ _).mono fun _ _ _ h => h.elim))
          have f1 := fr_new f0 (Nat.le_refl _) (hnew q) (spl_size (hfa q))
          have f2 := fr_new (f1.trans ((fr_drew _).mono fun _ _ _ h => h.elim)) (Nat.le_refl _) (setRow_heap _ _ _ _ 123 _ (hnew q)) (spl_size (hfb q))
          exact f2.mono fun x y hx h => h.elim id fun h => by omega
end Go.Proofs.YtoldpdhhfmlckaaGreat
end
section
namespace Go.Proofs.YtoldpdhhfmlckaaGreat
open Go.RowKit Go.Lib Go.Ev Go.Shelf

theorem qb0 (k : Nat) (z z' : Bool) (l v : List Int) (i j : Int) (hi : 0 ≤ i) (hij : i < j) (hj : j ≤ (l.length : Int)) (hv : 1 ≤ v.length) (hne : ¬ i + (v.length : Int) = j) (hl : l.length ≤ 1048576) (hvl : v.length ≤ 1048576) :
    go (k + 1) slices_Replace_int_int [.arr true z (.ints .i64 l), .int .i64 i, .int .i64 j, .arr false z' (.ints .i64 v)] = some [.arr true false (.ints .i64 (l.take i.toNat ++ v ++ l.drop j.toNat))] := by
  have e : go (k + 1) slices_Replace_int_int [.arr true z (.ints .i64 l), .int .i64 i, .int .i64 j, .arr false z' (.ints .i64 v)] = repGo (.ints .i64 l) (.ints .i64 v) i j := Eq.trans rfl rfl
  have hl' : (Arr.len (Arr.ints .i64 l)) = l.length := rfl
  have hv' : (Arr.len (Arr.ints .i64 v)) = v.length := rfl
  have hr : repA (.ints .i64 l) (.ints .i64 v) i.toNat j.toNat = some (.ints .i64 (l.take i.toNat ++ v ++ l.drop j.toNat)) := by
    have hd : List.take (l.length - j.toNat) (List.drop j.toNat l) = List.drop j.toNat l := List.take_of_length_le (by rw [List.length_drop]; omega)
    simp [repA, Arr.sub, Arr.app, Arr.len, hd]
  rw [e]
  unfold repGo
  rw [hl', hv', hr]
  simp [hi, hij, hj, hv, hne, show l.length ≤ 549755813888 by omega, show v.length ≤ 549755813888 by omega]
theorem qlp (x : List Int) : okTs Tryz.prog [27] [.arr true false (.ints .i64 x)] = true := by kernel_rfl
set_option maxRecDepth 100000 in
theorem qia (ds rs : List D) (h : repI ds = some rs) : Contract Tryz.prog 240 [] ds rs := by
  unfold repI at h
  split at h
  · rename_i z l i j z' v
    unfold repGo at h
    cases hc : (decide (0 ≤ i) && decide (i < j) && decide (j ≤ ((Arr.len (Arr.ints .i64 l)) : Int)) && decide (1 ≤ (Arr.len (Arr.ints .i64 v))) && !decide (i + ((Arr.len (Arr.ints .i64 v)) : Int) = j) && decide ((Arr.len (Arr.ints .i64 l)) ≤ 549755813888) && decide ((Arr.len (Arr.ints .i64 v)) ≤ 549755813888))
    · rw [hc] at h; cases h
    rw [hc, qdv, Option.map_eq_some_iff] at h
    obtain ⟨c, hr, rfl⟩ := h
    simp only [Bool.and_eq_true, decide_eq_true_eq, Bool.not_eq_true', decide_eq_false_iff_not] at hc
    obtain ⟨⟨⟨⟨⟨⟨h1, h2⟩, h3⟩, h4⟩, h5⟩, h6⟩, h7⟩ := hc
    have hck : okTs Tryz.prog [27] [.arr true false c] = true := by
      have : c = .ints .i64 (l.take i.toNat ++ v ++ l.drop j.toNat) := by
        have hd : List.take (l.length - j.toNat) (List.drop j.toNat l) = List.drop j.toNat l := List.take_of_length_le (by rw [List.length_drop]; omega)
        simp [repA, Arr.sub, Arr.app, Arr.len, hd] at hr
        rw [← hr]; simp
      rw [this]; exact qlp _
    refine rep_contract (fn := Tryz.f240) (S := 27) Tryz.func240 (by kernel_rfl) (by kernel_rfl) hck h1 h2 h3 h4 rfl hr (fun w g cap vc x e' own hx hv => ?_)
    exact ql5 w g _ cap _ _ _ vc x _ _ e' (by omega) (by omega) h4 (by omega) h6 h7 own hx (Arr.cells_length _) hv (Arr.cells_one _) (Arr.cells_one _)
  · cases h

theorem qbz (k : Nat) (z z' : Bool) (l v : List (Int × Int × Int)) (i j : Int) (hi : 0 ≤ i) (hij : i < j) (hj : j ≤ (l.length : Int)) (hv : 1 ≤ v.length) (hne : ¬ i + (v.length : Int) = j) (hl : l.length ≤ 1048576) (hvl : v.length ≤ 1048576) :
    go (k + 1) slices_Replace_impl_Id_impl_Id [.arr true z (.r3 l), .int .i64 i, .int .i64 j, .arr false z' (.r3 v)] = some [.arr true false (.r3 (l.take i.toNat ++ v ++ l.drop j.toNat))] := by
  have e : go (k + 1) slices_Replace_impl_Id_impl_Id [.arr true z (.r3 l), .int .i64 i, .int .i64 j, .arr false z' (.r3 v)] = repGo (.r3 l) (.r3 v) i j := Eq.trans rfl rfl
  have hl' : (Arr.len (Arr.r3 l)) = l.length := rfl
  have hv' : (Arr.len (Arr.r3 v)) = v.length := rfl
  have hr : repA (.r3 l) (.r3 v) i.toNat j.toNat = some (.r3 (l.take i.toNat ++ v ++ l.drop j.toNat)) := by
    have hd : List.take (l.length - j.toNat) (List.drop j.toNat l) = List.drop j.toNat l := List.take_of_length_le (by rw [List.length_drop]; omega)
    simp [repA, Arr.sub, Arr.app, Arr.len, hd]
  rw [e]
  unfold repGo
  rw [hl', hv', hr]
  simp [hi, hij, hj, hv, hne, show l.length ≤ 549755813888 by omega, show v.length ≤ 549755813888 by omega]
theorem qlo (x : List (Int × Int × Int)) : okTs Tryz.prog [24] [.arr true false (.r3 x)] = true := by kernel_rfl
set_option maxRecDepth 100000 in
theorem qh9 (ds rs : List D) (h : rep3 ds = some rs) : Contract Tryz.prog 254 [] ds rs := by
  unfold rep3 at h
  split at h
  · rename_i z l i j z' v
    unfold repGo at h
    cases hc : (decide (0 ≤ i) && decide (i < j) && decide (j ≤ ((Arr.len (Arr.r3 l)) : Int)) && decide (1 ≤ (Arr.len (Arr.r3 v))) && !decide (i + ((Arr.len (Arr.r3 v)) : Int) = j) && decide ((Arr.len (Arr.r3 l)) ≤ 549755813888) && decide ((Arr.len (Arr.r3 v)) ≤ 549755813888))
    · rw [hc] at h; cases h
    rw [hc, qdv, Option.map_eq_some_iff] at h
    obtain ⟨c, hr, rfl⟩ := h
    simp only [Bool.and_eq_true, decide_eq_true_eq, Bool.not_eq_true', decide_eq_false_iff_not] at hc
    obtain ⟨⟨⟨⟨⟨⟨h1, h2⟩, h3⟩, h4⟩, h5⟩, h6⟩, h7⟩ := hc
    have hck : okTs Tryz.prog [24] [.arr true false c] = true := by
      have : c = .r3 (l.take i.toNat ++ v ++ l.drop j.toNat) := by
        have hd : List.take (l.length - j.toNat) (List.drop j.toNat l) = List.drop j.toNat l := List.take_of_length_le (by rw [List.length_drop]; omega)
        simp [repA, Arr.sub, Arr.app, Arr.len, hd] at hr
        rw [← hr]; simp
      rw [this]; exact qlo _
    refine rep_contract (fn := Tryz.f254) (S := 24) Tryz.func254 (by kernel_rfl) (by kernel_rfl) hck h1 h2 h3 h4 rfl hr (fun w g cap vc x e' own hx hv => ?_)
    exact ql4 w g _ cap _ _ _ vc x _ _ e' (by omega) (by omega) h4 (by omega) h6 h7 own hx (Arr.cells_length _) hv (Arr.cells_one _) (Arr.cells_one _)
  · cases h

theorem withExt : ∀ f g, An.ext f = some g → ∀ ds rs, g ds = some rs → Contract Tryz.prog f (An.mode f) ds rs := by
  intro f g h ds rs hd
  by_cases h1 : f = 240
  · subst h1
    have e : An.ext 240 = some repI := rfl
    rw [e] at h; cases h
    exact qia ds rs hd
  by_cases h2 : f = 254
  · subst h2
    have e : An.ext 254 = some rep3 := rfl
    rw [e] at h; cases h
    exact qh9 ds rs hd
  have n1 : Nat.beq f 240 = false := by cases b : Nat.beq f 240 with | false => rfl | true => exact absurd (Nat.eq_of_beq_eq_true b) h1
  have n2 : Nat.beq f 254 = false := by cases b : Nat.beq f 254 with | false => rfl | true => exact absurd (Nat.eq_of_beq_eq_true b) h2
  have e : An.ext f = none := by show cond (Nat.beq f 240) (some repI) (cond (Nat.beq f 254) (some rep3) none) = none; rw [n1, n2]; rfl
  rw [e] at h; cases h
end Go.Proofs.YtoldpdhhfmlckaaGreat
end
