/- What the program's functions compute, and plain facts of it (part 1). No condition beyond those that each theorem states. -/
import Derived.Test.YtoldpdhhfmlckaaGreatXA
import Derived.ProofKit
import Derived.Test.YtoldpdhhfmlckaaGreatRB
import Derived.Test.YtoldpdhhfmlckaaGreatProg
import Derived.WalkKit
import Derived.KernelRfl
import Derived.Deep.QuietTactic
import Derived.BigQuiet
set_option linter.unusedVariables false
set_option linter.unusedSimpArgs false
section
namespace Go.Proofs.YtoldpdhhfmlckaaGreat
open Go.Ev
theorem q0f {x : Int} (h : -9223372036854775808 ≤ x) (h' : x ≤ 9223372036854775807) : IntKind.wrap .i64 x = x := by rw [IntKind.wrap_i64]; omega
theorem q0g {x : Int} (h : 0 ≤ x) (h' : x ≤ 9223372036854775807) : IntKind.wrap .u64 x = x := by rw [IntKind.wrap_u64]; omega
theorem nth0 (d0 : D) (l : List D) : nth (d0 :: l) 0 = d0 := Eq.trans rfl rfl
theorem nth1 (d0 d1 : D) (l : List D) : nth (d0 :: d1 :: l) 1 = d1 := Eq.trans rfl rfl
theorem qgt (d0 : D) (l : List D) : (D.agg (d0 :: l)).cell 0 = d0 := Eq.trans rfl rfl
theorem qgu (d0 d1 : D) (l : List D) : (D.agg (d0 :: d1 :: l)).cell 1 = d1 := Eq.trans rfl rfl
theorem qg5 (d0 d1 d2 : D) (l : List D) : (D.agg (d0 :: d1 :: d2 :: l)).cell 2 = d2 := Eq.trans rfl rfl
theorem qg7 (d0 d1 d2 d3 : D) (l : List D) : (D.agg (d0 :: d1 :: d2 :: d3 :: l)).cell 3 = d3 := Eq.trans rfl rfl
theorem qg8 (d0 d1 d2 d3 d4 : D) (l : List D) : (D.agg (d0 :: d1 :: d2 :: d3 :: d4 :: l)).cell 4 = d4 := Eq.trans rfl rfl
theorem qg9 (d0 d1 d2 d3 d4 d5 : D) (l : List D) : (D.agg (d0 :: d1 :: d2 :: d3 :: d4 :: d5 :: l)).cell 5 = d5 := Eq.trans rfl rfl
theorem qha (d0 d1 d2 d3 d4 d5 d6 : D) (l : List D) : (D.agg (d0 :: d1 :: d2 :: d3 :: d4 :: d5 :: d6 :: l)).cell 6 = d6 := Eq.trans rfl rfl
theorem qhb (d0 d1 d2 d3 d4 d5 d6 d7 : D) (l : List D) : (D.agg (d0 :: d1 :: d2 :: d3 :: d4 :: d5 :: d6 :: d7 :: l)).cell 7 = d7 := Eq.trans rfl rfl
theorem qhc (d0 d1 d2 d3 d4 d5 d6 d7 d8 : D) (l : List D) : (D.agg (d0 :: d1 :: d2 :: d3 :: d4 :: d5 :: d6 :: d7 :: d8 :: l)).cell 8 = d8 := Eq.trans rfl rfl
theorem qzo (k : IntKind) (n : Int) : (D.int k n).toInt = n := Eq.trans rfl rfl
theorem qzn (b : Bool) : (D.bool b).toBool = b := Eq.trans rfl rfl
theorem qt9 (o n : Bool) (a : Arr) : (D.arr o n a).nil = n := Eq.trans rfl rfl
theorem quz (o n : Bool) (l : List (Int × Int × Int)) : (D.arr o n (.r3 l)).r3 = l := Eq.trans rfl rfl
theorem qoq (o n : Bool) (k : IntKind) (l : List Int) : (D.arr o n (.ints k l)).ints = l := Eq.trans rfl rfl
theorem qhn {α : Type} (x y : α) : cond true x y = x := Eq.trans rfl rfl
theorem qhl {α : Type} (x y : α) : cond false x y = y := Eq.trans rfl rfl
theorem qa2 {α : Type} (x : List D) (f : List D → Option α) : (some x).bind f = f x := Eq.trans rfl rfl
theorem dT {p : Prop} {i : Decidable p} (h : p) : @decide p i = true := by cases i <;> simp_all
theorem dF {p : Prop} {i : Decidable p} (h : ¬p) : @decide p i = false := by cases i <;> simp_all
theorem qgr (i : Nat) : (i : Int) + 1 = ((i + 1 : Nat) : Int) := Eq.trans rfl rfl
theorem qgs (i : Nat) : (i : Int) + 2 = ((i + 2 : Nat) : Int) := Eq.trans rfl rfl
theorem qgq {i : Nat} (h : 1 ≤ i) : (i : Int) - 1 = ((i - 1 : Nat) : Int) := by omega
theorem itT {α : Type} {i : Decidable True} (x y : α) : @ite α True i x y = x := by cases i with | isTrue _ => rfl | isFalse h => exact absurd trivial h
theorem niF {α : Type} {a b : Nat} {i : Decidable (a = b)} {x y : α} (h : ¬ a = b) : @ite α (a = b) i x y = y := by cases i with | isTrue e => exact absurd e h | isFalse _ => rfl
theorem imax (x y : Int) : (if x > y then x else y) = max x y := by by_cases h : x > y <;> simp only [h, if_true, if_false] <;> omega
theorem imin (x y : Int) : (if x < y then x else y) = min x y := by by_cases h : x < y <;> simp only [h, if_true, if_false] <;> omega
theorem qho (b x : Bool) : cond (!b) (some [D.bool false]) (some [D.bool x]) = some [D.bool (b && x)] := by cases b <;> rfl
theorem qhp (b x : Bool) : cond b (some [D.bool x]) (some [D.bool false]) = some [D.bool (b && x)] := by cases b <;> rfl
theorem dTT {i : Decidable True} : @decide True i = true := by cases i with | isTrue _ => rfl | isFalse h => exact absurd trivial h
theorem dFF {i : Decidable False} : @decide False i = false := by cases i with | isTrue h => exact h.elim | isFalse _ => rfl
theorem qt8 {α : Type} (l : List α) : [] ++ l = l := Eq.trans rfl rfl
theorem big0 : bigLen = 1099511627776 := Eq.trans rfl rfl
theorem qh2 {α : Type} {l : List α} {i : Nat} (h : i < l.length) (d : α) : l.drop i = l.getD i d :: l.drop (i + 1) := by
  rw [List.drop_eq_getElem_cons h]; simp [h]
theorem qxx {α : Type} (l : List α) (i j : Nat) (x d : α) : (l.set i x).getD j d = if i = j ∧ i < l.length then x else l.getD j d := by
  simp only [List.getD_eq_getElem?_getD, List.getElem?_set]
  by_cases h : i = j
  · subst h
    by_cases h2 : i < l.length
    · simp [h2]
    · simp [h2]
  · simp [h]
theorem qn9 {α : Type} {l : List α} {i : Nat} (h : l.length ≤ i) (d : α) : l.getD i d = d := by simp [h]
theorem qoa {α : Type} {l : List α} {i : Nat} (h : i < l.length) (d : α) : l.getD i d ∈ l := by simp [h]
end Go.Proofs.YtoldpdhhfmlckaaGreat
end
section
namespace Go.Proofs.YtoldpdhhfmlckaaGreat
open Go.Ev
theorem qmu (k : Nat) (a b c : Int) : go (k + 1) spec_l01In [(.int .i64 (a)), (.int .i64 (b)), (.int .i64 (c))] =
 cond (decide (b ≤ a))
 (some [(.bool (decide (a ≤ c)))])
 (some [(.bool (false))]) := by kernel_rfl
theorem qkh (k : Nat) (a b c : Int) : go (k + 1) impl_within [(.int .i64 (a)), (.int .i64 (b)), (.int .i64 (c))] =
 cond (decide (b ≤ a))
 (some [(.bool (decide (a ≤ c)))])
 (some [(.bool (false))]) := by kernel_rfl
theorem qka (k : Nat) (a : Int) : go (k + 1) impl_isLevel [(.int .i64 (a))] =
 (go k impl_within [(.int .i64 (a)), (.int .i64 (0 : Int)), (.int .i64 ((4 : Int)))]).bind fun r0 =>
 some [(.bool (bit (nth r0 0)))] := by kernel_rfl
theorem ql8 (k : Nat) (a0 a1 a2 : Int) : go (k + 1) spec_IdOk [(.agg [(.int .i64 (a0)), (.int .i64 (a1)), (.int .i64 (a2))])] =
 (go k spec_l01In [(.int .i64 (a0)), (.int .i64 (0 : Int)), (.int .i64 ((7 : Int)))]).bind fun r0 =>
 cond (bit (nth r0 0))
 ((go k spec_l01In [(.int .i64 (a1)), (.int .i64 (0 : Int)), (.int .i64 ((4 : Int)))]).bind fun r1 =>
 cond (bit (nth r1 0))
 (cond (decide ((0 : Int) ≤ a2))
 (cond (decide ((0 : Int) ≤ IntKind.wrap IntKind.u64 a1))
 (some [(.bool (decide (a2 < IntKind.wrap .i64 ((1 : Int) * (2 : Int) ^ shiftN .i64 (IntKind.wrap IntKind.u64 a1)))))])
 (none))
 (some [(.bool (false))]))
 (some [(.bool (false))]))
 (some [(.bool (false))]) := by kernel_rfl
theorem qii (k : Nat) (a0 a1 a2 : Int) : go (k + 1) impl_IdOk [(.agg [(.int .i64 (a0)), (.int .i64 (a1)), (.int .i64 (a2))])] =
 (go k impl_within [(.int .i64 (a0)), (.int .i64 (0 : Int)), (.int .i64 ((7 : Int)))]).bind fun r0 =>
 cond (bit (nth r0 0))
 ((go k impl_isLevel [(.int .i64 (a1))]).bind fun r1 =>
 cond (bit (nth r1 0))
 (cond (decide ((0 : Int) ≤ a1))
 ((go k impl_within [(.int .i64 (a2)), (.int .i64 (0 : Int)), (.int .i64 (IntKind.wrap .i64 (IntKind.wrap .i64 ((1 : Int) * (2 : Int) ^ shiftN .i64 a1) - (1 : Int))))]).bind fun r2 =>
 some [(.bool (bit (nth r2 0)))])
 (none))
 (some [(.bool (false))]))
 (some [(.bool (false))]) := by kernel_rfl
theorem qms (k : Nat) (a : Int) : go (k + 1) spec_WidthOf [(.int .i64 (a))] =
 (go k spec_l01In [(.int .i64 (a)), (.int .i64 (0 : Int)), (.int .i64 ((4 : Int)))]).bind fun r0 =>
 cond (!bit (nth r0 0))
 (some [(.int .i64 (0 : Int))])
 (cond (decide ((0 : Int) ≤ IntKind.wrap IntKind.u64 a))
 (some [(.int .i64 (Int.fdiv (16 : Int) ((2 : Int) ^ shiftN .i64 (IntKind.wrap IntKind.u64 a))))])
 (none)) := by kernel_rfl
theorem qjy (k : Nat) (a : Int) : go (k + 1) impl_WidthOf [(.int .i64 (a))] =
 (go k impl_isLevel [(.int .i64 (a))]).bind fun r0 =>
 cond (!bit (nth r0 0))
 (some [(.int .i64 (0 : Int))])
 (cond (decide ((0 : Int) ≤ a))
 (some [(.int .i64 (Int.fdiv (16 : Int) ((2 : Int) ^ shiftN .i64 a)))])
 (none)) := by kernel_rfl
theorem qmq (k : Nat) (a0 a1 a2 : Int) : go (k + 1) spec_StartOf [(.agg [(.int .i64 (a0)), (.int .i64 (a1)), (.int .i64 (a2))])] =
 (go k spec_IdOk [(.agg [(.int .i64 (a0)), (.int .i64 (a1)), (.int .i64 (a2))])]).bind fun r0 =>
 cond (!bit (nth r0 0))
 (some [(.int .i64 ((-1 : Int)))])
 ((go k spec_WidthOf [(.int .i64 (a1))]).bind fun r1 =>
 some [(.int .i64 (IntKind.wrap .i64 (IntKind.wrap .i64 (a0 * (16 : Int)) + IntKind.wrap .i64 (a2 * D.toInt (nth r1 0)))))]) := by kernel_rfl
theorem qja (k : Nat) (a0 a1 a2 : Int) : go (k + 1) impl_StartOf [(.agg [(.int .i64 (a0)), (.int .i64 (a1)), (.int .i64 (a2))])] =
 (go k impl_IdOk [(.agg [(.int .i64 (a0)), (.int .i64 (a1)), (.int .i64 (a2))])]).bind fun r0 =>
 cond (!bit (nth r0 0))
 (some [(.int .i64 ((-1 : Int)))])
 ((go k impl_WidthOf [(.int .i64 (a1))]).bind fun r1 =>
 some [(.int .i64 (IntKind.wrap .i64 (IntKind.wrap .i64 (a0 * (16 : Int)) + IntKind.wrap .i64 (a2 * D.toInt (nth r1 0)))))]) := by kernel_rfl
theorem qmw (k : Nat) (a0 a1 a2 : Int) : go (k + 1) spec_l04End [(.agg [(.int .i64 (a0)), (.int .i64 (a1)), (.int .i64 (a2))])] =
 (go k spec_StartOf [(.agg [(.int .i64 (a0)), (.int .i64 (a1)), (.int .i64 (a2))])]).bind fun r0 =>
 (go k spec_WidthOf [(.int .i64 (a1))]).bind fun r1 =>
 some [(.int .i64 (IntKind.wrap .i64 (D.toInt (nth r0 0) + D.toInt (nth r1 0))))] := by kernel_rfl
theorem qj7 (k : Nat) (a0 a1 a2 : Int) : go (k + 1) impl_endOf [(.agg [(.int .i64 (a0)), (.int .i64 (a1)), (.int .i64 (a2))])] =
 (go k impl_StartOf [(.agg [(.int .i64 (a0)), (.int .i64 (a1)), (.int .i64 (a2))])]).bind fun r0 =>
 (go k impl_WidthOf [(.int .i64 (a1))]).bind fun r1 =>
 some [(.int .i64 (IntKind.wrap .i64 (D.toInt (nth r0 0) + D.toInt (nth r1 0))))] := by kernel_rfl
def qw9 (x0 x1 : Int) (z2 : Bool) (l3 : List (Int × Int × Int)) (x4 : Int) : St := ⟨fill 45 [(1, (.ptr 1 (0) (0))), (3, (.int .i64 (x0))), (4, (.int .i64 (x1)))], [], [(.arr false (z2) (.r3 (l3))), (.box true [(.int .i64 (x4)), (.sl 0 none)])]⟩
theorem qmh (k : Nat) (a0 : Int) (a1z : Bool) (a1 : List (Int × Int × Int)) : go (k + 1) spec_MeshOk [(.agg [(.int .i64 (a0)), (.arr false (a1z) (.r3 (a1)))])] =
 lp k spec_MeshOk [] [] 3 k (qw9 (0 : Int) (0 : Int) a1z a1 a0) := by kernel_rfl
theorem qqh (k n : Nat) (fu : List (Nat × Nat)) (x0 x1 : Int) (z2 : Bool) (l3 : List (Int × Int × Int)) (x4 : Int) : lp k spec_MeshOk [] fu 3 (n + 1) (qw9 x0 x1 z2 l3 x4) =
 cond (decide (x1 < nI (List.length l3)))
 (cond (decide ((0 : Int) ≤ x1) && decide (x1 < nI (List.length l3)))
 ((go k spec_IdOk [(.agg [(.int .i64 (Prod.fst (List.getD l3 (Int.toNat x1) zz3))), (.int .i64 (Prod.fst (Prod.snd (List.getD l3 (Int.toNat x1) zz3)))), (.int .i64 (Prod.snd (Prod.snd (List.getD l3 (Int.toNat x1) zz3))))])]).bind fun r0 =>
 cond (!bit (nth r0 0))
 (some [(.bool (false))])
 (cond (decide ((0 : Int) ≤ x1) && decide (x1 < nI (List.length l3)))
 ((go k spec_StartOf [(.agg [(.int .i64 (Prod.fst (List.getD l3 (Int.toNat x1) zz3))), (.int .i64 (Prod.fst (Prod.snd (List.getD l3 (Int.toNat x1) zz3)))), (.int .i64 (Prod.snd (Prod.snd (List.getD l3 (Int.toNat x1) zz3))))])]).bind fun r1 =>
 cond (!decide (D.toInt (nth r1 0) = x0))
 (some [(.bool (false))])
 (cond (decide ((0 : Int) ≤ x1) && decide (x1 < nI (List.length l3)))
 ((go k spec_l04End [(.agg [(.int .i64 (Prod.fst (List.getD l3 (Int.toNat x1) zz3))), (.int .i64 (Prod.fst (Prod.snd (List.getD l3 (Int.toNat x1) zz3)))), (.int .i64 (Prod.snd (Prod.snd (List.getD l3 (Int.toNat x1) zz3))))])]).bind fun r2 =>
 lp k spec_MeshOk [] fu 3 n (qw9 (D.toInt (nth r2 0)) (IntKind.wrap .i64 (x1 + (1 : Int))) z2 l3 x4))
 (none)))
 (none)))
 (none))
 ((go k spec_l01In [(.int .i64 (x4)), (.int .i64 ((1 : Int))), (.int .i64 ((8 : Int)))]).bind fun r3 =>
 cond (bit (nth r3 0))
 (some [(.bool (decide (x0 = IntKind.wrap .i64 (x4 * (16 : Int)))))])
 (some [(.bool (false))])) := by kernel_rfl
def qvz (x0 x1 x2 : Int) (z3 : Bool) (l4 : List (Int × Int × Int)) (x5 : Int) : St := ⟨fill 35 [(1, (.ptr 1 (0) (0))), (3, (.int .i64 (x0))), (7, (.sl 0 none)), (8, (.int .i64 (x1))), (9, (.int .i64 (x2)))], [], [(.arr false (z3) (.r3 (l4))), (.box true [(.int .i64 (x5)), (.sl 0 none)])]⟩
theorem qir (k : Nat) (a0 : Int) (a1z : Bool) (a1 : List (Int × Int × Int)) : go (k + 1) impl_MeshOk [(.agg [(.int .i64 (a0)), (.arr false (a1z) (.r3 (a1)))])] =
 lp k impl_MeshOk [] [] 3 k (qvz (0 : Int) (nI (List.length a1)) (0 : Int) a1z a1 a0) := by kernel_rfl
theorem qo7 (k n : Nat) (fu : List (Nat × Nat)) (x0 x1 x2 : Int) (z3 : Bool) (l4 : List (Int × Int × Int)) (x5 : Int) : lp k impl_MeshOk [] fu 3 (n + 1) (qvz x0 x1 x2 z3 l4 x5) =
 cond (decide (x2 < x1))
 (cond (decide ((0 : Int) ≤ x2) && decide (x2 < nI (List.length l4)))
 ((go k impl_IdOk [(.agg [(.int .i64 (Prod.fst (List.getD l4 (Int.toNat x2) zz3))), (.int .i64 (Prod.fst (Prod.snd (List.getD l4 (Int.toNat x2) zz3)))), (.int .i64 (Prod.snd (Prod.snd (List.getD l4 (Int.toNat x2) zz3))))])]).bind fun r0 =>
 cond (!bit (nth r0 0))
 (some [(.bool (false))])
 ((go k impl_StartOf [(.agg [(.int .i64 (Prod.fst (List.getD l4 (Int.toNat x2) zz3))), (.int .i64 (Prod.fst (Prod.snd (List.getD l4 (Int.toNat x2) zz3)))), (.int .i64 (Prod.snd (Prod.snd (List.getD l4 (Int.toNat x2) zz3))))])]).bind fun r1 =>
 cond (!decide (D.toInt (nth r1 0) = x0))
 (some [(.bool (false))])
 ((go k impl_endOf [(.agg [(.int .i64 (Prod.fst (List.getD l4 (Int.toNat x2) zz3))), (.int .i64 (Prod.fst (Prod.snd (List.getD l4 (Int.toNat x2) zz3)))), (.int .i64 (Prod.snd (Prod.snd (List.getD l4 (Int.toNat x2) zz3))))])]).bind fun r2 =>
 lp k impl_MeshOk [] fu 3 n (qvz (D.toInt (nth r2 0)) x1 (IntKind.wrap .i64 (x2 + (1 : Int))) z3 l4 x5))))
 (none))
 ((go k impl_within [(.int .i64 (x5)), (.int .i64 ((1 : Int))), (.int .i64 ((8 : Int)))]).bind fun r3 =>
 cond (bit (nth r3 0))
 (some [(.bool (decide (x0 = IntKind.wrap .i64 (x5 * (16 : Int)))))])
 (some [(.bool (false))])) := by kernel_rfl
theorem qmy (k : Nat) (a0 : Int) (a1z : Bool) (a1 : List (Int × Int × Int)) (b : Int) : go (k + 1) spec_l05Face [(.agg [(.int .i64 (a0)), (.arr false (a1z) (.r3 (a1)))]), (.int .i64 (b))] =
 cond (decide ((0 : Int) ≤ b) && decide (b < nI (List.length a1)))
 (cond (decide ((0 : Int) ≤ IntKind.wrap .i64 (b + (1 : Int))) && decide (IntKind.wrap .i64 (b + (1 : Int)) < nI (List.length a1)))
 (some [(.int .i64 (if Prod.fst (Prod.snd (List.getD a1 (Int.toNat (IntKind.wrap .i64 (b + (1 : Int)))) zz3)) > Prod.fst (Prod.snd (List.getD a1 (Int.toNat b) zz3)) then Prod.fst (Prod.snd (List.getD a1 (Int.toNat (IntKind.wrap .i64 (b + (1 : Int)))) zz3)) else Prod.fst (Prod.snd (List.getD a1 (Int.toNat b) zz3))))])
 (none))
 (none) := by kernel_rfl
theorem qiu (k : Nat) (a0 : Int) (a1z : Bool) (a1 : List (Int × Int × Int)) (b : Int) : go (k + 1) impl_Mesh_faceLevel [(.agg [(.int .i64 (a0)), (.arr false (a1z) (.r3 (a1)))]), (.int .i64 (b))] =
 cond (decide ((0 : Int) ≤ b) && decide (b < nI (List.length a1)))
 (cond (decide ((0 : Int) ≤ IntKind.wrap .i64 (b + (1 : Int))) && decide (IntKind.wrap .i64 (b + (1 : Int)) < nI (List.length a1)))
 (some [(.int .i64 (if Prod.fst (Prod.snd (List.getD a1 (Int.toNat (IntKind.wrap .i64 (b + (1 : Int)))) zz3)) > Prod.fst (Prod.snd (List.getD a1 (Int.toNat b) zz3)) then Prod.fst (Prod.snd (List.getD a1 (Int.toNat (IntKind.wrap .i64 (b + (1 : Int)))) zz3)) else Prod.fst (Prod.snd (List.getD a1 (Int.toNat b) zz3))))])
 (none))
 (none) := by kernel_rfl
theorem ql9 (k : Nat) (a b : Int) : go (k + 1) spec_IsActive [(.int .i64 (a)), (.int .i64 (b))] =
 (go k spec_WidthOf [(.int .i64 (b))]).bind fun r0 =>
 cond (decide ((0 : Int) ≤ a))
 (cond (decide ((0 : Int) < D.toInt (nth r0 0)))
 (cond (!decide (D.toInt (nth r0 0) = (0 : Int)))
 (some [(.bool (decide (Int.tmod a (D.toInt (nth r0 0)) = (0 : Int))))])
 (none))
 (some [(.bool (false))]))
 (some [(.bool (false))]) := by kernel_rfl
theorem qij (k : Nat) (a b : Int) : go (k + 1) impl_IsActive [(.int .i64 (a)), (.int .i64 (b))] =
 (go k impl_isLevel [(.int .i64 (b))]).bind fun r0 =>
 cond (bit (nth r0 0))
 (cond (decide ((0 : Int) ≤ a))
 ((go k impl_WidthOf [(.int .i64 (b))]).bind fun r1 =>
 cond (!decide (D.toInt (nth r1 0) = (0 : Int)))
 (some [(.bool (decide (Int.tmod a (D.toInt (nth r1 0)) = (0 : Int))))])
 (none))
 (some [(.bool (false))]))
 (some [(.bool (false))]) := by kernel_rfl
def qxg (x0 : Int) (z1 : Bool) (l2 : List (Int × Int × Int)) (x3 : Int) : St := ⟨fill 34 [(1, (.ptr 1 (0) (0))), (3, (.int .i64 (x0)))], [], [(.arr false (z1) (.r3 (l2))), (.box true [(.int .i64 (x3)), (.sl 0 none)])]⟩
theorem qmz (k : Nat) (a0 : Int) (a1z : Bool) (a1 : List (Int × Int × Int)) : go (k + 1) spec_l05First [(.agg [(.int .i64 (a0)), (.arr false (a1z) (.r3 (a1)))])] =
 lp k spec_l05First [] [] 2 k (qxg (0 : Int) a1z a1 a0) := by kernel_rfl
theorem qqo (k n : Nat) (fu : List (Nat × Nat)) (x0 : Int) (z1 : Bool) (l2 : List (Int × Int × Int)) (x3 : Int) : lp k spec_l05First [] fu 2 (n + 1) (qxg x0 z1 l2 x3) =
 cond (decide (IntKind.wrap .i64 (x0 + (1 : Int)) < nI (List.length l2)))
 (cond (decide ((0 : Int) ≤ x0) && decide (x0 < nI (List.length l2)))
 (cond (decide ((0 : Int) ≤ IntKind.wrap .i64 (x0 + (1 : Int))) && decide (IntKind.wrap .i64 (x0 + (1 : Int)) < nI (List.length l2)))
 (cond (decide ((1 : Int) < IntKind.wrap .i64 (Prod.fst (Prod.snd (List.getD l2 (Int.toNat x0) zz3)) - Prod.fst (Prod.snd (List.getD l2 (Int.toNat (IntKind.wrap .i64 (x0 + (1 : Int)))) zz3)))))
 (some [(.int .i64 (x0))])
 (cond (decide (IntKind.wrap .i64 (Prod.fst (Prod.snd (List.getD l2 (Int.toNat x0) zz3)) - Prod.fst (Prod.snd (List.getD l2 (Int.toNat (IntKind.wrap .i64 (x0 + (1 : Int)))) zz3))) < (-1 : Int)))
 (some [(.int .i64 (x0))])
 (lp k spec_l05First [] fu 2 n (qxg (IntKind.wrap .i64 (x0 + (1 : Int))) z1 l2 x3))))
 (none))
 (none))
 (some [(.int .i64 ((-1 : Int)))]) := by kernel_rfl
def qv2 (x0 x1 : Int) (z2 : Bool) (l3 : List (Int × Int × Int)) (x4 : Int) : St := ⟨fill 29 [(1, (.ptr 1 (0) (0))), (7, (.int .i64 (x0))), (8, (.int .i64 (x1)))], [], [(.arr false (z2) (.r3 (l3))), (.box true [(.int .i64 (x4)), (.sl 0 none)])]⟩
theorem qi0 (k : Nat) (a0 : Int) (a1z : Bool) (a1 : List (Int × Int × Int)) : go (k + 1) impl_Mesh_unbalanced [(.agg [(.int .i64 (a0)), (.arr false (a1z) (.r3 (a1)))])] =
 lp k impl_Mesh_unbalanced [] [] 2 k (qv2 (IntKind.wrap .i64 (nI (List.length a1) - (1 : Int))) (0 : Int) a1z a1 a0) := by kernel_rfl
theorem qpa (k n : Nat) (fu : List (Nat × Nat)) (x0 x1 : Int) (z2 : Bool) (l3 : List (Int × Int × Int)) (x4 : Int) : lp k impl_Mesh_unbalanced [] fu 2 (n + 1) (qv2 x0 x1 z2 l3 x4) =
 cond (decide (x1 < x0))
 (cond (decide ((0 : Int) ≤ x1) && decide (x1 < nI (List.length l3)))
 (cond (decide ((0 : Int) ≤ IntKind.wrap .i64 (x1 + (1 : Int))) && decide (IntKind.wrap .i64 (x1 + (1 : Int)) < nI (List.length l3)))
 ((go k impl_absolute [(.int .i64 (IntKind.wrap .i64 (Prod.fst (Prod.snd (List.getD l3 (Int.toNat x1) zz3)) - Prod.fst (Prod.snd (List.getD l3 (Int.toNat (IntKind.wrap .i64 (x1 + (1 : Int)))) zz3)))))]).bind fun r0 =>
 cond (decide ((1 : Int) < D.toInt (nth r0 0)))
 (some [(.int .i64 (x1))])
 (lp k impl_Mesh_unbalanced [] fu 2 n (qv2 x0 (IntKind.wrap .i64 (x1 + (1 : Int))) z2 l3 x4)))
 (none))
 (none))
 (some [(.int .i64 ((-1 : Int)))]) := by kernel_rfl
theorem qj2 (k : Nat) (a : Int) : go (k + 1) impl_absolute [(.int .i64 (a))] =
 some [(.int .i64 (if IntKind.wrap .i64 ((0 : Int) - a) > a then IntKind.wrap .i64 ((0 : Int) - a) else a))] := by kernel_rfl
theorem qma (k : Nat) (a0 : Int) (a1z : Bool) (a1 : List (Int × Int × Int)) : go (k + 1) spec_IsBalanced [(.agg [(.int .i64 (a0)), (.arr false (a1z) (.r3 (a1)))])] =
 (go k spec_MeshOk [(.agg [(.int .i64 (a0)), (.arr false (a1z) (.r3 (a1)))])]).bind fun r0 =>
 cond (bit (nth r0 0))
 ((go k spec_l05First [(.agg [(.int .i64 (a0)), (.arr false (a1z) (.r3 (a1)))])]).bind fun r1 =>
 some [(.bool (decide (D.toInt (nth r1 0) < (0 : Int))))])
 (some [(.bool (false))]) := by kernel_rfl
theorem qik (k : Nat) (a0 : Int) (a1z : Bool) (a1 : List (Int × Int × Int)) : go (k + 1) impl_IsBalanced [(.agg [(.int .i64 (a0)), (.arr false (a1z) (.r3 (a1)))])] =
 (go k impl_MeshOk [(.agg [(.int .i64 (a0)), (.arr false (a1z) (.r3 (a1)))])]).bind fun r0 =>
 cond (bit (nth r0 0))
 ((go k impl_Mesh_unbalanced [(.agg [(.int .i64 (a0)), (.arr false (a1z) (.r3 (a1)))])]).bind fun r1 =>
 some [(.bool (decide (D.toInt (nth r1 0) < (0 : Int))))])
 (some [(.bool (false))]) := by kernel_rfl
theorem qiv (k : Nat) (a0 : Int) (a1z : Bool) (a1 : List (Int × Int × Int)) (b : Int) : go (k + 1) impl_Mesh_has [(.agg [(.int .i64 (a0)), (.arr false (a1z) (.r3 (a1)))]), (.int .i64 (b))] =
 (go k impl_within [(.int .i64 (b)), (.int .i64 (0 : Int)), (.int .i64 (IntKind.wrap .i64 (nI (List.length a1) - (1 : Int))))]).bind fun r0 =>
 some [(.bool (bit (nth r0 0)))] := by kernel_rfl
end Go.Proofs.YtoldpdhhfmlckaaGreat
end
section
namespace Go.Proofs.YtoldpdhhfmlckaaGreat
open Go.Ev
theorem qlk (k : Nat) (a0 a1 a2 : Int) : go (k + 1) laws_toId [(.agg [(.int .i64 (a0)), (.int .i64 (a1)), (.int .i64 (a2))])] =
 some [(.agg [(.int .i64 (a0)), (.int .i64 (a1)), (.int .i64 (a2))])] := by kernel_rfl
def qww (x0 : Int) (z1 : Bool) (l2 : List (Int × Int × Int)) (z3 : Bool) (l4 : List (Int × Int × Int)) : St := ⟨fill 23 [(0, (.sl 0 none)), (3, (.sl 1 none)), (4, (.int .i64 (x0)))], [], [(.arr false (z1) (.r3 (l2))), (.arr true (z3) (.r3 (l4)))]⟩
theorem qll (k : Nat) (az : Bool) (a : List (Int × Int × Int)) : go (k + 1) laws_toIdS [(.arr false (az) (.r3 (a)))] =
 cond (decide ((0 : Int) ≤ nI (List.length a)) && decide (nI (List.length a) ≤ nI (List.length a)) && decide (nI (List.length a) ≤ nI bigLen))
 (lp k laws_toIdS [] [] 3 k (qww (0 : Int) az a false (List.replicate (Int.toNat (nI (List.length a))) zz3)))
 (none) := by kernel_rfl
theorem qp4 (k n : Nat) (fu : List (Nat × Nat)) (x0 : Int) (z1 : Bool) (l2 : List (Int × Int × Int)) (z3 : Bool) (l4 : List (Int × Int × Int)) : lp k laws_toIdS [] fu 3 (n + 1) (qww x0 z1 l2 z3 l4) =
 cond (decide (x0 < nI (List.length l2)))
 (cond (decide ((0 : Int) ≤ x0) && decide (x0 < nI (List.length l2)))
 ((go k laws_toId [(.agg [(.int .i64 (Prod.fst (List.getD l2 (Int.toNat x0) zz3))), (.int .i64 (Prod.fst (Prod.snd (List.getD l2 (Int.toNat x0) zz3)))), (.int .i64 (Prod.snd (Prod.snd (List.getD l2 (Int.toNat x0) zz3))))])]).bind fun r0 =>
 cond (decide ((0 : Int) ≤ x0) && decide (x0 < nI (List.length l4)))
 (lp k laws_toIdS [] fu 3 n (qww (IntKind.wrap .i64 (x0 + (1 : Int))) z1 l2 z3 (List.set l4 (Int.toNat x0) (D.toInt (D.cell 0 (nth r0 0)), D.toInt (D.cell 1 (nth r0 0)), D.toInt (D.cell 2 (nth r0 0))))))
 (none))
 (none))
 (some [(.arr true (z3) (.r3 (l4)))]) := by kernel_rfl
theorem qlo (k : Nat) (a0 : Int) (a1z : Bool) (a1 : List (Int × Int × Int)) : go (k + 1) laws_toMesh [(.agg [(.int .i64 (a0)), (.arr false (a1z) (.r3 (a1)))])] =
 (go k laws_toIdS [(.arr false (a1z) (.r3 (a1)))]).bind fun r0 =>
 some [(.agg [(.int .i64 (a0)), (.arr true (D.nil (nth r0 0)) (.r3 (D.r3 (nth r0 0))))])] := by kernel_rfl
theorem qlc (k : Nat) (az : Bool) (a : List (Int × Int × Int)) (b : Int) : go (k + 1) laws_szIdS [(.arr false (az) (.r3 (a))), (.int .i64 (b))] =
 cond (decide (IntKind.wrap .i64 (b - nI (List.length a)) < (0 : Int)))
 (some [(.int .i64 ((-1 : Int)))])
 (some [(.int .i64 (IntKind.wrap .i64 (b - nI (List.length a))))]) := by kernel_rfl
theorem qle (k : Nat) (a0 : Int) (a1z : Bool) (a1 : List (Int × Int × Int)) (b : Int) : go (k + 1) laws_szMesh [(.agg [(.int .i64 (a0)), (.arr false (a1z) (.r3 (a1)))]), (.int .i64 (b))] =
 (go k laws_szIdS [(.arr false (a1z) (.r3 (a1))), (.int .i64 (b))]).bind fun r0 =>
 cond (decide (D.toInt (nth r0 0) < (0 : Int)))
 (some [(.int .i64 ((-1 : Int)))])
 (some [(.int .i64 (D.toInt (nth r0 0)))]) := by kernel_rfl
theorem qks (k : Nat) (a0 a1 a2 b0 b1 b2 : Int) : go (k + 1) laws_eqId [(.agg [(.int .i64 (a0)), (.int .i64 (a1)), (.int .i64 (a2))]), (.agg [(.int .i64 (b0)), (.int .i64 (b1)), (.int .i64 (b2))])] =
 cond (!decide (a0 = b0))
 (some [(.bool (false))])
 (cond (!decide (a1 = b1))
 (some [(.bool (false))])
 (cond (!decide (a2 = b2))
 (some [(.bool (false))])
 (some [(.bool (true))]))) := by kernel_rfl
def qwo (x0 : Int) (z1 : Bool) (l2 : List (Int × Int × Int)) (z3 : Bool) (l4 : List (Int × Int × Int)) : St := ⟨fill 27 [(0, (.sl 0 none)), (1, (.sl 1 none)), (5, (.int .i64 (x0)))], [], [(.arr false (z1) (.r3 (l2))), (.arr false (z3) (.r3 (l4)))]⟩
theorem qkt (k : Nat) (az : Bool) (a : List (Int × Int × Int)) (bz : Bool) (b : List (Int × Int × Int)) : go (k + 1) laws_eqIdS [(.arr false (az) (.r3 (a))), (.arr false (bz) (.r3 (b)))] =
 cond (!decide (nI (List.length a) = nI (List.length b)))
 (some [(.bool (false))])
 (lp k laws_eqIdS [] [] 4 k (qwo (0 : Int) az a bz b)) := by kernel_rfl
theorem qpw (k n : Nat) (fu : List (Nat × Nat)) (x0 : Int) (z1 : Bool) (l2 : List (Int × Int × Int)) (z3 : Bool) (l4 : List (Int × Int × Int)) : lp k laws_eqIdS [] fu 4 (n + 1) (qwo x0 z1 l2 z3 l4) =
 cond (decide (x0 < nI (List.length l2)))
 (cond (decide ((0 : Int) ≤ x0) && decide (x0 < nI (List.length l2)))
 (cond (decide ((0 : Int) ≤ x0) && decide (x0 < nI (List.length l4)))
 ((go k laws_eqId [(.agg [(.int .i64 (Prod.fst (List.getD l2 (Int.toNat x0) zz3))), (.int .i64 (Prod.fst (Prod.snd (List.getD l2 (Int.toNat x0) zz3)))), (.int .i64 (Prod.snd (Prod.snd (List.getD l2 (Int.toNat x0) zz3))))]), (.agg [(.int .i64 (Prod.fst (List.getD l4 (Int.toNat x0) zz3))), (.int .i64 (Prod.fst (Prod.snd (List.getD l4 (Int.toNat x0) zz3)))), (.int .i64 (Prod.snd (Prod.snd (List.getD l4 (Int.toNat x0) zz3))))])]).bind fun r0 =>
 cond (!bit (nth r0 0))
 (some [(.bool (false))])
 (lp k laws_eqIdS [] fu 4 n (qwo (IntKind.wrap .i64 (x0 + (1 : Int))) z1 l2 z3 l4)))
 (none))
 (none))
 (some [(.bool (true))]) := by kernel_rfl
theorem qkw (k : Nat) (a0 : Int) (a1z : Bool) (a1 : List (Int × Int × Int)) (b0 : Int) (b1z : Bool) (b1 : List (Int × Int × Int)) : go (k + 1) laws_eqMesh [(.agg [(.int .i64 (a0)), (.arr false (a1z) (.r3 (a1)))]), (.agg [(.int .i64 (b0)), (.arr false (b1z) (.r3 (b1)))])] =
 cond (!decide (a0 = b0))
 (some [(.bool (false))])
 ((go k laws_eqIdS [(.arr false (a1z) (.r3 (a1))), (.arr false (b1z) (.r3 (b1)))]).bind fun r0 =>
 cond (!bit (nth r0 0))
 (some [(.bool (false))])
 (some [(.bool (true))])) := by kernel_rfl
def qwx (x0 : Int) (z1 : Bool) (l2 : List Int) (z3 : Bool) (l4 : List Int) : St := ⟨fill 22 [(0, (.sl 0 none)), (3, (.sl 1 none)), (4, (.int .i64 (x0)))], [], [(.arr false (z1) (.ints .i64 (l2))), (.arr true (z3) (.ints .i64 (l4)))]⟩
theorem qlm (k : Nat) (az : Bool) (a : List Int) : go (k + 1) laws_toIntS [(.arr false (az) (.ints .i64 (a)))] =
 cond (decide ((0 : Int) ≤ nI (List.length a)) && decide (nI (List.length a) ≤ nI (List.length a)) && decide (nI (List.length a) ≤ nI bigLen))
 (lp k laws_toIntS [] [] 3 k (qwx (0 : Int) az a false (List.replicate (Int.toNat (nI (List.length a))) (0 : Int))))
 (none) := by kernel_rfl
theorem qp5 (k n : Nat) (fu : List (Nat × Nat)) (x0 : Int) (z1 : Bool) (l2 : List Int) (z3 : Bool) (l4 : List Int) : lp k laws_toIntS [] fu 3 (n + 1) (qwx x0 z1 l2 z3 l4) =
 cond (decide (x0 < nI (List.length l2)))
 (cond (decide ((0 : Int) ≤ x0) && decide (x0 < nI (List.length l2)))
 (cond (decide ((0 : Int) ≤ x0) && decide (x0 < nI (List.length l4)))
 (lp k laws_toIntS [] fu 3 n (qwx (IntKind.wrap .i64 (x0 + (1 : Int))) z1 l2 z3 (List.set l4 (Int.toNat x0) (List.getD l2 (Int.toNat x0) (0 : Int)))))
 (none))
 (none))
 (some [(.arr true (z3) (.ints .i64 (l4)))]) := by kernel_rfl
theorem qld (k : Nat) (az : Bool) (a : List Int) (b : Int) : go (k + 1) laws_szIntS [(.arr false (az) (.ints .i64 (a))), (.int .i64 (b))] =
 cond (decide (IntKind.wrap .i64 (b - nI (List.length a)) < (0 : Int)))
 (some [(.int .i64 ((-1 : Int)))])
 (some [(.int .i64 (IntKind.wrap .i64 (b - nI (List.length a))))]) := by kernel_rfl
def qwp (x0 : Int) (z1 : Bool) (l2 : List Int) (z3 : Bool) (l4 : List Int) : St := ⟨fill 26 [(0, (.sl 0 none)), (1, (.sl 1 none)), (5, (.int .i64 (x0)))], [], [(.arr false (z1) (.ints .i64 (l2))), (.arr false (z3) (.ints .i64 (l4)))]⟩
theorem qku (k : Nat) (az : Bool) (a : List Int) (bz : Bool) (b : List Int) : go (k + 1) laws_eqIntS [(.arr false (az) (.ints .i64 (a))), (.arr false (bz) (.ints .i64 (b)))] =
 cond (!decide (nI (List.length a) = nI (List.length b)))
 (some [(.bool (false))])
 (lp k laws_eqIntS [] [] 4 k (qwp (0 : Int) az a bz b)) := by kernel_rfl
theorem qpx (k n : Nat) (fu : List (Nat × Nat)) (x0 : Int) (z1 : Bool) (l2 : List Int) (z3 : Bool) (l4 : List Int) : lp k laws_eqIntS [] fu 4 (n + 1) (qwp x0 z1 l2 z3 l4) =
 cond (decide (x0 < nI (List.length l2)))
 (cond (decide ((0 : Int) ≤ x0) && decide (x0 < nI (List.length l2)))
 (cond (decide ((0 : Int) ≤ x0) && decide (x0 < nI (List.length l4)))
 (cond (!decide (List.getD l2 (Int.toNat x0) (0 : Int) = List.getD l4 (Int.toNat x0) (0 : Int)))
 (some [(.bool (false))])
 (lp k laws_eqIntS [] fu 4 n (qwp (IntKind.wrap .i64 (x0 + (1 : Int))) z1 l2 z3 l4)))
 (none))
 (none))
 (some [(.bool (true))]) := by kernel_rfl
end Go.Proofs.YtoldpdhhfmlckaaGreat
end
section
namespace Go.Proofs.YtoldpdhhfmlckaaGreat
open Go.Ev
def inR (a b c : Int) : Bool := decide (b ≤ a) && decide (a ≤ c)
theorem qoo {a b c : Int} : inR a b c = true ↔ b ≤ a ∧ a ≤ c := by simp [inR]
theorem qfu (k : Nat) (hk : 2000000 ≤ k) (a : Int) (b : Int) (c : Int) : go (k + 1) spec_l01In [(.int .i64 (a)), (.int .i64 (b)), (.int .i64 (c))] = some [.bool (inR a b c)] := by
  rw [qmu]; unfold inR; cases decide (b ≤ a) <;> rfl
theorem qdk (k : Nat) (hk : 2000000 ≤ k) (a : Int) (b : Int) (c : Int) : go (k + 1) impl_within [(.int .i64 (a)), (.int .i64 (b)), (.int .i64 (c))] = some [.bool (inR a b c)] := by
  rw [qkh]; unfold inR; cases decide (b ≤ a) <;> rfl
def pow2 (l : Int) : Int := 2 ^ l.toNat
def idOk (r l i : Int) : Bool := inR r 0 7 && (inR l 0 4 && (decide (0 ≤ i) && decide (i < pow2 l)))
theorem lev {l : Int} (h : inR l 0 4 = true) : l = 0 ∨ l = 1 ∨ l = 2 ∨ l = 3 ∨ l = 4 := by
  simp only [inR, Bool.and_eq_true, decide_eq_true_eq] at h; omega
theorem p20 : pow2 0 = 1 := rfl
theorem p21 : pow2 1 = 2 := rfl
theorem p22 : pow2 2 = 4 := rfl
theorem p23 : pow2 3 = 8 := rfl
theorem p24 : pow2 4 = 16 := rfl
theorem sh0 : shiftN .i64 0 = 0 := by decide
theorem sh1 : shiftN .i64 1 = 1 := by decide
theorem sh2 : shiftN .i64 2 = 2 := by decide
theorem sh3 : shiftN .i64 3 = 3 := by decide
theorem sh4 : shiftN .i64 4 = 4 := by decide
theorem pw {l : Int} (h : inR l 0 4 = true) : IntKind.wrap .i64 ((1 : Int) * (2 : Int) ^ shiftN .i64 l) = pow2 l := by
  rcases lev h with rfl | rfl | rfl | rfl | rfl <;> simp [sh0, sh1, sh2, sh3, sh4, q0f, p20, p21, p22, p23, p24]
theorem lev0 {l : Int} (h : inR l 0 4 = true) : 0 ≤ l ∧ l ≤ 4 := by
  simp only [inR, Bool.and_eq_true, decide_eq_true_eq] at h; omega
theorem quv {l : Int} (h : inR l 0 4 = true) : 1 ≤ pow2 l ∧ pow2 l ≤ 16 := by
  rcases lev h with rfl | rfl | rfl | rfl | rfl <;> simp [p20, p21, p22, p23, p24]
theorem qe6 (k : Nat) (hk : 2000000 ≤ k) (a0 : Int) (a1 : Int) (a2 : Int) : go (k + 2) spec_IdOk [(.agg [(.int .i64 (a0)), (.int .i64 (a1)), (.int .i64 (a2))])] = some [.bool (idOk a0 a1 a2)] := by
  rw [ql8]
  simp (disch := omega) only [qfu, bit, qa2, nth0, qzn]
  unfold idOk
  cases h1 : inR a0 0 7 <;> cases h2 : inR a1 0 4 <;> simp only [qhn, qhl, Bool.true_and, Bool.false_and, Bool.and_false]
  have := lev0 h2
  rw [q0g (x := a1) (by omega) (by omega), pw h2]
  by_cases h3 : (0 : Int) ≤ a2
  · simp [h3, this.1]
  · simp [h3]
theorem qcy (k : Nat) (hk : 2000000 ≤ k) (a : Int) : go (k + 2) impl_isLevel [(.int .i64 (a))] = some [.bool (inR a 0 4)] := by
  rw [qka]
  simp (disch := omega) only [qdk, bit, qa2, nth0, qzn]
theorem qbp (k : Nat) (hk : 2000000 ≤ k) (a0 : Int) (a1 : Int) (a2 : Int) : go (k + 3) impl_IdOk [(.agg [(.int .i64 (a0)), (.int .i64 (a1)), (.int .i64 (a2))])] = some [.bool (idOk a0 a1 a2)] := by
  rw [qii]
  simp (disch := omega) only [qdk, bit, qcy, qa2, nth0, qzn]
  unfold idOk
  cases h1 : inR a0 0 7 <;> cases h2 : inR a1 0 4 <;> simp only [qhn, qhl, Bool.true_and, Bool.false_and, Bool.and_false]
  have := lev0 h2
  have := quv h2
  rw [pw h2, q0f (x := pow2 a1 - 1) (by omega) (by omega)]
  rw [show decide ((0 : Int) ≤ a1) = true by simp; omega, qhn]
  have e : inR a2 0 (pow2 a1 - 1) = (decide (0 ≤ a2) && decide (a2 < pow2 a1)) := by
    unfold inR; rw [Bool.eq_iff_iff]; simp only [Bool.and_eq_true, decide_eq_true_eq]; omega
  rw [e]
def qz7 (l : Int) : Int := if inR l 0 4 then 16 / pow2 l else 0
theorem qfo (k : Nat) (hk : 2000000 ≤ k) (a : Int) : go (k + 2) spec_WidthOf [(.int .i64 (a))] = some [.int .i64 (qz7 a)] := by
  rw [qms]
  simp (disch := omega) only [qfu, bit, qa2, nth0, qzn, qz7]
  cases h2 : inR a 0 4
  · simp
  · rcases lev h2 with rfl | rfl | rfl | rfl | rfl <;> simp [q0g, sh0, sh1, sh2, sh3, sh4, p20, p21, p22, p23, p24] <;> decide
theorem qcb (k : Nat) (hk : 2000000 ≤ k) (a : Int) : go (k + 3) impl_WidthOf [(.int .i64 (a))] = some [.int .i64 (qz7 a)] := by
  rw [qjy]
  simp (disch := omega) only [qcy, bit, qa2, nth0, qzn, qz7]
  cases h2 : inR a 0 4
  · simp
  · rcases lev h2 with rfl | rfl | rfl | rfl | rfl <;> simp [q0g, sh0, sh1, sh2, sh3, sh4, p20, p21, p22, p23, p24] <;> decide
def qyq (r l i : Int) : Int := if idOk r l i then r * 16 + i * qz7 l else -1
theorem qz9 (l : Int) : 0 ≤ qz7 l ∧ qz7 l ≤ 16 := by
  unfold qz7
  cases h : inR l 0 4
  · simp
  · rcases lev h with rfl | rfl | rfl | rfl | rfl <;> decide
theorem qom {r l i : Int} (h : idOk r l i = true) : 0 ≤ r ∧ r ≤ 7 ∧ inR l 0 4 = true ∧ 0 ≤ i ∧ i < pow2 l := by
  simp only [idOk, Bool.and_eq_true, decide_eq_true_eq] at h
  obtain ⟨h1, h2, h3, h4⟩ := h
  simp only [inR, Bool.and_eq_true, decide_eq_true_eq] at h1
  exact ⟨h1.1, h1.2, h2, h3, h4⟩
theorem iw {r l i : Int} (h : idOk r l i = true) : 0 ≤ i * qz7 l ∧ i * qz7 l ≤ 256 := by
  obtain ⟨_, _, h2, h3, h4⟩ := qom h
  have h5 := (quv h2).2
  have h6 := qz9 l
  have h7 : i ≤ 16 := by omega
  refine ⟨Int.mul_nonneg h3 h6.1, ?_⟩
  calc i * qz7 l ≤ 16 * qz7 l := Int.mul_le_mul_of_nonneg_right h7 h6.1
    _ ≤ 16 * 16 := Int.mul_le_mul_of_nonneg_left h6.2 (by omega)
theorem qyr (r l i : Int) : -1 ≤ qyq r l i ∧ qyq r l i ≤ 1000 := by
  unfold qyq
  cases h : idOk r l i
  · simp
  · have := iw h; have := qom h
    simp; omega
theorem qyt {r l i : Int} (h : idOk r l i = true) : IntKind.wrap .i64 (IntKind.wrap .i64 (r * (16 : Int)) + IntKind.wrap .i64 (i * qz7 l)) = qyq r l i := by
  have h1 := iw h; have h2 := qom h
  rw [q0f (x := r * 16) (by omega) (by omega), q0f (x := i * qz7 l) (by omega) (by omega), q0f (by omega) (by omega)]
  simp [qyq, h]
theorem qfm (k : Nat) (hk : 2000000 ≤ k) (a0 : Int) (a1 : Int) (a2 : Int) : go (k + 3) spec_StartOf [(.agg [(.int .i64 (a0)), (.int .i64 (a1)), (.int .i64 (a2))])] = some [.int .i64 (qyq a0 a1 a2)] := by
  rw [qmq]
  simp (disch := omega) only [qe6, bit, qfo, qa2, nth0, qzo, qzn]
  cases h : idOk a0 a1 a2
  · simp [qyq, h]
  · rw [qyt h]; rfl
theorem qb7 (k : Nat) (hk : 2000000 ≤ k) (a0 : Int) (a1 : Int) (a2 : Int) : go (k + 4) impl_StartOf [(.agg [(.int .i64 (a0)), (.int .i64 (a1)), (.int .i64 (a2))])] = some [.int .i64 (qyq a0 a1 a2)] := by
  rw [qja]
  simp (disch := omega) only [qbp, bit, qcb, qa2, nth0, qzo, qzn]
  cases h : idOk a0 a1 a2
  · simp [qyq, h]
  · rw [qyt h]; rfl
theorem qnt (r l i : Int) : IntKind.wrap .i64 (qyq r l i + qz7 l) = qyq r l i + qz7 l := by
  have h1 := qyr r l i; have h2 := qz9 l
  exact q0f (by omega) (by omega)
theorem qfw (k : Nat) (hk : 2000000 ≤ k) (a0 : Int) (a1 : Int) (a2 : Int) : go (k + 4) spec_l04End [(.agg [(.int .i64 (a0)), (.int .i64 (a1)), (.int .i64 (a2))])] = some [.int .i64 (qyq a0 a1 a2 + qz7 a1)] := by
  rw [qmw]
  simp (disch := omega) only [qfm, qfo, qa2, nth0, qzo, qnt]
theorem qcr (k : Nat) (hk : 2000000 ≤ k) (a0 : Int) (a1 : Int) (a2 : Int) : go (k + 5) impl_endOf [(.agg [(.int .i64 (a0)), (.int .i64 (a1)), (.int .i64 (a2))])] = some [.int .i64 (qyq a0 a1 a2 + qz7 a1)] := by
  rw [qj7]
  simp (disch := omega) only [qb7, qcb, qa2, nth0, qzo, qnt]
abbrev Cell := Int × Int × Int
def qtt (roots : Int) : Int → List Cell → Bool
  | pos, [] => inR roots 1 8 && decide (pos = roots * 16)
  | pos, x :: rest => idOk x.1 x.2.1 x.2.2 && (decide (qyq x.1 x.2.1 x.2.2 = pos) && qtt roots (qyq x.1 x.2.1 x.2.2 + qz7 x.2.1) rest)
theorem qtw (roots pos : Int) : cond (inR roots 1 8) (some [D.bool (decide (pos = IntKind.wrap .i64 (roots * (16 : Int))))]) (some [D.bool false]) = some [D.bool (qtt roots pos [])] := by
  unfold qtt
  cases h : inR roots 1 8
  · rfl
  · simp only [inR, Bool.and_eq_true, decide_eq_true_eq] at h
    rw [q0f (by omega) (by omega)]; rfl
theorem qsu (k : Nat) (hk : 2000000 ≤ k) (fu : List (Nat × Nat)) (z : Bool) (l : List Cell) (roots : Int) (hl : (l.length : Int) ≤ 1048576) : ∀ (n i : Nat) (pos : Int), i ≤ l.length → l.length - i < n →
    lp (k + 4) spec_MeshOk [] fu 3 (n) (qw9 pos (i : Int) z l roots) = some [.bool (qtt roots pos (l.drop i))]
  | 0, i, pos, hi, hn => by omega
  | n + 1, i, pos, hi, hn => by
    rw [qqh]
    by_cases h : i < l.length
    · rw [qh2 h zz3]
      simp (disch := omega) only [nI, dT, Bool.and_true, Int.toNat_natCast, qe6, bit, qfm, qfw, qgr, q0f, qa2, nth0, qzo, qhn, qzn, qtt]
      rw [qsu k hk fu z l roots hl n (i + 1) _ (by omega) (by omega)]
      simp only [qho, qhp, Bool.and_assoc]
    · rw [List.drop_of_length_le (by omega)]
      simp (disch := omega) only [nI, dF, dT, Bool.and_false, Int.toNat_natCast, bit, qgr, q0f, qhl, qfu, qa2, nth0, qzn]
      exact qtw roots pos
theorem qfe (k : Nat) (hk : 2000000 ≤ k) (a0 : Int) (a1z : Bool) (a1 : List (Int × Int × Int)) (hl : (a1.length : Int) ≤ 1048576) : go (k + 5) spec_MeshOk [(.agg [(.int .i64 (a0)), (.arr false (a1z) (.r3 (a1)))])] = some [.bool (qtt a0 0 a1)] := by
  rw [qmh]
  exact qsu k hk _ _ a1 a0 hl _ 0 0 (by omega) (by omega)
theorem qrr (k : Nat) (hk : 2000000 ≤ k) (fu : List (Nat × Nat)) (z : Bool) (l : List Cell) (roots : Int) (hl : (l.length : Int) ≤ 1048576) : ∀ (n i : Nat) (pos : Int), i ≤ l.length → l.length - i < n →
    lp (k + 5) impl_MeshOk [] fu 3 (n) (qvz pos (l.length : Int) (i : Int) z l roots) = some [.bool (qtt roots pos (l.drop i))]
  | 0, i, pos, hi, hn => by omega
  | n + 1, i, pos, hi, hn => by
    rw [qo7]
    by_cases h : i < l.length
    · rw [qh2 h zz3]
      simp (disch := omega) only [dT, nI, Bool.and_true, Int.toNat_natCast, qbp, bit, qb7, qcr, qgr, q0f, qa2, nth0, qzo, qzn, qhn, qtt]
      rw [qrr k hk fu z l roots hl n (i + 1) _ (by omega) (by omega)]
      simp only [qho, qhp, Bool.and_assoc]
    · rw [List.drop_of_length_le (by omega)]
      simp (disch := omega) only [dF, dT, nI, Bool.and_false, Int.toNat_natCast, bit, qgr, q0f, qhl, qdk, qa2, nth0, qzn]
      exact qtw roots pos
theorem qbw (k : Nat) (hk : 2000000 ≤ k) (a0 : Int) (a1z : Bool) (a1 : List (Int × Int × Int)) (hl : (a1.length : Int) ≤ 1048576) : go (k + 6) impl_MeshOk [(.agg [(.int .i64 (a0)), (.arr false (a1z) (.r3 (a1)))])] = some [.bool (qtt a0 0 a1)] := by
  rw [qir]
  exact qrr k hk _ _ a1 a0 hl _ 0 0 (by omega) (by omega)
theorem qcu (k : Nat) (hk : 2000000 ≤ k) (a0 : Int) (a1z : Bool) (a1 : List (Int × Int × Int)) (b : Int) (hl : (a1.length : Int) ≤ 1048576) : go (k + 2) impl_Mesh_has [(.agg [(.int .i64 (a0)), (.arr false (a1z) (.r3 (a1)))]), (.int .i64 (b))] = some [.bool (inR b 0 ((a1.length : Int) - 1))] := by
  rw [qiv]
  simp (disch := omega) only [nI, q0f, qdk, bit, qa2, nth0, qzn]
end Go.Proofs.YtoldpdhhfmlckaaGreat
end
section
namespace Go.Proofs.YtoldpdhhfmlckaaGreat
open Go.Ev
theorem qxz {α : Type} (l o : List α) (i : Nat) (d : α) (h : i < l.length) (ho : o.length = l.length) : (o.set i (l.getD i d)).take (i + 1) ++ l.drop (i + 1) = o.take i ++ l.drop i := by
  rw [qh2 h d]
  have : (o.set i (l.getD i d)).take (i + 1) = o.take i ++ [l.getD i d] := by
    rw [List.take_succ_eq_append_getElem (by simp; omega)]
    simp [List.take_set_of_le]
  rw [this]; simp
theorem qeg (k : Nat) (hk : 2000000 ≤ k) (a0 : Int) (a1 : Int) (a2 : Int) : go (k + 1) laws_toId [(.agg [(.int .i64 (a0)), (.int .i64 (a1)), (.int .i64 (a2))])] = some [.agg [.int .i64 a0, .int .i64 a1, .int .i64 a2]] := by rw [qlk]
theorem qsg (k : Nat) (hk : 2000000 ≤ k) (fu : List (Nat × Nat)) (z z' : Bool) (l : List Cell) (hl : (l.length : Int) ≤ 1048576) : ∀ (n i : Nat) (o : List Cell), i ≤ l.length → o.length = l.length → l.length - i < n →
    lp (k + 1) laws_toIdS [] fu 3 (n) (qww (i : Int) z l z' o) = some [.arr true z' (.r3 (o.take i ++ l.drop i))]
  | 0, i, o, hi, ho, hn => by omega
  | n + 1, i, o, hi, ho, hn => by
    rw [qp4]
    by_cases h : i < l.length
    · simp (disch := omega) only [nI, dT, Bool.and_true, Int.toNat_natCast, qeg, qgr, q0f, qhn, qa2, nth0, qgt, qzo, qgu, qg5]
      rw [qsg k hk fu z z' l hl n (i + 1) _ (by omega) (by simp [ho]) (by omega)]
      exact congrArg (fun x => some [D.arr true z' (.r3 x)]) (qxz l o i zz3 h ho)
    · simp (disch := omega) only [nI, dF, dT, Bool.and_false, Int.toNat_natCast, qgr, q0f, qhl]
      have hil : i = l.length := by omega
      rw [hil, List.drop_length, List.append_nil, List.take_of_length_le (by omega)]
theorem qeh (k : Nat) (hk : 2000000 ≤ k) (az : Bool) (a : List (Int × Int × Int)) (hl : (a.length : Int) ≤ 1048576) : go (k + 2) laws_toIdS [(.arr false (az) (.r3 (a)))] = some [.arr true false (.r3 a)] := by
  rw [qll]
  simp (disch := omega) only [nI, dT, Bool.and_true, big0, Int.toNat_natCast, qhn]
  refine Eq.trans (qsg k hk [] az false a hl _ 0 (List.replicate a.length zz3) (by omega) (by simp) (by omega)) ?_
  simp
theorem qek (k : Nat) (hk : 2000000 ≤ k) (a0 : Int) (a1z : Bool) (a1 : List (Int × Int × Int)) (hl : (a1.length : Int) ≤ 1048576) : go (k + 3) laws_toMesh [(.agg [(.int .i64 (a0)), (.arr false (a1z) (.r3 (a1)))])] = some [.agg [.int .i64 a0, .arr true false (.r3 a1)]] := by
  rw [qlo]
  simp (disch := omega) only [qeh, qa2, nth0, qt9, quz]
theorem qd8 (k : Nat) (hk : 2000000 ≤ k) (az : Bool) (a : List (Int × Int × Int)) (b : Int) (hl : (a.length : Int) ≤ 9223372036854775807) (hb : 0 ≤ b) (hb' : b ≤ 1048576) : go (k + 1) laws_szIdS [(.arr false (az) (.r3 (a))), (.int .i64 (b))] = some [.int .i64 (if (a.length : Int) ≤ b then b - a.length else -1)] := by
  rw [qlc]
  by_cases h : (a.length : Int) ≤ b
  · simp (disch := omega) only [nI, q0f, dF, qhl, if_pos h]
  · simp (disch := omega) only [nI, q0f, dT, qhn, if_neg h]
theorem qea (k : Nat) (hk : 2000000 ≤ k) (a0 : Int) (a1z : Bool) (a1 : List (Int × Int × Int)) (b : Int) (hl : (a1.length : Int) ≤ 9223372036854775807) (hb : 0 ≤ b) (hb' : b ≤ 1048576) : go (k + 2) laws_szMesh [(.agg [(.int .i64 (a0)), (.arr false (a1z) (.r3 (a1)))]), (.int .i64 (b))] = some [.int .i64 (if (a1.length : Int) ≤ b then b - a1.length else -1)] := by
  rw [qle]
  simp (disch := omega) only [qd8, qa2, nth0, qzo]
  by_cases h : (a1.length : Int) ≤ b
  · simp (disch := omega) only [if_pos h, dF, qhl]
  · simp (disch := omega) only [if_neg h, dT, qhn]
theorem qdo (k : Nat) (hk : 2000000 ≤ k) (a b c : Int) : go (k + 1) laws_eqId [.agg [.int .i64 a, .int .i64 b, .int .i64 c], .agg [.int .i64 a, .int .i64 b, .int .i64 c]] = some [.bool true] := by
  rw [qks]; simp
theorem qr8 (k : Nat) (hk : 2000000 ≤ k) (fu : List (Nat × Nat)) (z z' : Bool) (l : List Cell) (hl : (l.length : Int) ≤ 1048576) : ∀ (n i : Nat), i ≤ l.length → l.length - i < n →
    lp (k + 1) laws_eqIdS [] fu 4 (n) (qwo (i : Int) z l z' l) = some [.bool true]
  | 0, i, hi, hn => by omega
  | n + 1, i, hi, hn => by
    rw [qpw]
    by_cases h : i < l.length
    · simp (disch := omega) only [nI, dT, Bool.and_true, Int.toNat_natCast, qdo, bit, qgr, q0f, qa2, nth0, qzn, Bool.not_true, qhl, qhn]
      exact qr8 k hk fu z z' l hl n (i + 1) (by omega) (by omega)
    · simp (disch := omega) only [nI, dF, dT, Bool.and_false, Int.toNat_natCast, bit, qgr, q0f, qhl]
theorem qdp (k : Nat) (hk : 2000000 ≤ k) (z z' : Bool) (l : List Cell) (hl : (l.length : Int) ≤ 1048576) : go (k + 2) laws_eqIdS [.arr false z (.r3 l), .arr false z' (.r3 l)] = some [.bool true] := by
  rw [qkt]
  simp (disch := omega) only [nI, dTT, Bool.not_true, qhl]
  exact qr8 k hk [] z z' l hl _ 0 (by omega) (by omega)
theorem qds (k : Nat) (hk : 2000000 ≤ k) (roots : Int) (z z' : Bool) (l : List Cell) (hl : (l.length : Int) ≤ 1048576) : go (k + 3) laws_eqMesh [.agg [.int .i64 roots, .arr false z (.r3 l)], .agg [.int .i64 roots, .arr false z' (.r3 l)]] = some [.bool true] := by
  rw [qkw]
  simp (disch := omega) only [dTT, Bool.not_true, qdp, bit, qa2, nth0, qzn, qhl]
theorem qsh (k : Nat) (hk : 2000000 ≤ k) (fu : List (Nat × Nat)) (z z' : Bool) (l : List Int) (hl : (l.length : Int) ≤ 1048576) : ∀ (n i : Nat) (o : List Int), i ≤ l.length → o.length = l.length → l.length - i < n →
    lp k laws_toIntS [] fu 3 (n) (qwx (i : Int) z l z' o) = some [.arr true z' (.ints .i64 (o.take i ++ l.drop i))]
  | 0, i, o, hi, ho, hn => by omega
  | n + 1, i, o, hi, ho, hn => by
    rw [qp5]
    by_cases h : i < l.length
    · simp (disch := omega) only [nI, dT, Bool.and_true, qgr, q0f, Int.toNat_natCast, qhn]
      rw [qsh k hk fu z z' l hl n (i + 1) _ (by omega) (by simp [ho]) (by omega)]
      exact congrArg (fun x => some [D.arr true z' (.ints .i64 x)]) (qxz l o i 0 h ho)
    · simp (disch := omega) only [nI, dF, dT, Bool.and_false, qgr, q0f, Int.toNat_natCast, qhl]
      have hil : i = l.length := by omega
      rw [hil, List.drop_length, List.append_nil, List.take_of_length_le (by omega)]
theorem qei (k : Nat) (hk : 2000000 ≤ k) (az : Bool) (a : List Int) (hl : (a.length : Int) ≤ 1048576) : go (k + 1) laws_toIntS [(.arr false (az) (.ints .i64 (a)))] = some [.arr true false (.ints .i64 a)] := by
  rw [qlm]
  simp (disch := omega) only [nI, dT, Bool.and_true, big0, Int.toNat_natCast, qhn]
  refine Eq.trans (qsh k hk [] az false a hl _ 0 (List.replicate a.length 0) (by omega) (by simp) (by omega)) ?_
  simp
theorem qd9 (k : Nat) (hk : 2000000 ≤ k) (az : Bool) (a : List Int) (b : Int) (hl : (a.length : Int) ≤ 9223372036854775807) (hb : 0 ≤ b) (hb' : b ≤ 1048576) : go (k + 1) laws_szIntS [(.arr false (az) (.ints .i64 (a))), (.int .i64 (b))] = some [.int .i64 (if (a.length : Int) ≤ b then b - a.length else -1)] := by
  rw [qld]
  by_cases h : (a.length : Int) ≤ b
  · simp (disch := omega) only [nI, q0f, dF, qhl, if_pos h]
  · simp (disch := omega) only [nI, q0f, dT, qhn, if_neg h]
theorem qr9 (k : Nat) (hk : 2000000 ≤ k) (fu : List (Nat × Nat)) (z z' : Bool) (l : List Int) (hl : (l.length : Int) ≤ 1048576) : ∀ (n i : Nat), i ≤ l.length → l.length - i < n →
    lp k laws_eqIntS [] fu 4 (n) (qwp (i : Int) z l z' l) = some [.bool true]
  | 0, i, hi, hn => by omega
  | n + 1, i, hi, hn => by
    rw [qpx]
    by_cases h : i < l.length
    · simp (disch := omega) only [nI, dT, Bool.and_true, Int.toNat_natCast, dTT, Bool.not_true, qgr, q0f, qhl, qhn]
      exact qr9 k hk fu z z' l hl n (i + 1) (by omega) (by omega)
    · simp (disch := omega) only [nI, dF, dT, Bool.and_false, Int.toNat_natCast, dTT, Bool.not_true, qgr, q0f, qhl]
theorem qdq (k : Nat) (hk : 2000000 ≤ k) (z z' : Bool) (l : List Int) (hl : (l.length : Int) ≤ 1048576) : go (k + 1) laws_eqIntS [.arr false z (.ints .i64 l), .arr false z' (.ints .i64 l)] = some [.bool true] := by
  rw [qku]
  simp (disch := omega) only [nI, dTT, Bool.not_true, qhl]
  exact qr9 k hk [] z z' l hl _ 0 (by omega) (by omega)
end Go.Proofs.YtoldpdhhfmlckaaGreat
end
section
namespace Go.Proofs.YtoldpdhhfmlckaaGreat
open Go.Ev
def qxe (x0 : Int) (z1 : Bool) (l2 : List (Int × Int × Int)) (z3 : Bool) (l4 : List Int) (z5 : Bool) (l6 : List Int) (z7 : Bool) (l8 : List Int) (x9 : Int) : St := ⟨fill 84 [(1, (.ptr 4 (0) (0))), (3, (.int .i64 (x0)))], [], [(.arr false (z1) (.r3 (l2))), (.arr false (z3) (.ints .i64 (l4))), (.arr false (z5) (.ints .i64 (l6))), (.arr false (z7) (.ints .i64 (l8))), (.box true [(.int .i64 (x9)), (.sl 0 none), (.sl 1 none), (.sl 2 none), (.sl 3 none)])]⟩
def qxf (x0 : Int) (z1 : Bool) (l2 : List (Int × Int × Int)) (z3 : Bool) (l4 : List Int) (z5 : Bool) (l6 : List Int) (z7 : Bool) (l8 : List Int) (x9 : Int) : St := ⟨fill 84 [(1, (.ptr 4 (0) (0))), (4, (.int .i64 (x0)))], [], [(.arr false (z1) (.r3 (l2))), (.arr false (z3) (.ints .i64 (l4))), (.arr false (z5) (.ints .i64 (l6))), (.arr false (z7) (.ints .i64 (l8))), (.box true [(.int .i64 (x9)), (.sl 0 none), (.sl 1 none), (.sl 2 none), (.sl 3 none)])]⟩
theorem qmr (k : Nat) (a0 : Int) (a1z : Bool) (a1 : List (Int × Int × Int)) (a2z : Bool) (a2 : List Int) (a3z : Bool) (a3 : List Int) (a4z : Bool) (a4 : List Int) : go (k + 1) spec_StateOk [(.agg [(.int .i64 (a0)), (.arr false (a1z) (.r3 (a1))), (.arr false (a2z) (.ints .i64 (a2))), (.arr false (a3z) (.ints .i64 (a3))), (.arr false (a4z) (.ints .i64 (a4)))])] =
 (go k spec_IsBalanced [(.agg [(.int .i64 (a0)), (.arr false (a1z) (.r3 (a1)))])]).bind fun r0 =>
 cond (!bit (nth r0 0))
 (some [(.bool (false))])
 (cond (!decide (nI (List.length a2) = nI (List.length a1)))
 (some [(.bool (false))])
 (cond (!decide (nI (List.length a3) = nI (List.length a2)))
 (some [(.bool (false))])
 (cond (!decide (nI (List.length a4) = a0))
 (some [(.bool (false))])
 (lp k spec_StateOk [] [] 4 k (qxe (0 : Int) a1z a1 a2z a2 a3z a3 a4z a4 a0))))) := by kernel_rfl
theorem qqm (k n : Nat) (fu : List (Nat × Nat)) (x0 : Int) (z1 : Bool) (l2 : List (Int × Int × Int)) (z3 : Bool) (l4 : List Int) (z5 : Bool) (l6 : List Int) (z7 : Bool) (l8 : List Int) (x9 : Int) : lp k spec_StateOk [] fu 4 (n + 1) (qxe x0 z1 l2 z3 l4 z5 l6 z7 l8 x9) =
 cond (decide (x0 < nI (List.length l4)))
 (cond (decide ((0 : Int) ≤ x0) && decide (x0 < nI (List.length l4)))
 ((go k spec_l01In [(.int .i64 (List.getD l4 (Int.toNat x0) (0 : Int))), (.int .i64 (0 : Int)), (.int .i64 ((10000000 : Int)))]).bind fun r0 =>
 cond (!bit (nth r0 0))
 (some [(.bool (false))])
 (cond (decide ((0 : Int) ≤ x0) && decide (x0 < nI (List.length l6)))
 (cond (decide ((0 : Int) ≤ x0) && decide (x0 < nI (List.length l4)))
 ((go k spec_l01In [(.int .i64 (List.getD l6 (Int.toNat x0) (0 : Int))), (.int .i64 (0 : Int)), (.int .i64 (IntKind.wrap .i64 ((1000 : Int) * List.getD l4 (Int.toNat x0) (0 : Int))))]).bind fun r1 =>
 cond (!bit (nth r1 0))
 (some [(.bool (false))])
 (lp k spec_StateOk [] fu 4 n (qxe (IntKind.wrap .i64 (x0 + (1 : Int))) z1 l2 z3 l4 z5 l6 z7 l8 x9)))
 (none))
 (none)))
 (none))
 (lp k spec_StateOk [] fu 9 k (qxf (0 : Int) z1 l2 z3 l4 z5 l6 z7 l8 x9)) := by kernel_rfl
theorem qqn (k n : Nat) (fu : List (Nat × Nat)) (x0 : Int) (z1 : Bool) (l2 : List (Int × Int × Int)) (z3 : Bool) (l4 : List Int) (z5 : Bool) (l6 : List Int) (z7 : Bool) (l8 : List Int) (x9 : Int) : lp k spec_StateOk [] fu 9 (n + 1) (qxf x0 z1 l2 z3 l4 z5 l6 z7 l8 x9) =
 cond (decide (x0 < nI (List.length l8)))
 (cond (decide ((0 : Int) ≤ x0) && decide (x0 < nI (List.length l8)))
 ((go k spec_l01In [(.int .i64 (List.getD l8 (Int.toNat x0) (0 : Int))), (.int .i64 (0 : Int)), (.int .i64 ((1000000 : Int)))]).bind fun r0 =>
 cond (!bit (nth r0 0))
 (some [(.bool (false))])
 (lp k spec_StateOk [] fu 9 n (qxf (IntKind.wrap .i64 (x0 + (1 : Int))) z1 l2 z3 l4 z5 l6 z7 l8 x9)))
 (none))
 ((go k spec_l07Sum [(.arr false (z3) (.ints .i64 (l4)))]).bind fun r1 =>
 some [(.bool (decide (D.toInt (nth r1 0) ≤ (10000000 : Int))))]) := by kernel_rfl
theorem qjb (k : Nat) (a0 : Int) (a1z : Bool) (a1 : List (Int × Int × Int)) (a2z : Bool) (a2 : List Int) (a3z : Bool) (a3 : List Int) (a4z : Bool) (a4 : List Int) : go (k + 1) impl_StateOk [(.agg [(.int .i64 (a0)), (.arr false (a1z) (.r3 (a1))), (.arr false (a2z) (.ints .i64 (a2))), (.arr false (a3z) (.ints .i64 (a3))), (.arr false (a4z) (.ints .i64 (a4)))])] =
 (go k impl_IsBalanced [(.agg [(.int .i64 (a0)), (.arr false (a1z) (.r3 (a1)))])]).bind fun r0 =>
 cond (bit (nth r0 0))
 ((go k impl_State_hasCells [(.agg [(.int .i64 (a0)), (.arr false (a1z) (.r3 (a1))), (.arr false (a2z) (.ints .i64 (a2))), (.arr false (a3z) (.ints .i64 (a3))), (.arr false (a4z) (.ints .i64 (a4)))])]).bind fun r1 =>
 some [(.bool (bit (nth r1 0)))])
 (some [(.bool (false))]) := by kernel_rfl
def qwa (x0 x1 : Int) (z2 : Bool) (l3 : List (Int × Int × Int)) (z4 : Bool) (l5 : List Int) (z6 : Bool) (l7 : List Int) (z8 : Bool) (l9 : List Int) (x10 : Int) : St := ⟨fill 63 [(1, (.ptr 4 (0) (0))), (37, (.sl 1 none)), (38, (.int .i64 (x0))), (39, (.int .i64 (x1)))], [], [(.arr false (z2) (.r3 (l3))), (.arr false (z4) (.ints .i64 (l5))), (.arr false (z6) (.ints .i64 (l7))), (.arr false (z8) (.ints .i64 (l9))), (.box true [(.int .i64 (x10)), (.sl 0 none), (.sl 1 none), (.sl 2 none), (.sl 3 none)])]⟩
theorem qji (k : Nat) (a0 : Int) (a1z : Bool) (a1 : List (Int × Int × Int)) (a2z : Bool) (a2 : List Int) (a3z : Bool) (a3 : List Int) (a4z : Bool) (a4 : List Int) : go (k + 1) impl_State_hasCells [(.agg [(.int .i64 (a0)), (.arr false (a1z) (.r3 (a1))), (.arr false (a2z) (.ints .i64 (a2))), (.arr false (a3z) (.ints .i64 (a3))), (.arr false (a4z) (.ints .i64 (a4)))])] =
 cond (!decide (nI (List.length a2) = nI (List.length a1)))
 (some [(.bool (false))])
 (cond (!decide (nI (List.length a3) = nI (List.length a1)))
 (some [(.bool (false))])
 (cond (!decide (nI (List.length a4) = a0))
 (some [(.bool (false))])
 ((go k slices_ContainsFunc_int_int [(.arr false (a4z) (.ints .i64 (a4))), (.fn impl_State_hasCells_1 [])]).bind fun r0 =>
 cond (bit (nth r0 0))
 (some [(.bool (false))])
 (lp k impl_State_hasCells [] [] 5 k (qwa (nI (List.length a2)) (0 : Int) a1z a1 a2z a2 a3z a3 a4z a4 a0))))) := by kernel_rfl
theorem qpi (k n : Nat) (fu : List (Nat × Nat)) (x0 x1 : Int) (z2 : Bool) (l3 : List (Int × Int × Int)) (z4 : Bool) (l5 : List Int) (z6 : Bool) (l7 : List Int) (z8 : Bool) (l9 : List Int) (x10 : Int) : lp k impl_State_hasCells [] fu 5 (n + 1) (qwa x0 x1 z2 l3 z4 l5 z6 l7 z8 l9 x10) =
 cond (decide (x1 < x0))
 (cond (decide ((0 : Int) ≤ x1) && decide (x1 < nI (List.length l5)))
 ((go k impl_within [(.int .i64 (List.getD l5 (Int.toNat x1) (0 : Int))), (.int .i64 (0 : Int)), (.int .i64 ((10000000 : Int)))]).bind fun r0 =>
 cond (!bit (nth r0 0))
 (some [(.bool (false))])
 (cond (decide ((0 : Int) ≤ x1) && decide (x1 < nI (List.length l7)))
 ((go k impl_within [(.int .i64 (List.getD l7 (Int.toNat x1) (0 : Int))), (.int .i64 (0 : Int)), (.int .i64 (IntKind.wrap .i64 ((1000 : Int) * List.getD l5 (Int.toNat x1) (0 : Int))))]).bind fun r1 =>
 cond (!bit (nth r1 0))
 (some [(.bool (false))])
 (lp k impl_State_hasCells [] fu 5 n (qwa x0 (IntKind.wrap .i64 (x1 + (1 : Int))) z2 l3 z4 l5 z6 l7 z8 l9 x10)))
 (none)))
 (none))
 ((go k impl_sum [(.arr false (z4) (.ints .i64 (l5)))]).bind fun r2 =>
 some [(.bool (decide (D.toInt (nth r2 0) ≤ (10000000 : Int))))]) := by kernel_rfl
theorem qjj (k : Nat) (a : Int) : go (k + 1) impl_State_hasCells_1 [(.int .i64 (a))] =
 (go k impl_isBed [(.int .i64 (a))]).bind fun r0 =>
 some [(.bool (!bit (nth r0 0)))] := by kernel_rfl
theorem qj9 (k : Nat) (a : Int) : go (k + 1) impl_isBed [(.int .i64 (a))] =
 (go k impl_within [(.int .i64 (a)), (.int .i64 (0 : Int)), (.int .i64 ((1000000 : Int)))]).bind fun r0 =>
 some [(.bool (bit (nth r0 0)))] := by kernel_rfl
def qxh (x0 x1 : Int) (z2 : Bool) (l3 : List Int) : St := ⟨fill 18 [(0, (.sl 0 none)), (3, (.int .i64 (x0))), (4, (.int .i64 (x1)))], [], [(.arr false (z2) (.ints .i64 (l3)))]⟩
theorem qm4 (k : Nat) (az : Bool) (a : List Int) : go (k + 1) spec_l07Sum [(.arr false (az) (.ints .i64 (a)))] =
 lp k spec_l07Sum [] [] 3 k (qxh (0 : Int) (0 : Int) az a) := by kernel_rfl
theorem qqp (k n : Nat) (fu : List (Nat × Nat)) (x0 x1 : Int) (z2 : Bool) (l3 : List Int) : lp k spec_l07Sum [] fu 3 (n + 1) (qxh x0 x1 z2 l3) =
 cond (decide (x1 < nI (List.length l3)))
 (cond (decide ((0 : Int) ≤ x1) && decide (x1 < nI (List.length l3)))
 (lp k spec_l07Sum [] fu 3 n (qxh (IntKind.wrap .i64 (x0 + List.getD l3 (Int.toNat x1) (0 : Int))) (IntKind.wrap .i64 (x1 + (1 : Int))) z2 l3))
 (none))
 (some [(.int .i64 (x0))]) := by kernel_rfl
def qwm (x0 x1 x2 : Int) (z3 : Bool) (l4 : List Int) : St := ⟨fill 17 [(3, (.int .i64 (x0))), (6, (.sl 0 none)), (7, (.int .i64 (x1))), (8, (.int .i64 (x2)))], [], [(.arr false (z3) (.ints .i64 (l4)))]⟩
theorem qkg (k : Nat) (az : Bool) (a : List Int) : go (k + 1) impl_sum [(.arr false (az) (.ints .i64 (a)))] =
 lp k impl_sum [] [] 3 k (qwm (0 : Int) (nI (List.length a)) (0 : Int) az a) := by kernel_rfl
theorem qpu (k n : Nat) (fu : List (Nat × Nat)) (x0 x1 x2 : Int) (z3 : Bool) (l4 : List Int) : lp k impl_sum [] fu 3 (n + 1) (qwm x0 x1 x2 z3 l4) =
 cond (decide (x2 < x1))
 (cond (decide ((0 : Int) ≤ x2) && decide (x2 < nI (List.length l4)))
 (lp k impl_sum [] fu 3 n (qwm (IntKind.wrap .i64 (x0 + List.getD l4 (Int.toNat x2) (0 : Int))) x1 (IntKind.wrap .i64 (x2 + (1 : Int))) z3 l4))
 (none))
 (some [(.int .i64 (x0))]) := by kernel_rfl
def qw1 (x0 x1 : Int) (z2 : Bool) (l3 : List Int) : St := ⟨fill 19 [(0, (.sl 0 none)), (1, (.fn impl_State_hasCells_1 [])), (7, (.int .i64 (x0))), (8, (.int .i64 (x1)))], [], [(.arr false (z2) (.ints .i64 (l3)))]⟩
theorem qly (k : Nat) (v0 : Bool) (v1 : List Int) : go (k + 1) slices_IndexFunc_int_int [(.arr false (v0) (.ints .i64 (v1))), (.fn impl_State_hasCells_1 [])] =
 lp k slices_IndexFunc_int_int [] [] 2 k (qw1 (nI (List.length v1)) (0 : Int) v0 v1) := by kernel_rfl
theorem qp9 (k n : Nat) (fu : List (Nat × Nat)) (x0 x1 : Int) (z2 : Bool) (l3 : List Int) : lp k slices_IndexFunc_int_int [] fu 2 (n + 1) (qw1 x0 x1 z2 l3) =
 cond (decide (x1 < x0))
 (cond (decide ((0 : Int) ≤ x1) && decide (x1 < nI (List.length l3)))
 ((go k impl_State_hasCells_1 [(.int .i64 (List.getD l3 (Int.toNat x1) (0 : Int)))]).bind fun r0 =>
 cond (bit (nth r0 0))
 (some [(.int .i64 (x1))])
 (lp k slices_IndexFunc_int_int [] fu 2 n (qw1 x0 (IntKind.wrap .i64 (x1 + (1 : Int))) z2 l3)))
 (none))
 (some [(.int .i64 ((-1 : Int)))]) := by kernel_rfl
theorem qlu (k : Nat) (v0 : Bool) (v1 : List Int) : go (k + 1) slices_ContainsFunc_int_int [(.arr false (v0) (.ints .i64 (v1))), (.fn impl_State_hasCells_1 [])] =
 (go k slices_IndexFunc_int_int [(.arr false (v0) (.ints .i64 (v1))), (.fn impl_State_hasCells_1 [])]).bind fun r0 =>
 some [(.bool (decide ((0 : Int) ≤ D.toInt (nth r0 0))))] := by kernel_rfl
theorem qmv (k : Nat) (a0 : Int) (a1z : Bool) (a1 : List (Int × Int × Int)) : go (k + 1) spec_l04Copy [(.agg [(.int .i64 (a0)), (.arr false (a1z) (.r3 (a1)))])] =
 cond (decide (List.length ([] ++ a1) ≤ bigLen))
 (some [(.agg [(.int .i64 (a0)), (.arr true (false && decide (List.length ([] ++ a1) = 0)) (.r3 ([] ++ a1)))])])
 (none) := by kernel_rfl
theorem qm3 (k : Nat) (a0 : Int) (a1z : Bool) (a1 : List (Int × Int × Int)) (a2z : Bool) (a2 : List Int) (a3z : Bool) (a3 : List Int) (a4z : Bool) (a4 : List Int) : go (k + 1) spec_l07Copy [(.agg [(.int .i64 (a0)), (.arr false (a1z) (.r3 (a1))), (.arr false (a2z) (.ints .i64 (a2))), (.arr false (a3z) (.ints .i64 (a3))), (.arr false (a4z) (.ints .i64 (a4)))])] =
 (go k spec_l04Copy [(.agg [(.int .i64 (a0)), (.arr false (a1z) (.r3 (a1)))])]).bind fun r0 =>
 cond (decide (List.length ([] ++ a2) ≤ bigLen))
 (cond (decide (List.length ([] ++ a3) ≤ bigLen))
 (cond (decide (List.length ([] ++ a4) ≤ bigLen))
 (some [(.agg [(.int .i64 (D.toInt (D.cell 0 (nth r0 0)))), (.arr true (D.nil (D.cell 1 (nth r0 0))) (.r3 (D.r3 (D.cell 1 (nth r0 0))))), (.arr true (false && decide (List.length ([] ++ a2) = 0)) (.ints .i64 ([] ++ a2))), (.arr true (false && decide (List.length ([] ++ a3) = 0)) (.ints .i64 ([] ++ a3))), (.arr true (false && decide (List.length ([] ++ a4) = 0)) (.ints .i64 ([] ++ a4)))])])
 (none))
 (none))
 (none) := by kernel_rfl
theorem qj4 (k : Nat) (a0 : Int) (a1z : Bool) (a1 : List (Int × Int × Int)) : go (k + 1) impl_copyMesh [(.agg [(.int .i64 (a0)), (.arr false (a1z) (.r3 (a1)))])] =
 (go k slices_Clone_impl_Id_impl_Id [(.arr false (a1z) (.r3 (a1)))]).bind fun r0 =>
 some [(.agg [(.int .i64 (a0)), (.arr true (D.nil (nth r0 0)) (.r3 (D.r3 (nth r0 0))))])] := by kernel_rfl
theorem qj5 (k : Nat) (a0 : Int) (a1z : Bool) (a1 : List (Int × Int × Int)) (a2z : Bool) (a2 : List Int) (a3z : Bool) (a3 : List Int) (a4z : Bool) (a4 : List Int) : go (k + 1) impl_copyState [(.agg [(.int .i64 (a0)), (.arr false (a1z) (.r3 (a1))), (.arr false (a2z) (.ints .i64 (a2))), (.arr false (a3z) (.ints .i64 (a3))), (.arr false (a4z) (.ints .i64 (a4)))])] =
 (go k impl_copyMesh [(.agg [(.int .i64 (a0)), (.arr false (a1z) (.r3 (a1)))])]).bind fun r0 =>
 (go k slices_Clone_int_int [(.arr false (a2z) (.ints .i64 (a2)))]).bind fun r1 =>
 (go k slices_Clone_int_int [(.arr false (a3z) (.ints .i64 (a3)))]).bind fun r2 =>
 (go k slices_Clone_int_int [(.arr false (a4z) (.ints .i64 (a4)))]).bind fun r3 =>
 some [(.agg [(.int .i64 (D.toInt (D.cell 0 (nth r0 0)))), (.arr true (D.nil (D.cell 1 (nth r0 0))) (.r3 (D.r3 (D.cell 1 (nth r0 0))))), (.arr true (D.nil (nth r1 0)) (.ints .i64 (D.ints (nth r1 0)))), (.arr true (D.nil (nth r2 0)) (.ints .i64 (D.ints (nth r2 0)))), (.arr true (D.nil (nth r3 0)) (.ints .i64 (D.ints (nth r3 0))))])] := by kernel_rfl
theorem qlt (k : Nat) (az : Bool) (a : List Int) : go (k + 1) slices_Clone_int_int [(.arr false (az) (.ints .i64 (a)))] =
 cond (az)
 (some [(.arr true (true) (.ints .i64 ([])))])
 (cond (decide (List.length ([] ++ a) ≤ bigLen))
 (some [(.arr true (false && decide (List.length ([] ++ a) = 0)) (.ints .i64 ([] ++ a)))])
 (none)) := by kernel_rfl
theorem qls (k : Nat) (az : Bool) (a : List (Int × Int × Int)) : go (k + 1) slices_Clone_impl_Id_impl_Id [(.arr false (az) (.r3 (a)))] =
 cond (az)
 (some [(.arr true (true) (.r3 ([])))])
 (cond (decide (List.length ([] ++ a) ≤ bigLen))
 (some [(.arr true (false && decide (List.length ([] ++ a) = 0)) (.r3 ([] ++ a)))])
 (none)) := by kernel_rfl
end Go.Proofs.YtoldpdhhfmlckaaGreat
end
section
namespace Go.Proofs.YtoldpdhhfmlckaaGreat
open Go.Ev
theorem qhm {α : Type} (a : Bool) (x y : α) : cond (!a) x y = cond a y x := by cases a <;> rfl
theorem qhk {α : Type} (a b : Bool) (x y : α) : cond a (cond b x y) y = cond (a && b) x y := by cases a <;> rfl
abbrev qq8 (l : List Cell) (i : Nat) : Int := (l.getD i zz3).2.1
def qab (l : List Cell) : Prop := ∀ i, 0 ≤ qq8 l i ∧ qq8 l i ≤ 4
theorem qtz : ∀ (l : List Cell) (r p : Int), qtt r p l = true → ∀ i, 0 ≤ qq8 l i ∧ qq8 l i ≤ 4
  | [], r, p, h, i => by simp [qq8]
  | x :: l, r, p, h, i => by
    simp only [qtt, Bool.and_eq_true] at h
    cases i with
    | zero => have := lev0 (qom h.1).2.2.1; simpa [qq8] using this
    | succ i => have := qtz l r _ h.2.2 i; simpa [qq8] using this
def qzt (l : List Cell) : Nat → Nat → Int
  | 0, _ => -1
  | n + 1, i => if 1 < qq8 l i - qq8 l (i + 1) ∨ qq8 l i - qq8 l (i + 1) < -1 then (i : Int) else qzt l n (i + 1)
def unb (l : List Cell) : Int := qzt l (l.length - 1) 0
theorem qcf (k : Nat) (hk : 2000000 ≤ k) (a : Int) (h : -9223372036854775807 ≤ a) (h' : a ≤ 9223372036854775807) : go (k + 1) impl_absolute [(.int .i64 (a))] = some [.int .i64 (max (0 - a) a)] := by
  rw [qj2]; simp (disch := omega) only [q0f, imax]
theorem qs4 (k : Nat) (hk : 2000000 ≤ k) (fu : List (Nat × Nat)) (z : Bool) (l : List Cell) (r : Int) (hl : (l.length : Int) ≤ 1048576) (hv : qab l) : ∀ (n i : Nat), i ≤ l.length → l.length - 1 - i < n →
    lp k spec_l05First [] fu 2 (n) (qxg (i : Int) z l r) = some [.int .i64 (qzt l (l.length - 1 - i) i)]
  | 0, i, hi, hn => by omega
  | n + 1, i, hi, hn => by
    rw [qqo]
    by_cases h : i + 1 < l.length
    · have e := qs4 k hk fu z l r hl hv n (i + 1) (by omega) (by omega)
      have h1 := hv i; have h2 := hv (i + 1)
      simp only [qq8] at h1 h2
      simp (disch := omega) only [qgr, q0f, nI, dT, Bool.and_true, Int.toNat_natCast, e, qhn]
      rw [show l.length - 1 - i = (l.length - 1 - (i + 1)) + 1 by omega, qzt]
      simp only [qq8]
      by_cases g : 1 < (l.getD i zz3).2.1 - (l.getD (i + 1) zz3).2.1
      · simp (disch := omega) only [dT, dF, qhl, qhn]; rw [if_pos (Or.inl g)]
      · by_cases g2 : (l.getD i zz3).2.1 - (l.getD (i + 1) zz3).2.1 < -1
        · simp (disch := omega) only [dF, dT, qhn, qhl]; rw [if_pos (Or.inr g2)]
        · simp (disch := omega) only [dF, qhl]; rw [if_neg (not_or.2 ⟨g, g2⟩)]
    · simp (disch := omega) only [qgr, q0f, nI, dF, dT, Bool.true_and, Bool.and_false, Int.toNat_natCast, qhl]
      rw [show l.length - 1 - i = 0 by omega]; rfl
theorem qfz (k : Nat) (hk : 2000000 ≤ k) (a0 : Int) (a1z : Bool) (a1 : List (Int × Int × Int)) (hl : (a1.length : Int) ≤ 1048576) (hv : qab a1) : go (k + 1) spec_l05First [(.agg [(.int .i64 (a0)), (.arr false (a1z) (.r3 (a1)))])] = some [.int .i64 (unb a1)] := by
  rw [qmz]
  exact qs4 k hk [] a1z a1 a0 hl hv _ 0 (by omega) (by omega)
theorem qr5 (k : Nat) (hk : 2000000 ≤ k) (fu : List (Nat × Nat)) (z : Bool) (l : List Cell) (r : Int) (hl : (l.length : Int) ≤ 1048576) (hv : qab l) : ∀ (n i : Nat), i ≤ l.length → l.length - 1 - i < n →
    lp (k + 1) impl_Mesh_unbalanced [] fu 2 (n) (qv2 ((l.length : Int) - 1) (i : Int) z l r) = some [.int .i64 (qzt l (l.length - 1 - i) i)]
  | 0, i, hi, hn => by omega
  | n + 1, i, hi, hn => by
    rw [qpa]
    by_cases h : i + 1 < l.length
    · have e := qr5 k hk fu z l r hl hv n (i + 1) (by omega) (by omega)
      have h1 := hv i; have h2 := hv (i + 1)
      simp only [qq8] at h1 h2
      simp (disch := omega) only [dT, nI, Bool.and_true, qgr, q0f, Int.toNat_natCast, qcf, e, qa2, nth0, qzo, qhn]
      rw [show l.length - 1 - i = (l.length - 1 - (i + 1)) + 1 by omega, qzt]
      simp only [qq8]
      by_cases g : 1 < (l.getD i zz3).2.1 - (l.getD (i + 1) zz3).2.1
      · simp (disch := omega) only [dT, qhn]; rw [if_pos (Or.inl g)]
      · by_cases g2 : (l.getD i zz3).2.1 - (l.getD (i + 1) zz3).2.1 < -1
        · simp (disch := omega) only [dT, qhn]; rw [if_pos (Or.inr g2)]
        · simp (disch := omega) only [dF, qhl]; rw [if_neg (not_or.2 ⟨g, g2⟩)]
    · simp (disch := omega) only [dF, dT, nI, Bool.true_and, qgr, q0f, Bool.and_false, Int.toNat_natCast, qhl]
      rw [show l.length - 1 - i = 0 by omega]; rfl
theorem qdj (k : Nat) (hk : 2000000 ≤ k) (a0 : Int) (a1z : Bool) (a1 : List (Int × Int × Int)) (hl : (a1.length : Int) ≤ 1048576) (hv : qab a1) : go (k + 2) impl_Mesh_unbalanced [(.agg [(.int .i64 (a0)), (.arr false (a1z) (.r3 (a1)))])] = some [.int .i64 (unb a1)] := by
  rw [qi0]
  simp (disch := omega) only [nI, q0f]
  exact qr5 k hk [] a1z a1 a0 hl hv _ 0 (by omega) (by omega)
def qaz (r : Int) (l : List Cell) : Bool := qtt r 0 l && decide (unb l < 0)
theorem qe8 (k : Nat) (hk : 2000000 ≤ k) (a0 : Int) (a1z : Bool) (a1 : List (Int × Int × Int)) (hl : (a1.length : Int) ≤ 1048576) : go (k + 6) spec_IsBalanced [(.agg [(.int .i64 (a0)), (.arr false (a1z) (.r3 (a1)))])] = some [.bool (qaz a0 a1)] := by
  rw [qma]
  simp (disch := omega) only [qfe, bit, qa2, nth0, qzn]
  unfold qaz
  cases h : qtt a0 0 a1
  · rfl
  · have hv : qab a1 := qtz _ _ _ h
    simp (disch := omega) only [qhn, Bool.true_and]
    rw [qfz _ (by omega) _ _ _ hl hv]; simp (disch := omega) only [qa2, nth0, qzo]
theorem qbr (k : Nat) (hk : 2000000 ≤ k) (a0 : Int) (a1z : Bool) (a1 : List (Int × Int × Int)) (hl : (a1.length : Int) ≤ 1048576) : go (k + 7) impl_IsBalanced [(.agg [(.int .i64 (a0)), (.arr false (a1z) (.r3 (a1)))])] = some [.bool (qaz a0 a1)] := by
  rw [qik]
  simp (disch := omega) only [qbw, bit, qa2, nth0, qzn]
  unfold qaz
  cases h : qtt a0 0 a1
  · rfl
  · have hv : qab a1 := qtz _ _ _ h
    rw [qhn, qdj _ (by omega) _ _ _ hl hv]; simp (disch := omega) only [qa2, nth0, qzo, Bool.true_and]
def isum : List Int → Int
  | [] => 0
  | x :: l => x + isum l
theorem qow {B : Int} : ∀ (l : List Int), (∀ x ∈ l, 0 ≤ x ∧ x ≤ B) → 0 ≤ isum l ∧ isum l ≤ B * l.length
  | [], h => by simp [isum]
  | x :: l, h => by
    have := qow l fun y hy => h y (by simp [hy])
    have h2 := h x (by simp)
    simp only [isum, List.length_cons, Int.natCast_add, Int.natCast_one, Int.mul_add, Int.mul_one]; omega
theorem qov {B : Int} (hB : 0 ≤ B) : ∀ (l : List Int) (i : Nat), (∀ x ∈ l, 0 ≤ x ∧ x ≤ B) → 0 ≤ isum (l.drop i) ∧ isum (l.drop i) ≤ isum l
  | [], i, h => by simp [isum]
  | x :: l, 0, h => by have := qow (x :: l) h; simp only [List.drop_zero]; omega
  | x :: l, i + 1, h => by
    have := qov hB l i fun y hy => h y (by simp [hy])
    have h2 := h x (by simp)
    simp only [isum, List.drop_succ_cons]; omega
theorem qs5 (k : Nat) (hk : 2000000 ≤ k) (fu : List (Nat × Nat)) (z : Bool) (l : List Int) (hl : (l.length : Int) ≤ 1048576) (hb : ∀ x ∈ l, 0 ≤ x ∧ x ≤ 1000000000000) : ∀ (n i : Nat) (s : Int), i ≤ l.length → l.length - i < n → s + isum (l.drop i) = isum l → 0 ≤ s →
    lp k spec_l07Sum [] fu 3 (n) (qxh s (i : Int) z l) = some [.int .i64 (isum l)]
  | 0, i, s, hi, hn, hs, h0 => by omega
  | n + 1, i, s, hi, hn, hs, h0 => by
    rw [qqp]
    by_cases h : i < l.length
    · rw [qh2 h 0] at hs
      simp only [isum] at hs
      have h1 := qow l hb
      have h2 := qov (by omega) l (i + 1) hb
      have h3 := hb _ (qoa h 0)
      simp (disch := omega) only [nI, dT, Bool.and_true, Int.toNat_natCast, q0f, qgr, qhn]
      exact qs5 k hk fu z l hl hb n (i + 1) _ (by omega) (by omega) (by omega) (by omega)
    · rw [List.drop_of_length_le (by omega)] at hs
      simp only [isum] at hs
      simp (disch := omega) only [nI, dF, dT, Bool.and_false, Int.toNat_natCast, qgr, q0f, qhl]
      rw [show s = isum l by omega]
theorem qf4 (k : Nat) (hk : 2000000 ≤ k) (az : Bool) (a : List Int) (hl : (a.length : Int) ≤ 1048576) (hb : ∀ x ∈ a, 0 ≤ x ∧ x ≤ 1000000000000) : go (k + 1) spec_l07Sum [(.arr false (az) (.ints .i64 (a)))] = some [.int .i64 (isum a)] := by
  rw [qm4]
  exact qs5 k hk [] az a hl hb _ 0 0 (by omega) (by omega) (by simp) (by omega)
theorem qr4 (k : Nat) (hk : 2000000 ≤ k) (fu : List (Nat × Nat)) (z : Bool) (l : List Int) (hl : (l.length : Int) ≤ 1048576) (hb : ∀ x ∈ l, 0 ≤ x ∧ x ≤ 1000000000000) : ∀ (n i : Nat) (s : Int), i ≤ l.length → l.length - i < n → s + isum (l.drop i) = isum l → 0 ≤ s →
    lp k impl_sum [] fu 3 (n) (qwm s (l.length : Int) (i : Int) z l) = some [.int .i64 (isum l)]
  | 0, i, s, hi, hn, hs, h0 => by omega
  | n + 1, i, s, hi, hn, hs, h0 => by
    rw [qpu]
    by_cases h : i < l.length
    · rw [qh2 h 0] at hs
      simp only [isum] at hs
      have h1 := qow l hb
      have h2 := qov (by omega) l (i + 1) hb
      have h3 := hb _ (qoa h 0)
      simp (disch := omega) only [dT, nI, Bool.and_true, Int.toNat_natCast, q0f, qgr, qhn]
      exact qr4 k hk fu z l hl hb n (i + 1) _ (by omega) (by omega) (by omega) (by omega)
    · rw [List.drop_of_length_le (by omega)] at hs
      simp only [isum] at hs
      simp (disch := omega) only [dF, dT, nI, Bool.and_false, Int.toNat_natCast, qgr, q0f, qhl]
      rw [show s = isum l by omega]
theorem qdg (k : Nat) (hk : 2000000 ≤ k) (az : Bool) (a : List Int) (hl : (a.length : Int) ≤ 1048576) (hb : ∀ x ∈ a, 0 ≤ x ∧ x ≤ 1000000000000) : go (k + 1) impl_sum [(.arr false (az) (.ints .i64 (a)))] = some [.int .i64 (isum a)] := by
  rw [qkg]
  exact qr4 k hk [] az a hl hb _ 0 0 (by omega) (by omega) (by simp) (by omega)
def qtk : List Int → List Int → Bool
  | m :: ms, t :: ts => inR m 0 10000000 && (inR t 0 (1000 * m) && qtk ms ts)
  | _, _ => true
theorem qtm : ∀ (ms ts : List Int), ms.length = ts.length → qtk ms ts = true → (∀ x ∈ ms, 0 ≤ x ∧ x ≤ 10000000) ∧ (∀ x ∈ ts, 0 ≤ x ∧ x ≤ 10000000000)
  | [], ts, hl, h => by cases ts <;> simp_all
  | m :: ms, [], hl, h => by simp at hl
  | m :: ms, t :: ts, hl, h => by
    simp only [qtk, Bool.and_eq_true, qoo] at h
    have := qtm ms ts (by simpa using hl) h.2.2
    refine ⟨fun x hx => ?_, fun x hx => ?_⟩
    · rcases List.mem_cons.1 hx with rfl | hx
      · exact h.1
      · exact this.1 x hx
    · rcases List.mem_cons.1 hx with rfl | hx
      · omega
      · exact this.2 x hx
theorem qtl : ∀ (ms ts : List Int), ms.length = ts.length → qtk ms ts = true → ∀ i, 0 ≤ ms.getD i 0 ∧ ms.getD i 0 ≤ 10000000 ∧ 0 ≤ ts.getD i 0 ∧ ts.getD i 0 ≤ 1000 * ms.getD i 0
  | [], ts, hl, h, i => by cases ts <;> simp_all
  | m :: ms, [], hl, h, i => by simp at hl
  | m :: ms, t :: ts, hl, h, i => by
    simp only [qtk, Bool.and_eq_true, qoo] at h
    cases i with
    | zero => simp; omega
    | succ i => have := qtl ms ts (by simpa using hl) h.2.2 i; simpa using this
def qa0 : List Int → Bool
  | [] => true
  | b :: l => inR b 0 1000000 && qa0 l
theorem qa1 : ∀ (l : List Int), qa0 l = true → ∀ x ∈ l, 0 ≤ x ∧ x ≤ 1000000
  | [], h, x, hx => by cases hx
  | b :: l, h, x, hx => by
    simp only [qa0, Bool.and_eq_true, qoo] at h
    rcases List.mem_cons.1 hx with rfl | hx
    · exact h.1
    · exact qa1 l h.2 x hx
def stOk (r : Int) (l : List Cell) (m t b : List Int) : Bool :=
  qaz r l && (decide (m.length = l.length) && (decide (t.length = l.length) && (decide ((b.length : Int) = r) && (qtk m t && (qa0 b && decide (isum m ≤ 10000000))))))
theorem qsz (k : Nat) (hk : 2000000 ≤ k) (fu : List (Nat × Nat)) (r : Int) (z1 z2 z3 z4 : Bool) (l : List Cell) (m t b : List Int) (hm : (m.length : Int) ≤ 1048576) (hb : (b.length : Int) ≤ 1048576) (hx : ∀ x ∈ m, 0 ≤ x ∧ x ≤ 10000000) : ∀ (n i : Nat), i ≤ b.length → b.length - i < n →
    lp (k + 6) spec_StateOk [] fu 9 (n) (qxf (i : Int) z1 l z2 m z3 t z4 b r) = some [.bool (qa0 (b.drop i) && decide (isum m ≤ 10000000))]
  | 0, i, hi, hn => by omega
  | n + 1, i, hi, hn => by
    rw [qqn]
    by_cases h : i < b.length
    · rw [qh2 h 0]
      have e := qsz k hk fu r z1 z2 z3 z4 l m t b hm hb hx n (i + 1) (by omega) (by omega)
      simp (disch := omega) only [nI, dT, Bool.and_true, Int.toNat_natCast, qfu, bit, qgr, q0f, e, qho, qa2, nth0, qzn, qhn, qa0, Bool.and_assoc]
    · rw [List.drop_of_length_le (by omega)]
      have hx' : ∀ x ∈ m, 0 ≤ x ∧ x ≤ 1000000000000 := fun x hh => by have := hx x hh; omega
      rw [show decide ((i : Int) < nI b.length) = false by apply dF; simp only [nI]; omega, qhl, qf4 _ (by omega) _ _ hm hx']
      simp (disch := omega) only [qa2, nth0, qzo, qa0, Bool.true_and]
theorem qsy (k : Nat) (hk : 2000000 ≤ k) (fu : List (Nat × Nat)) (r : Int) (z1 z2 z3 z4 : Bool) (l : List Cell) (m t b : List Int) (hm : (m.length : Int) ≤ 1048576) (ht : t.length = m.length) : ∀ (n i : Nat), i ≤ m.length → m.length - i < n →
    lp (k + 6) spec_StateOk [] fu 4 (n) (qxe (i : Int) z1 l z2 m z3 t z4 b r) = cond (qtk (m.drop i) (t.drop i)) (lp (k + 6) spec_StateOk [] fu 9 (k + 6) (qxf 0 z1 l z2 m z3 t z4 b r)) (some [.bool false])
  | 0, i, hi, hn => by omega
  | n + 1, i, hi, hn => by
    rw [qqm]
    by_cases h : i < m.length
    · rw [qh2 h 0, qh2 (l := t) (by omega : i < t.length) 0]
      have e := qsy k hk fu r z1 z2 z3 z4 l m t b hm ht n (i + 1) (by omega) (by omega)
      by_cases h1 : inR (m.getD i 0) 0 10000000 = true
      · have h2 := qoo.1 h1
        simp (disch := omega) only [nI, dT, Bool.and_true, Int.toNat_natCast, qfu, h1, bit, q0f, qgr, e, qhm, qhk, qa2, nth0, qzn, qhn, Bool.true_and, qtk]
      · have h1 : inR (m.getD i 0) 0 10000000 = false := by simpa using h1
        simp (disch := omega) only [nI, dT, Bool.and_true, Int.toNat_natCast, qfu, h1, bit, qgr, q0f, qa2, nth0, qzn, qhn, Bool.not_false, qtk, Bool.false_and, qhl]
    · rw [List.drop_of_length_le (by omega), List.drop_of_length_le (by omega)]
      simp (disch := omega) only [nI, dF, dT, Bool.and_false, Int.toNat_natCast, bit, qgr, q0f, qhl, qtk, qhn]
theorem qfn (k : Nat) (hk : 2000000 ≤ k) (a0 : Int) (a1z : Bool) (a1 : List (Int × Int × Int)) (a2z : Bool) (a2 : List Int) (a3z : Bool) (a3 : List Int) (a4z : Bool) (a4 : List Int) (hl : (a1.length : Int) ≤ 1048576) (hb : (a4.length : Int) ≤ 1048576) : go (k + 7) spec_StateOk [(.agg [(.int .i64 (a0)), (.arr false (a1z) (.r3 (a1))), (.arr false (a2z) (.ints .i64 (a2))), (.arr false (a3z) (.ints .i64 (a3))), (.arr false (a4z) (.ints .i64 (a4)))])] = some [.bool (stOk a0 a1 a2 a3 a4)] := by
  rw [qmr]
  simp (disch := omega) only [qe8, bit, nI, qa2, nth0, qzn]
  unfold stOk
  cases qaz a0 a1
  · rfl
  by_cases h1 : a2.length = a1.length
  case neg => simp (disch := omega) only [Bool.not_true, dF, Bool.not_false, qhn, qhl, Bool.false_and, Bool.and_false]
  by_cases h2 : a3.length = a1.length
  case neg => simp (disch := omega) only [Bool.not_true, dT, dF, Bool.not_false, qhn, qhl, Bool.false_and, Bool.and_false]
  by_cases h3 : (a4.length : Int) = a0
  case neg => simp (disch := omega) only [Bool.not_true, dT, dF, Bool.not_false, qhn, qhl, Bool.false_and, Bool.and_false]
  simp (disch := omega) only [Bool.not_true, dT, qhl, Bool.true_and]
  refine Eq.trans (qsy k hk [] a0 a1z a2z a3z a4z a1 a2 a3 a4 (by omega) (by omega) _ 0 (by omega) (by omega)) ?_
  simp only [List.drop_zero]
  cases h4 : qtk a2 a3
  · rfl
  · have hx := (qtm a2 a3 (by omega) h4).1
    have e := qsz k hk [] a0 a1z a2z a3z a4z a1 a2 a3 a4 (by omega) hb hx (k + 6) 0 (by omega) (by omega)
    simp only [List.drop_zero] at e
    simp only [qhn, Bool.true_and, dT (h1), dT (h2), dT (h3), decide_true]
    exact e
theorem qcx (k : Nat) (hk : 2000000 ≤ k) (a : Int) : go (k + 2) impl_isBed [(.int .i64 (a))] = some [.bool (inR a 0 1000000)] := by
  rw [qj9]; simp (disch := omega) only [qdk, bit, qa2, nth0, qzn]
theorem qcw (k : Nat) (hk : 2000000 ≤ k) (a : Int) : go (k + 3) impl_State_hasCells_1 [(.int .i64 (a))] = some [.bool (!inR a 0 1000000)] := by
  rw [qjj]; simp (disch := omega) only [qcx, bit, qa2, nth0, qzn]
theorem qr6 (k : Nat) (hk : 2000000 ≤ k) (fu : List (Nat × Nat)) (z : Bool) (l : List Int) (hl : (l.length : Int) ≤ 1048576) : ∀ (n i : Nat), i ≤ l.length → l.length - i < n →
    ∃ j : Int, lp (k + 3) slices_IndexFunc_int_int [] fu 2 (n) (qw1 (l.length : Int) (i : Int) z l) = some [.int .i64 j] ∧ decide (0 ≤ j) = !qa0 (l.drop i)
  | 0, i, hi, hn => by omega
  | n + 1, i, hi, hn => by
    rw [qp9]
    by_cases h : i < l.length
    · rw [qh2 h 0]
      obtain ⟨j, e1, e2⟩ := qr6 k hk fu z l hl n (i + 1) (by omega) (by omega)
      simp (disch := omega) only [dT, nI, Bool.and_true, Int.toNat_natCast, qcw, bit, qgr, q0f, e1, qa2, nth0, qzn, qhn, qa0]
      cases inR (l.getD i 0) 0 1000000
      · exact ⟨i, rfl, by rw [dT (by omega)]; rfl⟩
      · exact ⟨j, rfl, by rw [e2]; rfl⟩
    · rw [List.drop_of_length_le (by omega)]
      simp (disch := omega) only [dF, dT, nI, Bool.and_false, Int.toNat_natCast, bit, qgr, q0f, qhl, qa0, Bool.not_true]
      exact ⟨-1, rfl, rfl⟩
theorem qbb (k : Nat) (hk : 2000000 ≤ k) (z : Bool) (l : List Int) (hl : (l.length : Int) ≤ 1048576) : go (k + 5) slices_ContainsFunc_int_int [.arr false z (.ints .i64 l), .fn impl_State_hasCells_1 []] = some [.bool (!qa0 l)] := by
  rw [qlu, qly]
  obtain ⟨j, e1, e2⟩ := qr6 k hk [] z l hl (k + 3) 0 (by omega) (by omega)
  have e1' := e1
  simp only [nI] at *
  rw [show ((0 : Nat) : Int) = 0 from rfl] at e1'
  rw [e1']
  simp (disch := omega) only [qa2, nth0, qzo]
  rw [show decide ((0 : Int) ≤ j) = !qa0 l from e2]
theorem qrl (k : Nat) (hk : 2000000 ≤ k) (fu : List (Nat × Nat)) (r : Int) (z1 z2 z3 z4 : Bool) (l : List Cell) (m t b : List Int) (hm : (m.length : Int) ≤ 1048576) (ht : t.length = m.length) (s : List D)
    (hs : qtk m t = true → go (k + 5) impl_sum [.arr false z2 (.ints .i64 m)] = some [.int .i64 (isum m)]) (P : Bool) : ∀ (n i : Nat), i ≤ m.length → m.length - i < n → (qtk (m.drop i) (t.drop i) = true → qtk m t = true) →
    lp (k + 5) impl_State_hasCells [] fu 5 (n) (qwa (m.length : Int) (i : Int) z1 l z2 m z3 t z4 b r) = some [.bool (qtk (m.drop i) (t.drop i) && decide (isum m ≤ 10000000))]
  | 0, i, hi, hn, hq => by omega
  | n + 1, i, hi, hn, hq => by
    rw [qpi]
    by_cases h : i < m.length
    · rw [qh2 h 0, qh2 (l := t) (by omega : i < t.length) 0] at hq ⊢
      by_cases h1 : inR (m.getD i 0) 0 10000000 = true
      · have h2 := qoo.1 h1
        by_cases h3 : inR (t.getD i 0) 0 (1000 * m.getD i 0) = true
        · have e := qrl k hk fu r z1 z2 z3 z4 l m t b hm ht s hs P n (i + 1) (by omega) (by omega) (fun hh => hq (by simp only [qtk, h1, h3, hh, Bool.and_self]))
          simp (disch := omega) only [dT, nI, Bool.and_true, Int.toNat_natCast, qdk, h1, bit, q0f, h3, qgr, e, qa2, nth0, qzn, Bool.not_true, qhl, qhn, qtk, Bool.true_and]
        · have h3 : inR (t.getD i 0) 0 (1000 * m.getD i 0) = false := by simpa using h3
          simp (disch := omega) only [dT, nI, Bool.and_true, Int.toNat_natCast, qdk, h1, bit, q0f, h3, qgr, qa2, nth0, qzn, Bool.not_false, qhn, Bool.not_true, qhl, qtk, Bool.false_and, Bool.and_false]
      · have h1 : inR (m.getD i 0) 0 10000000 = false := by simpa using h1
        simp (disch := omega) only [dT, nI, Bool.and_true, Int.toNat_natCast, qdk, h1, bit, qgr, q0f, qa2, nth0, qzn, qhn, Bool.not_false, qtk, Bool.false_and]
    · rw [List.drop_of_length_le (by omega), List.drop_of_length_le (by omega)] at hq ⊢
      have e := hs (hq rfl)
      simp (disch := omega) only [dF, dT, nI, Bool.and_false, Int.toNat_natCast, bit, qgr, q0f, qhl, e, qa2, nth0, qzo, qtk, Bool.true_and]
theorem qcv (k : Nat) (hk : 2000000 ≤ k) (a0 : Int) (a1z : Bool) (a1 : List (Int × Int × Int)) (a2z : Bool) (a2 : List Int) (a3z : Bool) (a3 : List Int) (a4z : Bool) (a4 : List Int) (hl : (a1.length : Int) ≤ 1048576) (hb : (a4.length : Int) ≤ 1048576) : go (k + 6) impl_State_hasCells [(.agg [(.int .i64 (a0)), (.arr false (a1z) (.r3 (a1))), (.arr false (a2z) (.ints .i64 (a2))), (.arr false (a3z) (.ints .i64 (a3))), (.arr false (a4z) (.ints .i64 (a4)))])] = some [.bool (decide (a2.length = a1.length) && (decide (a3.length = a1.length) && (decide ((a4.length : Int) = a0) && (qtk a2 a3 && (qa0 a4 && decide (isum a2 ≤ 10000000))))))] := by
  rw [qji]
  by_cases h1 : a2.length = a1.length
  case neg => simp (disch := omega) only [nI, dF, Bool.not_false, bit, qhn, Bool.false_and]
  by_cases h2 : a3.length = a1.length
  case neg => simp (disch := omega) only [nI, dT, Bool.not_true, dF, Bool.not_false, bit, qhn, qhl, Bool.false_and, Bool.and_false]
  by_cases h3 : (a4.length : Int) = a0
  case neg => simp (disch := omega) only [nI, dT, Bool.not_true, dF, Bool.not_false, bit, qhn, qhl, Bool.false_and, Bool.and_false]
  simp (disch := omega) only [nI, dT, Bool.not_true, qbb, bit, qa2, nth0, qzn, qhl, Bool.true_and]
  cases h5 : qa0 a4
  · cases qtk a2 a3 <;> rfl
  have e := qrl k hk [] a0 a1z a2z a3z a4z a1 a2 a3 a4 (by omega) (by omega) [] (fun hm => by
    have hx := (qtm a2 a3 (by omega) hm).1
    exact qdg _ (by omega) _ _ (by omega) (fun x hh => by have := hx x hh; omega)) true (k + 5) 0 (by omega) (by omega) (fun h => h)
  simp only [List.drop_zero] at e
  simp only [Bool.not_true, qhl, Bool.true_and]
  exact e
theorem qb8 (k : Nat) (hk : 2000000 ≤ k) (a0 : Int) (a1z : Bool) (a1 : List (Int × Int × Int)) (a2z : Bool) (a2 : List Int) (a3z : Bool) (a3 : List Int) (a4z : Bool) (a4 : List Int) (hl : (a1.length : Int) ≤ 1048576) (hb : (a4.length : Int) ≤ 1048576) : go (k + 8) impl_StateOk [(.agg [(.int .i64 (a0)), (.arr false (a1z) (.r3 (a1))), (.arr false (a2z) (.ints .i64 (a2))), (.arr false (a3z) (.ints .i64 (a3))), (.arr false (a4z) (.ints .i64 (a4)))])] = some [.bool (stOk a0 a1 a2 a3 a4)] := by
  rw [qjb]
  simp (disch := omega) only [qbr, bit, qcv, qa2, nth0, qzn]
  unfold stOk
  cases qaz a0 a1 <;> rfl
end Go.Proofs.YtoldpdhhfmlckaaGreat
end
section
namespace Go.Proofs.YtoldpdhhfmlckaaGreat
open Go.Ev
theorem qnb (k : Nat) (a0 : Int) (a1z : Bool) (a1 : List (Int × Int × Int)) (a2z : Bool) (a2 : List Int) (a3z : Bool) (a3 : List Int) (a4z : Bool) (a4 : List Int) (b : Int) : go (k + 1) spec_l09Surface [(.agg [(.int .i64 (a0)), (.arr false (a1z) (.r3 (a1))), (.arr false (a2z) (.ints .i64 (a2))), (.arr false (a3z) (.ints .i64 (a3))), (.arr false (a4z) (.ints .i64 (a4)))]), (.int .i64 (b))] =
 cond (decide ((0 : Int) ≤ b) && decide (b < nI (List.length a1)))
 (cond (decide ((0 : Int) ≤ Prod.fst (List.getD a1 (Int.toNat b) zz3)) && decide (Prod.fst (List.getD a1 (Int.toNat b) zz3) < nI (List.length a4)))
 (cond (decide ((0 : Int) ≤ b) && decide (b < nI (List.length a2)))
 (cond (decide ((0 : Int) ≤ IntKind.wrap IntKind.u64 (Prod.fst (Prod.snd (List.getD a1 (Int.toNat b) zz3)))))
 (some [(.int .i64 (IntKind.wrap .i64 (List.getD a4 (Int.toNat (Prod.fst (List.getD a1 (Int.toNat b) zz3))) (0 : Int) + IntKind.wrap .i64 (List.getD a2 (Int.toNat b) (0 : Int) * (2 : Int) ^ shiftN .i64 (IntKind.wrap IntKind.u64 (Prod.fst (Prod.snd (List.getD a1 (Int.toNat b) zz3))))))))])
 (none))
 (none))
 (none))
 (none) := by kernel_rfl
theorem qjv (k : Nat) (a0 : Int) (a1z : Bool) (a1 : List (Int × Int × Int)) (a2z : Bool) (a2 : List Int) (a3z : Bool) (a3 : List Int) (a4z : Bool) (a4 : List Int) (b : Int) : go (k + 1) impl_State_surface [(.agg [(.int .i64 (a0)), (.arr false (a1z) (.r3 (a1))), (.arr false (a2z) (.ints .i64 (a2))), (.arr false (a3z) (.ints .i64 (a3))), (.arr false (a4z) (.ints .i64 (a4)))]), (.int .i64 (b))] =
 cond (decide ((0 : Int) ≤ b) && decide (b < nI (List.length a1)))
 (cond (decide ((0 : Int) ≤ Prod.fst (List.getD a1 (Int.toNat b) zz3)) && decide (Prod.fst (List.getD a1 (Int.toNat b) zz3) < nI (List.length a4)))
 (cond (decide ((0 : Int) ≤ b) && decide (b < nI (List.length a2)))
 (cond (decide ((0 : Int) ≤ Prod.fst (Prod.snd (List.getD a1 (Int.toNat b) zz3))))
 (some [(.int .i64 (IntKind.wrap .i64 (List.getD a4 (Int.toNat (Prod.fst (List.getD a1 (Int.toNat b) zz3))) (0 : Int) + IntKind.wrap .i64 (List.getD a2 (Int.toNat b) (0 : Int) * (2 : Int) ^ shiftN .i64 (Prod.fst (Prod.snd (List.getD a1 (Int.toNat b) zz3)))))))])
 (none))
 (none))
 (none))
 (none) := by kernel_rfl
theorem qm9 (k : Nat) (a b : Int) : go (k + 1) spec_l09Gap [(.int .i64 (a)), (.int .i64 (b))] =
 cond (decide (b < a))
 (some [(.int .i64 (IntKind.wrap .i64 (a - b)))])
 (some [(.int .i64 (IntKind.wrap .i64 (b - a)))]) := by kernel_rfl

end Go.Proofs.YtoldpdhhfmlckaaGreat
end
section
namespace Go.Proofs.YtoldpdhhfmlckaaGreat
open Go.Ev
theorem qz8 {l : Int} (h : inR l 0 4 = true) : 1 ≤ qz7 l ∧ qz7 l ≤ 16 := by
  rcases lev h with rfl | rfl | rfl | rfl | rfl <;> decide
theorem qz6 {x : Cell} (h : idOk x.1 x.2.1 x.2.2 = true) : qyq x.1 x.2.1 x.2.2 = x.1 * 16 + x.2.2 * qz7 x.2.1 ∧ 0 ≤ x.2.2 * qz7 x.2.1 ∧ 1 ≤ qz7 x.2.1 := by
  have := qom h
  exact ⟨by simp [qyq, h], (iw h).1, (qz8 this.2.2.1).1⟩
theorem qtx : ∀ (l : List Cell) (r p : Int), qtt r p l = true → 1 ≤ r ∧ r ≤ 8 ∧ p + l.length ≤ 16 * r ∧ (∀ i, i < l.length → 0 ≤ (l.getD i zz3).1 ∧ (l.getD i zz3).1 < r ∧ idOk (l.getD i zz3).1 (l.getD i zz3).2.1 (l.getD i zz3).2.2 = true) ∧ (l = [] → p = 16 * r)
  | [], r, p, h => by
    simp only [qtt, Bool.and_eq_true, qoo, decide_eq_true_eq] at h
    simp; omega
  | x :: l, r, p, h => by
    simp only [qtt, Bool.and_eq_true, decide_eq_true_eq] at h
    obtain ⟨h1, h2, h3⟩ := h
    have w := qz6 h1
    have ih := qtx l r _ h3
    have ds := qom h1
    refine ⟨ih.1, ih.2.1, by simp only [List.length_cons]; omega, fun i hi => ?_, by simp⟩
    cases i with
    | zero => simp only [List.getD_cons_zero]; refine ⟨by omega, by omega, h1⟩
    | succ i => simp only [List.getD_cons_succ]; exact ih.2.2.2.1 i (by simpa using hi)
theorem qty {l : List Cell} {r : Int} (h : qtt r 0 l = true) : 1 ≤ l.length ∧ l.length ≤ 128 := by
  have f := qtx l r 0 h
  cases l with
  | nil => have := f.2.2.2.2 rfl; omega
  | cons x l => simp only [List.length_cons] at f ⊢; omega
structure StF (r : Int) (l : List Cell) (m t b : List Int) : Prop where
  mesh : qtt r 0 l = true
  bal : unb l < 0
  ml : m.length = l.length
  tl : t.length = l.length
  bl : (b.length : Int) = r
  mt : qtk m t = true
  bed : qa0 b = true
  sum : isum m ≤ 10000000
theorem stF {r : Int} {l : List Cell} {m t b : List Int} : stOk r l m t b = true ↔ StF r l m t b := by
  unfold stOk qaz
  simp only [Bool.and_eq_true, decide_eq_true_eq]
  exact ⟨fun h => ⟨h.1.1, h.1.2, h.2.1, h.2.2.1, h.2.2.2.1, h.2.2.2.2.1, h.2.2.2.2.2.1, h.2.2.2.2.2.2⟩, fun h => ⟨⟨h.mesh, h.bal⟩, h.ml, h.tl, h.bl, h.mt, h.bed, h.sum⟩⟩
theorem shp {l : Int} (h : inR l 0 4 = true) : (2 : Int) ^ shiftN .i64 l = pow2 l := by
  rcases lev h with rfl | rfl | rfl | rfl | rfl <;> simp [sh0, sh1, sh2, sh3, sh4, p20, p21, p22, p23, p24]
theorem mulp {m l : Int} (h : inR l 0 4 = true) (h0 : 0 ≤ m) : m ≤ m * pow2 l ∧ m * pow2 l ≤ 16 * m := by
  rcases lev h with rfl | rfl | rfl | rfl | rfl <;> simp only [p20, p21, p22, p23, p24] <;> omega
section
variable {r : Int} {l : List Cell} {m t b : List Int}
theorem StF.len (F : StF r l m t b) : 1 ≤ l.length ∧ l.length ≤ 128 := qty F.mesh
theorem StF.rr (F : StF r l m t b) : 1 ≤ r ∧ r ≤ 8 := ⟨(qtx l r 0 F.mesh).1, (qtx l r 0 F.mesh).2.1⟩
theorem StF.lev (F : StF r l m t b) (i : Nat) : inR (l.getD i zz3).2.1 0 4 = true := by
  have := qtz l r 0 F.mesh i
  simp only [qq8] at this
  rw [qoo]; exact this
theorem StF.root (F : StF r l m t b) {i : Nat} (h : i < l.length) : 0 ≤ (l.getD i zz3).1 ∧ (l.getD i zz3).1 < r := ⟨((qtx l r 0 F.mesh).2.2.2.1 i h).1, ((qtx l r 0 F.mesh).2.2.2.1 i h).2.1⟩
theorem StF.at (F : StF r l m t b) (i : Nat) : 0 ≤ m.getD i 0 ∧ m.getD i 0 ≤ 10000000 ∧ 0 ≤ t.getD i 0 ∧ t.getD i 0 ≤ 1000 * m.getD i 0 := qtl m t (by rw [F.ml, F.tl]) F.mt i
theorem StF.bedAt (F : StF r l m t b) (i : Nat) : 0 ≤ b.getD i 0 ∧ b.getD i 0 ≤ 1000000 := by
  by_cases h : i < b.length
  · exact qa1 b F.bed _ (qoa h 0)
  · rw [qn9 (by omega)]; omega
theorem StF.mmem (F : StF r l m t b) : ∀ x ∈ m, 0 ≤ x ∧ x ≤ 1000000000000 := fun x hx => by have := (qtm m t (by rw [F.ml, F.tl]) F.mt).1 x hx; omega
theorem StF.tmem (F : StF r l m t b) : ∀ x ∈ t, 0 ≤ x ∧ x ≤ 1000000000000 := fun x hx => by have := (qtm m t (by rw [F.ml, F.tl]) F.mt).2 x hx; omega
theorem StF.msum (F : StF r l m t b) : 0 ≤ isum m ∧ isum m ≤ 10000000 := ⟨(qow m F.mmem).1, F.sum⟩
theorem StF.tsum (F : StF r l m t b) : 0 ≤ isum t ∧ isum t ≤ 128000000000000 := by
  have h := qow t F.tmem
  have := F.len; have := F.tl
  refine ⟨h.1, ?_⟩
  have : (t.length : Int) ≤ 128 := by omega
  calc isum t ≤ 1000000000000 * (t.length : Int) := h.2
    _ ≤ 1000000000000 * 128 := Int.mul_le_mul_of_nonneg_left this (by omega)
end
def surf (l : List Cell) (m b : List Int) (i : Nat) : Int := b.getD (l.getD i zz3).1.toNat 0 + m.getD i 0 * pow2 (l.getD i zz3).2.1
theorem qy5 {r : Int} {l : List Cell} {m t b : List Int} (F : StF r l m t b) (i : Nat) : 0 ≤ surf l m b i ∧ surf l m b i ≤ 161000000 := by
  have h1 := F.bedAt (l.getD i zz3).1.toNat
  have h2 := F.at i
  have h3 := mulp (F.lev i) h2.1
  unfold surf; omega
theorem qga (k : Nat) (hk : 2000000 ≤ k) (r : Int) (z1 z2 z3 z4 : Bool) (l : List Cell) (m t b : List Int) (F : StF r l m t b) (i : Nat) (hi : i < l.length) :
    go (k + 1) spec_l09Surface [.agg [.int .i64 r, .arr false z1 (.r3 l), .arr false z2 (.ints .i64 m), .arr false z3 (.ints .i64 t), .arr false z4 (.ints .i64 b)], .int .i64 (i : Int)] = some [.int .i64 (surf l m b i)] := by
  rw [qnb]
  have h1 := F.root hi; have h2 := F.ml; have h3 := F.bl; have h4 := F.lev i; have h5 := lev0 h4; have h6 := F.at i; have h7 := qy5 F i; have h8 := mulp h4 h6.1; have h9 := F.len
  unfold surf at h7 ⊢
  simp (disch := omega) only [dT, nI, Bool.and_true, Int.toNat_natCast, q0g, shp h4, q0f, qhn]
theorem qdh (k : Nat) (hk : 2000000 ≤ k) (r : Int) (z1 z2 z3 z4 : Bool) (l : List Cell) (m t b : List Int) (F : StF r l m t b) (i : Nat) (hi : i < l.length) :
    go (k + 1) impl_State_surface [.agg [.int .i64 r, .arr false z1 (.r3 l), .arr false z2 (.ints .i64 m), .arr false z3 (.ints .i64 t), .arr false z4 (.ints .i64 b)], .int .i64 (i : Int)] = some [.int .i64 (surf l m b i)] := by
  rw [qjv]
  have h1 := F.root hi; have h2 := F.ml; have h3 := F.bl; have h4 := F.lev i; have h5 := lev0 h4; have h6 := F.at i; have h7 := qy5 F i; have h8 := mulp h4 h6.1; have h9 := F.len
  unfold surf at h7 ⊢
  simp (disch := omega) only [dT, nI, Bool.and_true, Int.toNat_natCast, shp h4, q0f, qhn]
def gap (a b : Int) : Int := if b < a then a - b else b - a
theorem qf8 (k : Nat) (hk : 2000000 ≤ k) (a : Int) (b : Int) (ha : -1000000000000 ≤ a ∧ a ≤ 1000000000000) (hb : -1000000000000 ≤ b ∧ b ≤ 1000000000000) : go (k + 1) spec_l09Gap [(.int .i64 (a)), (.int .i64 (b))] = some [.int .i64 (gap a b)] := by
  rw [qm9]
  unfold gap
  by_cases h : b < a
  · simp (disch := omega) only [dT, q0f, qhn]; rw [if_pos h]
  · simp (disch := omega) only [dF, q0f, qhl]; rw [if_neg h]
end Go.Proofs.YtoldpdhhfmlckaaGreat
end
section
namespace Go.Proofs.YtoldpdhhfmlckaaGreat
open Go.Ev
def qor (t lv : Int) : Bool := inR lv 0 4 && (decide (0 ≤ t) && decide (Int.tmod t (qz7 lv) = 0))
theorem q0b {l : Int} (h : inR l 0 4 = true) : 0 < qz7 l := by
  rcases lev h with rfl | rfl | rfl | rfl | rfl <;> decide
theorem q0a {l : Int} (h : inR l 0 4 = false) : qz7 l = 0 := by simp [qz7, h]
theorem qe7 (k : Nat) (hk : 2000000 ≤ k) (a : Int) (b : Int) : go (k + 3) spec_IsActive [(.int .i64 (a)), (.int .i64 (b))] = some [.bool (qor a b)] := by
  rw [ql9]
  simp (disch := omega) only [qfo, qa2, nth0, qzo]
  unfold qor
  cases h : inR b 0 4
  · rw [q0a h]; cases decide ((0 : Int) ≤ a) <;> simp
  · have := q0b h
    simp (disch := omega) only [dT, dF, Bool.not_false, qhn, Bool.true_and]
    cases decide ((0 : Int) ≤ a) <;> simp
theorem qbq (k : Nat) (hk : 2000000 ≤ k) (a : Int) (b : Int) : go (k + 4) impl_IsActive [(.int .i64 (a)), (.int .i64 (b))] = some [.bool (qor a b)] := by
  rw [qij]
  simp (disch := omega) only [qcy, bit, qcb, qa2, nth0, qzo, qzn]
  unfold qor
  cases h : inR b 0 4
  · simp
  · have := q0b h
    simp (disch := omega) only [dF, Bool.not_false, qhn, Bool.true_and]
    cases decide ((0 : Int) ≤ a) <;> simp
def qnw (l : List Cell) (i : Nat) : Int := max (qq8 l (i + 1)) (qq8 l i)
theorem qfy (k : Nat) (hk : 2000000 ≤ k) (a0 : Int) (a1z : Bool) (a1 : List Cell) (i : Nat) (hi : i + 1 < a1.length) (hl : (a1.length : Int) ≤ 1048576) : go (k + 1) spec_l05Face [.agg [.int .i64 a0, .arr false a1z (.r3 a1)], .int .i64 (i : Int)] = some [.int .i64 (qnw a1 i)] := by
  rw [qmy]
  simp (disch := omega) only [dT, nI, Bool.and_true, qgr, q0f, Int.toNat_natCast, imax, qhn]
  rfl
theorem qcs (k : Nat) (hk : 2000000 ≤ k) (a0 : Int) (a1z : Bool) (a1 : List Cell) (i : Nat) (hi : i + 1 < a1.length) (hl : (a1.length : Int) ≤ 1048576) : go (k + 1) impl_Mesh_faceLevel [.agg [.int .i64 a0, .arr false a1z (.r3 a1)], .int .i64 (i : Int)] = some [.int .i64 (qnw a1 i)] := by
  rw [qiu]
  simp (disch := omega) only [dT, nI, Bool.and_true, qgr, q0f, Int.toNat_natCast, imax, qhn]
  rfl
def qam (t : Int) (l : List Cell) (i : Nat) : Bool := decide (i + 1 < l.length) && qor t (qnw l i)
end Go.Proofs.YtoldpdhhfmlckaaGreat
end
section
namespace Go.Proofs.YtoldpdhhfmlckaaGreat
open Go.Ev
theorem qlq (k : Nat) (a0 : Int) (a1z : Bool) (a1 : List (Int × Int × Int)) (a2z : Bool) (a2 : List Int) (a3z : Bool) (a3 : List Int) (a4z : Bool) (a4 : List Int) : go (k + 1) laws_toState [(.agg [(.int .i64 (a0)), (.arr false (a1z) (.r3 (a1))), (.arr false (a2z) (.ints .i64 (a2))), (.arr false (a3z) (.ints .i64 (a3))), (.arr false (a4z) (.ints .i64 (a4)))])] =
 (go k laws_toMesh [(.agg [(.int .i64 (a0)), (.arr false (a1z) (.r3 (a1)))])]).bind fun r0 =>
 (go k laws_toIntS [(.arr false (a2z) (.ints .i64 (a2)))]).bind fun r1 =>
 (go k laws_toIntS [(.arr false (a3z) (.ints .i64 (a3)))]).bind fun r2 =>
 (go k laws_toIntS [(.arr false (a4z) (.ints .i64 (a4)))]).bind fun r3 =>
 some [(.agg [(.int .i64 (D.toInt (D.cell 0 (nth r0 0)))), (.arr true (D.nil (D.cell 1 (nth r0 0))) (.r3 (D.r3 (D.cell 1 (nth r0 0))))), (.arr true (D.nil (nth r1 0)) (.ints .i64 (D.ints (nth r1 0)))), (.arr true (D.nil (nth r2 0)) (.ints .i64 (D.ints (nth r2 0)))), (.arr true (D.nil (nth r3 0)) (.ints .i64 (D.ints (nth r3 0))))])] := by kernel_rfl
theorem qlf (k : Nat) (a0 : Int) (a1z : Bool) (a1 : List (Int × Int × Int)) (a2z : Bool) (a2 : List Int) (a3z : Bool) (a3 : List Int) (a4z : Bool) (a4 : List Int) (b : Int) : go (k + 1) laws_szState [(.agg [(.int .i64 (a0)), (.arr false (a1z) (.r3 (a1))), (.arr false (a2z) (.ints .i64 (a2))), (.arr false (a3z) (.ints .i64 (a3))), (.arr false (a4z) (.ints .i64 (a4)))]), (.int .i64 (b))] =
 (go k laws_szMesh [(.agg [(.int .i64 (a0)), (.arr false (a1z) (.r3 (a1)))]), (.int .i64 (b))]).bind fun r0 =>
 cond (decide (D.toInt (nth r0 0) < (0 : Int)))
 (some [(.int .i64 ((-1 : Int)))])
 ((go k laws_szIntS [(.arr false (a2z) (.ints .i64 (a2))), (.int .i64 (D.toInt (nth r0 0)))]).bind fun r1 =>
 cond (decide (D.toInt (nth r1 0) < (0 : Int)))
 (some [(.int .i64 ((-1 : Int)))])
 ((go k laws_szIntS [(.arr false (a3z) (.ints .i64 (a3))), (.int .i64 (D.toInt (nth r1 0)))]).bind fun r2 =>
 cond (decide (D.toInt (nth r2 0) < (0 : Int)))
 (some [(.int .i64 ((-1 : Int)))])
 ((go k laws_szIntS [(.arr false (a4z) (.ints .i64 (a4))), (.int .i64 (D.toInt (nth r2 0)))]).bind fun r3 =>
 cond (decide (D.toInt (nth r3 0) < (0 : Int)))
 (some [(.int .i64 ((-1 : Int)))])
 (some [(.int .i64 (D.toInt (nth r3 0)))])))) := by kernel_rfl
theorem qky (k : Nat) (a0 : Int) (a1z : Bool) (a1 : List (Int × Int × Int)) (a2z : Bool) (a2 : List Int) (a3z : Bool) (a3 : List Int) (a4z : Bool) (a4 : List Int) (b0 : Int) (b1z : Bool) (b1 : List (Int × Int × Int)) (b2z : Bool) (b2 : List Int) (b3z : Bool) (b3 : List Int) (b4z : Bool) (b4 : List Int) : go (k + 1) laws_eqState [(.agg [(.int .i64 (a0)), (.arr false (a1z) (.r3 (a1))), (.arr false (a2z) (.ints .i64 (a2))), (.arr false (a3z) (.ints .i64 (a3))), (.arr false (a4z) (.ints .i64 (a4)))]), (.agg [(.int .i64 (b0)), (.arr false (b1z) (.r3 (b1))), (.arr false (b2z) (.ints .i64 (b2))), (.arr false (b3z) (.ints .i64 (b3))), (.arr false (b4z) (.ints .i64 (b4)))])] =
 (go k laws_eqMesh [(.agg [(.int .i64 (a0)), (.arr false (a1z) (.r3 (a1)))]), (.agg [(.int .i64 (b0)), (.arr false (b1z) (.r3 (b1)))])]).bind fun r0 =>
 cond (!bit (nth r0 0))
 (some [(.bool (false))])
 ((go k laws_eqIntS [(.arr false (a2z) (.ints .i64 (a2))), (.arr false (b2z) (.ints .i64 (b2)))]).bind fun r1 =>
 cond (!bit (nth r1 0))
 (some [(.bool (false))])
 ((go k laws_eqIntS [(.arr false (a3z) (.ints .i64 (a3))), (.arr false (b3z) (.ints .i64 (b3)))]).bind fun r2 =>
 cond (!bit (nth r2 0))
 (some [(.bool (false))])
 ((go k laws_eqIntS [(.arr false (a4z) (.ints .i64 (a4))), (.arr false (b4z) (.ints .i64 (b4)))]).bind fun r3 =>
 cond (!bit (nth r3 0))
 (some [(.bool (false))])
 (some [(.bool (true))])))) := by kernel_rfl
end Go.Proofs.YtoldpdhhfmlckaaGreat
end
section
namespace Go.Proofs.YtoldpdhhfmlckaaGreat
open Go.Ev
theorem qem (k : Nat) (hk : 2000000 ≤ k) (a0 : Int) (a1z : Bool) (a1 : List (Int × Int × Int)) (a2z : Bool) (a2 : List Int) (a3z : Bool) (a3 : List Int) (a4z : Bool) (a4 : List Int) (h1 : (a1.length : Int) ≤ 1048576) (h2 : (a2.length : Int) ≤ 1048576) (h3 : (a3.length : Int) ≤ 1048576) (h4 : (a4.length : Int) ≤ 1048576) :
    go (k + 4) laws_toState [(.agg [(.int .i64 (a0)), (.arr false (a1z) (.r3 (a1))), (.arr false (a2z) (.ints .i64 (a2))), (.arr false (a3z) (.ints .i64 (a3))), (.arr false (a4z) (.ints .i64 (a4)))])] = some [.agg [.int .i64 a0, .arr true false (.r3 a1), .arr true false (.ints .i64 a2), .arr true false (.ints .i64 a3), .arr true false (.ints .i64 a4)]] := by
  rw [qlq]
  simp (disch := omega) only [qek, qei, qa2, nth0, qt9, qoq, qgt, qzo, qgu, quz]
theorem qeb (k : Nat) (hk : 2000000 ≤ k) (a0 : Int) (a1z : Bool) (a1 : List (Int × Int × Int)) (a2z : Bool) (a2 : List Int) (a3z : Bool) (a3 : List Int) (a4z : Bool) (a4 : List Int) (b : Int) (h1 : (a1.length : Int) ≤ 9223372036854775807) (h2 : (a2.length : Int) ≤ 9223372036854775807) (h3 : (a3.length : Int) ≤ 9223372036854775807) (h4 : (a4.length : Int) ≤ 9223372036854775807) (hb : 0 ≤ b) (hb' : b ≤ 1048576) :
    go (k + 3) laws_szState [(.agg [(.int .i64 (a0)), (.arr false (a1z) (.r3 (a1))), (.arr false (a2z) (.ints .i64 (a2))), (.arr false (a3z) (.ints .i64 (a3))), (.arr false (a4z) (.ints .i64 (a4)))]), (.int .i64 (b))] = some [.int .i64 (if (a1.length : Int) + a2.length + a3.length + a4.length ≤ b then b - a1.length - a2.length - a3.length - a4.length else -1)] := by
  rw [qlf]
  by_cases g1 : (a1.length : Int) ≤ b
  case neg => rw [if_neg (c := (a1.length : Int) + a2.length + a3.length + a4.length ≤ b) (by omega)]; simp (disch := omega) only [qea, if_neg g1, qa2, nth0, qzo, dT, qhn]
  by_cases g2 : (a2.length : Int) ≤ b - a1.length
  case neg => rw [if_neg (c := (a1.length : Int) + a2.length + a3.length + a4.length ≤ b) (by omega)]; simp (disch := omega) only [qea, if_pos g1, qa2, nth0, qzo, dF, qd9, if_neg g2, dT, qhn, qhl]
  by_cases g3 : (a3.length : Int) ≤ b - a1.length - a2.length
  case neg => rw [if_neg (c := (a1.length : Int) + a2.length + a3.length + a4.length ≤ b) (by omega)]; simp (disch := omega) only [qea, if_pos g1, qa2, nth0, qzo, dF, qd9, if_pos g2, if_neg g3, dT, qhn, qhl]
  by_cases g4 : (a4.length : Int) ≤ b - a1.length - a2.length - a3.length
  case neg => rw [if_neg (c := (a1.length : Int) + a2.length + a3.length + a4.length ≤ b) (by omega)]; simp (disch := omega) only [qea, if_pos g1, qa2, nth0, qzo, dF, qd9, if_pos g2, if_pos g3, if_neg g4, dT, qhn, qhl]
  rw [if_pos (c := (a1.length : Int) + a2.length + a3.length + a4.length ≤ b) (by omega)]; simp (disch := omega) only [qea, if_pos g1, qa2, nth0, qzo, dF, qd9, if_pos g2, if_pos g3, if_pos g4, qhl]
theorem qdu (k : Nat) (hk : 2000000 ≤ k) (r : Int) (z1 z2 z3 z4 y1 y2 y3 y4 : Bool) (l : List Cell) (m t b : List Int) (h1 : (l.length : Int) ≤ 1048576) (h2 : (m.length : Int) ≤ 1048576) (h3 : (t.length : Int) ≤ 1048576) (h4 : (b.length : Int) ≤ 1048576) :
    go (k + 4) laws_eqState [.agg [.int .i64 r, .arr false z1 (.r3 l), .arr false z2 (.ints .i64 m), .arr false z3 (.ints .i64 t), .arr false z4 (.ints .i64 b)], .agg [.int .i64 r, .arr false y1 (.r3 l), .arr false y2 (.ints .i64 m), .arr false y3 (.ints .i64 t), .arr false y4 (.ints .i64 b)]] = some [.bool true] := by
  rw [qky]
  simp (disch := omega) only [qds, bit, qdq, qa2, nth0, qzn, Bool.not_true, qhl]
end Go.Proofs.YtoldpdhhfmlckaaGreat
end
section
namespace Go.Proofs.YtoldpdhhfmlckaaGreat
open Go.Ev
theorem qlj (k : Nat) (a0 a1 a2 : Int) : go (k + 1) laws_toBorder [(.agg [(.int .i64 (a0)), (.int .i64 (a1)), (.int .i64 (a2))])] =
 some [(.agg [(.int .i64 (a0)), (.int .i64 (a1)), (.int .i64 (a2))])] := by kernel_rfl
theorem qlp (k : Nat) (a0 a1 a2 a3 a4 a5 a6 a7 a8 : Int) : go (k + 1) laws_toPlan [(.agg [(.int .i64 (a0)), (.int .i64 (a1)), (.int .i64 (a2)), (.int .i64 (a3)), (.int .i64 (a4)), (.int .i64 (a5)), (.int .i64 (a6)), (.int .i64 (a7)), (.int .i64 (a8))])] =
 (go k laws_toBorder [(.agg [(.int .i64 (a0)), (.int .i64 (a1)), (.int .i64 (a2))])]).bind fun r0 =>
 some [(.agg [(.int .i64 (D.toInt (D.cell 0 (nth r0 0)))), (.int .i64 (D.toInt (D.cell 1 (nth r0 0)))), (.int .i64 (D.toInt (D.cell 2 (nth r0 0)))), (.int .i64 (a3)), (.int .i64 (a4)), (.int .i64 (a5)), (.int .i64 (a6)), (.int .i64 (a7)), (.int .i64 (a8))])] := by kernel_rfl
end Go.Proofs.YtoldpdhhfmlckaaGreat
end
section
namespace Go.Proofs.YtoldpdhhfmlckaaGreat
open Go.Ev
theorem qef (k : Nat) (hk : 2000000 ≤ k) (a0 : Int) (a1 : Int) (a2 : Int) : go (k + 1) laws_toBorder [(.agg [(.int .i64 (a0)), (.int .i64 (a1)), (.int .i64 (a2))])] = some [.agg [.int .i64 a0, .int .i64 a1, .int .i64 a2]] := by
  rw [qlj]
theorem qel (k : Nat) (hk : 2000000 ≤ k) (a0 : Int) (a1 : Int) (a2 : Int) (a3 : Int) (a4 : Int) (a5 : Int) (a6 : Int) (a7 : Int) (a8 : Int) : go (k + 2) laws_toPlan [(.agg [(.int .i64 (a0)), (.int .i64 (a1)), (.int .i64 (a2)), (.int .i64 (a3)), (.int .i64 (a4)), (.int .i64 (a5)), (.int .i64 (a6)), (.int .i64 (a7)), (.int .i64 (a8))])] = some [.agg [.int .i64 a0, .int .i64 a1, .int .i64 a2, .int .i64 a3, .int .i64 a4, .int .i64 a5, .int .i64 a6, .int .i64 a7, .int .i64 a8]] := by
  rw [qlp]
  simp (disch := omega) only [qef, qa2, nth0, qgt, qzo, qgu, qg5]
end Go.Proofs.YtoldpdhhfmlckaaGreat
end
section
namespace Go.Proofs.YtoldpdhhfmlckaaGreat
open Go.Ev
theorem qfv (k : Nat) (hk : 2000000 ≤ k) (a0 : Int) (a1z : Bool) (a1 : List (Int × Int × Int)) (h1 : (a1.length : Int) ≤ 1048576) : go (k + 1) spec_l04Copy [(.agg [(.int .i64 (a0)), (.arr false (a1z) (.r3 (a1)))])] = some [.agg [.int .i64 a0, .arr true false (.r3 a1)]] := by
  rw [qmv]
  simp (disch := omega) only [qt8, big0, dT, Bool.false_and, qhn]
theorem qf3 (k : Nat) (hk : 2000000 ≤ k) (a0 : Int) (a1z : Bool) (a1 : List (Int × Int × Int)) (a2z : Bool) (a2 : List Int) (a3z : Bool) (a3 : List Int) (a4z : Bool) (a4 : List Int) (h1 : (a1.length : Int) ≤ 1048576) (h2 : (a2.length : Int) ≤ 1048576) (h3 : (a3.length : Int) ≤ 1048576) (h4 : (a4.length : Int) ≤ 1048576) : go (k + 2) spec_l07Copy [(.agg [(.int .i64 (a0)), (.arr false (a1z) (.r3 (a1))), (.arr false (a2z) (.ints .i64 (a2))), (.arr false (a3z) (.ints .i64 (a3))), (.arr false (a4z) (.ints .i64 (a4)))])] = some [.agg [.int .i64 a0, .arr true false (.r3 a1), .arr true false (.ints .i64 a2), .arr true false (.ints .i64 a3), .arr true false (.ints .i64 a4)]] := by
  rw [qm3]
  simp (disch := omega) only [qfv, qt8, big0, dT, Bool.false_and, qhn, qa2, nth0, qgt, qzo, qgu, qt9, quz]
theorem qer (k : Nat) (hk : 2000000 ≤ k) (a : List Int) (hl : (a.length : Int) ≤ 1048576) : go (k + 1) slices_Clone_int_int [.arr false false (.ints .i64 a)] = some [.arr true false (.ints .i64 a)] := by
  rw [qlt]
  simp (disch := omega) only [qt8, big0, dT, Bool.false_and, qhn, qhl]
theorem qeq (k : Nat) (hk : 2000000 ≤ k) (a : List Cell) (hl : (a.length : Int) ≤ 1048576) : go (k + 1) slices_Clone_impl_Id_impl_Id [.arr false false (.r3 a)] = some [.arr true false (.r3 a)] := by
  rw [qls]
  simp (disch := omega) only [qt8, big0, dT, Bool.false_and, qhn, qhl]
theorem qcl (k : Nat) (hk : 2000000 ≤ k) (a0 : Int) (a1 : List Cell) (h1 : (a1.length : Int) ≤ 1048576) : go (k + 2) impl_copyMesh [.agg [.int .i64 a0, .arr false false (.r3 a1)]] = some [.agg [.int .i64 a0, .arr true false (.r3 a1)]] := by
  rw [qj4]
  simp (disch := omega) only [qeq, qa2, nth0, qt9, quz]
theorem qcm (k : Nat) (hk : 2000000 ≤ k) (a0 : Int) (a1 : List Cell) (a2 a3 a4 : List Int) (h1 : (a1.length : Int) ≤ 1048576) (h2 : (a2.length : Int) ≤ 1048576) (h3 : (a3.length : Int) ≤ 1048576) (h4 : (a4.length : Int) ≤ 1048576) :
    go (k + 3) impl_copyState [.agg [.int .i64 a0, .arr false false (.r3 a1), .arr false false (.ints .i64 a2), .arr false false (.ints .i64 a3), .arr false false (.ints .i64 a4)]] = some [.agg [.int .i64 a0, .arr true false (.r3 a1), .arr true false (.ints .i64 a2), .arr true false (.ints .i64 a3), .arr true false (.ints .i64 a4)]] := by
  rw [qj5]
  simp (disch := omega) only [qcl, qer, qa2, nth0, qt9, qoq, qgt, qzo, qgu, quz]
end Go.Proofs.YtoldpdhhfmlckaaGreat
end
section
namespace Go.Proofs.YtoldpdhhfmlckaaGreat
open Go.Ev
theorem ql1 (k : Nat) (a0 a1 a2 : Int) : go (k + 1) spec_BorderOk [(.agg [(.int .i64 (a0)), (.int .i64 (a1)), (.int .i64 (a2))])] =
 (go k spec_l01In [(.int .i64 (a0)), (.int .i64 (0 : Int)), (.int .i64 ((10000 : Int)))]).bind fun r0 =>
 cond (bit (nth r0 0))
 ((go k spec_l01In [(.int .i64 (a1)), (.int .i64 (0 : Int)), (.int .i64 ((1000 : Int)))]).bind fun r1 =>
 cond (bit (nth r1 0))
 ((go k spec_l01In [(.int .i64 (a2)), (.int .i64 (0 : Int)), (.int .i64 ((250 : Int)))]).bind fun r2 =>
 some [(.bool (bit (nth r2 0)))])
 (some [(.bool (false))]))
 (some [(.bool (false))]) := by kernel_rfl
theorem qh8 (k : Nat) (a0 a1 a2 : Int) : go (k + 1) impl_BorderOk [(.agg [(.int .i64 (a0)), (.int .i64 (a1)), (.int .i64 (a2))])] =
 (go k impl_within [(.int .i64 (a0)), (.int .i64 (0 : Int)), (.int .i64 ((10000 : Int)))]).bind fun r0 =>
 cond (bit (nth r0 0))
 ((go k impl_within [(.int .i64 (a1)), (.int .i64 (0 : Int)), (.int .i64 ((1000 : Int)))]).bind fun r1 =>
 cond (bit (nth r1 0))
 ((go k impl_within [(.int .i64 (a2)), (.int .i64 (0 : Int)), (.int .i64 ((250 : Int)))]).bind fun r2 =>
 some [(.bool (bit (nth r2 0)))])
 (some [(.bool (false))]))
 (some [(.bool (false))]) := by kernel_rfl
theorem qkb (k : Nat) (a : Int) : go (k + 1) impl_isRain [(.int .i64 (a))] =
 (go k impl_within [(.int .i64 (a)), (.int .i64 (0 : Int)), (.int .i64 ((10000 : Int)))]).bind fun r0 =>
 some [(.bool (bit (nth r0 0)))] := by kernel_rfl
theorem qkc (k : Nat) (a : Int) : go (k + 1) impl_isRate [(.int .i64 (a))] =
 (go k impl_within [(.int .i64 (a)), (.int .i64 (0 : Int)), (.int .i64 ((1000 : Int)))]).bind fun r0 =>
 some [(.bool (bit (nth r0 0)))] := by kernel_rfl
theorem qmk (k : Nat) (a0 a1 a2 a3 a4 a5 a6 a7 a8 : Int) : go (k + 1) spec_PlanOk [(.agg [(.int .i64 (a0)), (.int .i64 (a1)), (.int .i64 (a2)), (.int .i64 (a3)), (.int .i64 (a4)), (.int .i64 (a5)), (.int .i64 (a6)), (.int .i64 (a7)), (.int .i64 (a8))])] =
 (go k spec_BorderOk [(.agg [(.int .i64 (a0)), (.int .i64 (a1)), (.int .i64 (a2))])]).bind fun r0 =>
 cond (bit (nth r0 0))
 ((go k spec_l01In [(.int .i64 (a3)), (.int .i64 (0 : Int)), (.int .i64 ((10000 : Int)))]).bind fun r1 =>
 cond (bit (nth r1 0))
 ((go k spec_l01In [(.int .i64 (a4)), (.int .i64 (0 : Int)), (.int .i64 ((10000 : Int)))]).bind fun r2 =>
 cond (bit (nth r2 0))
 ((go k spec_l01In [(.int .i64 (a5)), (.int .i64 (0 : Int)), (.int .i64 ((1000 : Int)))]).bind fun r3 =>
 cond (bit (nth r3 0))
 ((go k spec_l01In [(.int .i64 (a6)), (.int .i64 (0 : Int)), (.int .i64 ((1000000 : Int)))]).bind fun r4 =>
 cond (bit (nth r4 0))
 ((go k spec_l01In [(.int .i64 (a7)), (.int .i64 (0 : Int)), (.int .i64 ((1000000 : Int)))]).bind fun r5 =>
 cond (bit (nth r5 0))
 ((go k spec_l01In [(.int .i64 (a8)), (.int .i64 (0 : Int)), (.int .i64 ((100 : Int)))]).bind fun r6 =>
 some [(.bool (bit (nth r6 0)))])
 (some [(.bool (false))]))
 (some [(.bool (false))]))
 (some [(.bool (false))]))
 (some [(.bool (false))]))
 (some [(.bool (false))]))
 (some [(.bool (false))]) := by kernel_rfl
theorem qi3 (k : Nat) (a0 a1 a2 a3 a4 a5 a6 a7 a8 : Int) : go (k + 1) impl_PlanOk [(.agg [(.int .i64 (a0)), (.int .i64 (a1)), (.int .i64 (a2)), (.int .i64 (a3)), (.int .i64 (a4)), (.int .i64 (a5)), (.int .i64 (a6)), (.int .i64 (a7)), (.int .i64 (a8))])] =
 (go k impl_BorderOk [(.agg [(.int .i64 (a0)), (.int .i64 (a1)), (.int .i64 (a2))])]).bind fun r0 =>
 cond (bit (nth r0 0))
 ((go k impl_isRain [(.int .i64 (a3))]).bind fun r1 =>
 cond (bit (nth r1 0))
 ((go k impl_isRain [(.int .i64 (a4))]).bind fun r2 =>
 cond (bit (nth r2 0))
 ((go k impl_isRate [(.int .i64 (a5))]).bind fun r3 =>
 cond (bit (nth r3 0))
 ((go k impl_within [(.int .i64 (a6)), (.int .i64 (0 : Int)), (.int .i64 ((1000000 : Int)))]).bind fun r4 =>
 cond (bit (nth r4 0))
 ((go k impl_within [(.int .i64 (a7)), (.int .i64 (0 : Int)), (.int .i64 ((1000000 : Int)))]).bind fun r5 =>
 cond (bit (nth r5 0))
 ((go k impl_within [(.int .i64 (a8)), (.int .i64 (0 : Int)), (.int .i64 ((100 : Int)))]).bind fun r6 =>
 some [(.bool (bit (nth r6 0)))])
 (some [(.bool (false))]))
 (some [(.bool (false))]))
 (some [(.bool (false))]))
 (some [(.bool (false))]))
 (some [(.bool (false))]))
 (some [(.bool (false))]) := by kernel_rfl
end Go.Proofs.YtoldpdhhfmlckaaGreat
end
section
namespace Go.Proofs.YtoldpdhhfmlckaaGreat
open Go.Ev
def qa7 (a b c : Int) : Bool := inR a 0 10000 && (inR b 0 1000 && inR c 0 250)
theorem qey (k : Nat) (hk : 2000000 ≤ k) (a0 : Int) (a1 : Int) (a2 : Int) : go (k + 2) spec_BorderOk [(.agg [(.int .i64 (a0)), (.int .i64 (a1)), (.int .i64 (a2))])] = some [.bool (qa7 a0 a1 a2)] := by
  rw [ql1]
  simp (disch := omega) only [qfu, bit, qa2, nth0, qzn, qhp]
  rfl
theorem qbe (k : Nat) (hk : 2000000 ≤ k) (a0 : Int) (a1 : Int) (a2 : Int) : go (k + 2) impl_BorderOk [(.agg [(.int .i64 (a0)), (.int .i64 (a1)), (.int .i64 (a2))])] = some [.bool (qa7 a0 a1 a2)] := by
  rw [qh8]
  simp (disch := omega) only [qdk, bit, qa2, nth0, qzn, qhp]
  rfl
theorem qcz (k : Nat) (hk : 2000000 ≤ k) (a : Int) : go (k + 2) impl_isRain [(.int .i64 (a))] = some [.bool (inR a 0 10000)] := by
  rw [qkb]
  simp (disch := omega) only [qdk, bit, qa2, nth0, qzn]
theorem qc0 (k : Nat) (hk : 2000000 ≤ k) (a : Int) : go (k + 2) impl_isRate [(.int .i64 (a))] = some [.bool (inR a 0 1000)] := by
  rw [qkc]
  simp (disch := omega) only [qdk, bit, qa2, nth0, qzn]
def quu (a0 a1 a2 a3 a4 a5 a6 a7 a8 : Int) : Bool := qa7 a0 a1 a2 && (inR a3 0 10000 && (inR a4 0 10000 && (inR a5 0 1000 && (inR a6 0 1000000 && (inR a7 0 1000000 && inR a8 0 100)))))
theorem qfg (k : Nat) (hk : 2000000 ≤ k) (a0 : Int) (a1 : Int) (a2 : Int) (a3 : Int) (a4 : Int) (a5 : Int) (a6 : Int) (a7 : Int) (a8 : Int) : go (k + 3) spec_PlanOk [(.agg [(.int .i64 (a0)), (.int .i64 (a1)), (.int .i64 (a2)), (.int .i64 (a3)), (.int .i64 (a4)), (.int .i64 (a5)), (.int .i64 (a6)), (.int .i64 (a7)), (.int .i64 (a8))])] = some [.bool (quu a0 a1 a2 a3 a4 a5 a6 a7 a8)] := by
  rw [qmk]
  simp (disch := omega) only [qey, bit, qfu, qa2, nth0, qzn, qhp]
  rfl
theorem qb0 (k : Nat) (hk : 2000000 ≤ k) (a0 : Int) (a1 : Int) (a2 : Int) (a3 : Int) (a4 : Int) (a5 : Int) (a6 : Int) (a7 : Int) (a8 : Int) : go (k + 3) impl_PlanOk [(.agg [(.int .i64 (a0)), (.int .i64 (a1)), (.int .i64 (a2)), (.int .i64 (a3)), (.int .i64 (a4)), (.int .i64 (a5)), (.int .i64 (a6)), (.int .i64 (a7)), (.int .i64 (a8))])] = some [.bool (quu a0 a1 a2 a3 a4 a5 a6 a7 a8)] := by
  rw [qi3]
  simp (disch := omega) only [qbe, bit, qcz, qc0, qdk, qa2, nth0, qzn, qhp]
  rfl
end Go.Proofs.YtoldpdhhfmlckaaGreat
end
section
namespace Go.Proofs.YtoldpdhhfmlckaaGreat
open Go.Ev
def okp : Int → List Cell → Bool
  | _, [] => true
  | p, x :: l => idOk x.1 x.2.1 x.2.2 && (decide (qyq x.1 x.2.1 x.2.2 = p) && okp (p + qz7 x.2.1) l)
def endp : Int → List Cell → Int
  | p, [] => p
  | p, x :: l => endp (p + qz7 x.2.1) l
theorem qtu : ∀ (l : List Cell) (r p : Int), qtt r p l = (okp p l && (inR r 1 8 && decide (endp p l = r * 16)))
  | [], r, p => rfl
  | x :: l, r, p => by
    simp only [qtt, okp, endp]
    by_cases h : qyq x.1 x.2.1 x.2.2 = p
    · rw [h, qtu l r]; simp only [Bool.and_assoc]; rfl
    · rw [dF h]; simp
theorem qtv {l : List Cell} {r p : Int} : qtt r p l = true ↔ okp p l = true ∧ (1 ≤ r ∧ r ≤ 8) ∧ endp p l = r * 16 := by
  rw [qtu]; simp only [Bool.and_eq_true, qoo, decide_eq_true_eq]
theorem qud {x : Cell} {l : List Cell} {p : Int} : okp p (x :: l) = true ↔ idOk x.1 x.2.1 x.2.2 = true ∧ qyq x.1 x.2.1 x.2.2 = p ∧ okp (p + qz7 x.2.1) l = true := by
  simp only [okp, Bool.and_eq_true, decide_eq_true_eq]
theorem qnv (x : Cell) (l : List Cell) (p : Int) : endp p (x :: l) = endp (p + qz7 x.2.1) l := rfl
theorem quc : ∀ (a b : List Cell) (p : Int), okp p (a ++ b) = (okp p a && okp (endp p a) b)
  | [], b, p => by simp [okp, endp]
  | x :: a, b, p => by simp only [List.cons_append, okp, endp, quc a b, Bool.and_assoc]
theorem qnu : ∀ (a b : List Cell) (p : Int), endp p (a ++ b) = endp (endp p a) b
  | [], b, p => by simp [endp]
  | x :: a, b, p => by simp only [List.cons_append, endp, qnu a b]
theorem qzu (l : List Cell) : ∀ n i, (qzt l n i < 0 ↔ ∀ j, i ≤ j → j < i + n → ¬ (1 < qq8 l j - qq8 l (j + 1) ∨ qq8 l j - qq8 l (j + 1) < -1)) ∧ (0 ≤ qzt l n i → ∃ j : Nat, qzt l n i = j ∧ i ≤ j ∧ j < i + n ∧ (1 < qq8 l j - qq8 l (j + 1) ∨ qq8 l j - qq8 l (j + 1) < -1))
  | 0, i => by refine ⟨⟨fun _ j h1 h2 => by omega, fun _ => by simp [qzt]⟩, fun h => by simp [qzt] at h⟩
  | n + 1, i => by
    have ih := qzu l n (i + 1)
    unfold qzt
    by_cases g : 1 < qq8 l i - qq8 l (i + 1) ∨ qq8 l i - qq8 l (i + 1) < -1
    · rw [if_pos g]
      refine ⟨⟨fun h => by omega, fun h => absurd g (h i (Nat.le_refl _) (by omega))⟩, fun _ => ⟨i, rfl, Nat.le_refl _, by omega, g⟩⟩
    · rw [if_neg g]
      refine ⟨⟨fun h j h1 h2 => ?_, fun h => ih.1.2 fun j h1 h2 => h j (by omega) (by omega)⟩, fun h => ?_⟩
      · by_cases e : j = i
        · subst e; exact g
        · exact ih.1.1 h j (by omega) (by omega)
      · obtain ⟨j, e, h1, h2, h3⟩ := ih.2 h
        exact ⟨j, e, by omega, by omega, h3⟩
theorem qzw (l : List Cell) : unb l < 0 ↔ ∀ j, j + 1 < l.length → -1 ≤ qq8 l j - qq8 l (j + 1) ∧ qq8 l j - qq8 l (j + 1) ≤ 1 := by
  unfold unb
  rw [(qzu l _ _).1]
  refine ⟨fun h j hj => ?_, fun h j _ hj => ?_⟩
  · have := h j (by omega) (by omega); omega
  · have := h j (by omega); omega
theorem qzv {l : List Cell} (h : 0 ≤ unb l) : ∃ j : Nat, unb l = j ∧ j + 1 < l.length ∧ (1 < qq8 l j - qq8 l (j + 1) ∨ qq8 l j - qq8 l (j + 1) < -1) := by
  unfold unb at *
  obtain ⟨j, e, h1, h2, h3⟩ := (qzu l _ _).2 h
  exact ⟨j, e, by omega, h3⟩
end Go.Proofs.YtoldpdhhfmlckaaGreat
end
section
namespace Go.Proofs.YtoldpdhhfmlckaaGreat
open Go.Ev
theorem w0 : qz7 0 = 16 := by decide
theorem w1_ : qz7 1 = 8 := by decide
theorem w2_ : qz7 2 = 4 := by decide
theorem w3_ : qz7 3 = 2 := by decide
theorem w4_ : qz7 4 = 1 := by decide
theorem qol {r l i : Int} : idOk r l i = true ↔ (0 ≤ r ∧ r ≤ 7) ∧ (0 ≤ l ∧ l ≤ 4) ∧ 0 ≤ i ∧ i < pow2 l := by
  simp only [idOk, Bool.and_eq_true, qoo, decide_eq_true_eq]
theorem qys {r l i : Int} (h : idOk r l i = true) : qyq r l i = r * 16 + i * qz7 l := by simp [qyq, h]
abbrev ch0 (x : Cell) : Cell := (x.1, x.2.1 + 1, 2 * x.2.2)
abbrev ch1 (x : Cell) : Cell := (x.1, x.2.1 + 1, 2 * x.2.2 + 1)
theorem qhf {r l i : Int} (h : idOk r l i = true) (hl : l < 4) : idOk r (l + 1) (2 * i) = true ∧ idOk r (l + 1) (2 * i + 1) = true ∧ qyq r (l + 1) (2 * i) = qyq r l i ∧ qyq r (l + 1) (2 * i + 1) = qyq r l i + qz7 (l + 1) ∧ qz7 (l + 1) + qz7 (l + 1) = qz7 l := by
  have h' := qol.1 h
  rcases lev (qoo.2 h'.2.1) with rfl | rfl | rfl | rfl | rfl
  · have p := h'.2.2; simp only [p20] at p
    have a : idOk r 1 (2 * i) = true := qol.2 ⟨h'.1, by omega, by rw [p21]; omega⟩
    have b : idOk r 1 (2 * i + 1) = true := qol.2 ⟨h'.1, by omega, by rw [p21]; omega⟩
    refine ⟨a, b, ?_, ?_, rfl⟩
    · show qyq r 1 (2 * i) = _; rw [qys a, qys h, w0, w1_]; omega
    · show qyq r 1 (2 * i + 1) = _ + qz7 1; rw [qys b, qys h, w0, w1_]; omega
  · have p := h'.2.2; simp only [p21] at p
    have a : idOk r 2 (2 * i) = true := qol.2 ⟨h'.1, by omega, by rw [p22]; omega⟩
    have b : idOk r 2 (2 * i + 1) = true := qol.2 ⟨h'.1, by omega, by rw [p22]; omega⟩
    refine ⟨a, b, ?_, ?_, rfl⟩
    · show qyq r 2 (2 * i) = _; rw [qys a, qys h, w1_, w2_]; omega
    · show qyq r 2 (2 * i + 1) = _ + qz7 2; rw [qys b, qys h, w1_, w2_]; omega
  · have p := h'.2.2; simp only [p22] at p
    have a : idOk r 3 (2 * i) = true := qol.2 ⟨h'.1, by omega, by rw [p23]; omega⟩
    have b : idOk r 3 (2 * i + 1) = true := qol.2 ⟨h'.1, by omega, by rw [p23]; omega⟩
    refine ⟨a, b, ?_, ?_, rfl⟩
    · show qyq r 3 (2 * i) = _; rw [qys a, qys h, w2_, w3_]; omega
    · show qyq r 3 (2 * i + 1) = _ + qz7 3; rw [qys b, qys h, w2_, w3_]; omega
  · have p := h'.2.2; simp only [p23] at p
    have a : idOk r 4 (2 * i) = true := qol.2 ⟨h'.1, by omega, by rw [p24]; omega⟩
    have b : idOk r 4 (2 * i + 1) = true := qol.2 ⟨h'.1, by omega, by rw [p24]; omega⟩
    refine ⟨a, b, ?_, ?_, rfl⟩
    · show qyq r 4 (2 * i) = _; rw [qys a, qys h, w3_, w4_]; omega
    · show qyq r 4 (2 * i + 1) = _ + qz7 4; rw [qys b, qys h, w3_, w4_]; omega
  · omega
def qyh (l : List Cell) (i : Nat) : List Cell := l.take i ++ ch0 (l.getD i zz3) :: ch1 (l.getD i zz3) :: l.drop (i + 1)
theorem qyi {l : List Cell} {i : Nat} (h : i < l.length) : (qyh l i).length = l.length + 1 := by
  simp only [qyh, List.length_append, List.length_take, List.length_cons, List.length_drop]; omega
theorem qhv {α : Type} {l : List α} {i : Nat} (h : i < l.length) (d : α) : l = l.take i ++ l.getD i d :: l.drop (i + 1) := by
  rw [← qh2 h d, List.take_append_drop]
theorem qyk {l : List Cell} {r p : Int} {i : Nat} (h : qtt r p l = true) (hi : i < l.length) (hl : (l.getD i zz3).2.1 < 4) : qtt r p (qyh l i) = true := by
  rw [qtv] at *
  have e := qhv hi zz3
  have h1 := h
  rw [e, quc, qnu] at h1
  unfold qyh
  rw [quc, qnu]
  simp only [qud, qnv, Bool.and_eq_true] at h1 ⊢
  have c := qhf h1.1.2.1 hl
  refine ⟨⟨h1.1.1, c.1, ?_, c.2.1, ?_, ?_⟩, h1.2.1, ?_⟩
  · rw [c.2.2.1]; exact h1.1.2.2.1
  · rw [c.2.2.2.1, h1.1.2.2.1]
  · rw [Int.add_assoc, c.2.2.2.2]; exact h1.1.2.2.2
  · rw [Int.add_assoc, c.2.2.2.2]; exact h1.2.2
def qhi (l : List Cell) (i : Nat) : Nat := if qq8 l (i + 1) < qq8 l i then i + 1 else i
theorem qhj {l : List Cell} {r p : Int} {i : Nat} (h : qtt r p l = true) (hi : i + 1 < l.length) (hu : 1 < qq8 l i - qq8 l (i + 1) ∨ qq8 l i - qq8 l (i + 1) < -1) : qhi l i < l.length ∧ qq8 l (qhi l i) < 4 := by
  have h1 := qtz _ _ _ h i; have h2 := qtz _ _ _ h (i + 1)
  unfold qhi
  by_cases g : qq8 l (i + 1) < qq8 l i
  · rw [if_pos g]; exact ⟨hi, by omega⟩
  · rw [if_neg g]; exact ⟨by omega, by omega⟩
def balN : Nat → List Cell → List Cell
  | 0, l => l
  | n + 1, l => if unb l < 0 then l else balN n (qyh l (qhi l (unb l).toNat))
def bal (l : List Cell) : List Cell := balN (129 - l.length) l
abbrev par (x : Cell) : Cell := (x.1, x.2.1 - 1, x.2.2 / 2)
def sib (a b : Cell) : Bool := idOk a.1 a.2.1 a.2.2 && (idOk b.1 b.2.1 b.2.2 && (decide (a.1 = b.1) && (decide (a.2.1 = b.2.1) && (decide (a.2.2 % 2 = 0) && decide (b.2.2 = a.2.2 + 1)))))
theorem qun {r l i : Int} (h : idOk r l i = true) (h' : idOk r l (i + 1) = true) (he : i % 2 = 0) : 1 ≤ l ∧ idOk r (l - 1) (i / 2) = true ∧ qyq r (l - 1) (i / 2) = qyq r l i ∧ qyq r l (i + 1) = qyq r l i + qz7 l ∧ qz7 l + qz7 l = qz7 (l - 1) := by
  have a := qol.1 h; have b := qol.1 h'
  have hl : 1 ≤ l := by
    rcases Int.lt_or_le l 1 with g | g
    · have : l = 0 := by omega
      subst this; rw [p20] at b; omega
    · exact g
  have q : l - 1 + 1 = l := by omega
  have hi : 2 * (i / 2) = i := by omega
  have p0 : idOk r (l - 1) (i / 2) = true := by
    rcases lev (qoo.2 a.2.1) with rfl | rfl | rfl | rfl | rfl
    · omega
    · rw [p21] at b; exact qol.2 ⟨a.1, by omega, by rw [show (1 : Int) - 1 = 0 from rfl, p20]; omega⟩
    · rw [p22] at b; exact qol.2 ⟨a.1, by omega, by rw [show (2 : Int) - 1 = 1 from rfl, p21]; omega⟩
    · rw [p23] at b; exact qol.2 ⟨a.1, by omega, by rw [show (3 : Int) - 1 = 2 from rfl, p22]; omega⟩
    · rw [p24] at b; exact qol.2 ⟨a.1, by omega, by rw [show (4 : Int) - 1 = 3 from rfl, p23]; omega⟩
  have c := qhf p0 (by omega)
  rw [q, hi] at c
  exact ⟨hl, p0, c.2.2.1.symm, by rw [c.2.2.2.1, c.2.2.1], c.2.2.2.2⟩
def qtp (l : List Cell) (i : Nat) : List Cell := l.take i ++ par (l.getD i zz3) :: l.drop (i + 2)
theorem qtq {l : List Cell} {i : Nat} (h : i + 1 < l.length) : (qtp l i).length + 1 = l.length := by
  simp only [qtp, List.length_append, List.length_take, List.length_cons, List.length_drop]; omega
theorem qtr {l : List Cell} {r p : Int} {i : Nat} (h : qtt r p l = true) (hi : i + 1 < l.length) (hs : sib (l.getD i zz3) (l.getD (i + 1) zz3) = true) : qtt r p (qtp l i) = true := by
  rw [qtv] at *
  have e := qhv (by omega : i < l.length) zz3
  rw [qh2 hi zz3] at e
  have h1 := h
  rw [e, quc, qnu] at h1
  unfold qtp
  rw [quc, qnu]
  simp only [sib, Bool.and_eq_true, decide_eq_true_eq] at hs
  simp only [qud, qnv, Bool.and_eq_true] at h1 ⊢
  obtain ⟨s1, s2, s3, s4, s5, s6⟩ := hs
  have s2' := s2
  rw [← s3, ← s4, s6] at s2'
  have c := qun s1 s2' s5
  have e2 : qz7 (l.getD (i + 1) zz3).2.1 = qz7 (l.getD i zz3).2.1 := by rw [s4]
  rw [e2] at h1
  refine ⟨⟨h1.1.1, c.2.1, ?_, ?_⟩, h1.2.1, ?_⟩
  · rw [c.2.2.1]; exact h1.1.2.2.1
  · rw [← c.2.2.2.2, ← Int.add_assoc]; exact h1.1.2.2.2.2.2
  · rw [← c.2.2.2.2, ← Int.add_assoc]; exact h1.2.2
end Go.Proofs.YtoldpdhhfmlckaaGreat
end
section
namespace Go.Proofs.YtoldpdhhfmlckaaGreat
open Go.Ev
theorem qmg (k : Nat) (a0 a1 a2 a3 b0 b1 b2 b3 : Int) : go (k + 1) spec_LedgerAdd [(.agg [(.int .i64 (a0)), (.int .i64 (a1)), (.int .i64 (a2)), (.int .i64 (a3))]), (.agg [(.int .i64 (b0)), (.int .i64 (b1)), (.int .i64 (b2)), (.int .i64 (b3))])] =
 some [(.agg [(.int .i64 (IntKind.wrap .i64 (a0 + b0))), (.int .i64 (IntKind.wrap .i64 (a1 + b1))), (.int .i64 (IntKind.wrap .i64 (a2 + b2))), (.int .i64 (IntKind.wrap .i64 (a3 + b3)))])] := by kernel_rfl
end Go.Proofs.YtoldpdhhfmlckaaGreat
end
section
namespace Go.Proofs.YtoldpdhhfmlckaaGreat
open Go.Ev
def tab (L : Nat) (g : Nat → Int) : List Int := (List.range L).map g
theorem qza (L : Nat) (g : Nat → Int) : (tab L g).length = L := by simp [tab]
theorem qy9 {L : Nat} {g : Nat → Int} {i : Nat} (h : i < L) : (tab L g).getD i 0 = g i := by simp [tab, h]
theorem qy8 {L : Nat} {g g' : Nat → Int} (h : ∀ j, j < L → g j = g' j) : tab L g = tab L g' := by
  unfold tab
  exact List.map_congr_left fun j hj => h j (by simpa using hj)
theorem qzc {L : Nat} {g : Nat → Int} (i : Nat) (v : Int) : (tab L g).set i v = tab L (fun j => if j = i then v else g j) := by
  apply List.ext_getElem
  · simp [tab]
  · intro j h1 h2
    simp only [tab, List.getElem_set, List.getElem_map, List.getElem_range]
    by_cases h : i = j
    · simp [h]
    · rw [if_neg h, if_neg (fun e => h e.symm)]
theorem qzb (l : List Int) : l = tab l.length (fun j => l.getD j 0) := by
  apply List.ext_getElem
  · simp [tab]
  · intro j h1 h2
    simp [tab, h1]
theorem qze (L : Nat) : List.replicate L (0 : Int) = tab L (fun _ => 0) := by
  apply List.ext_getElem
  · simp [tab]
  · intro j h1 h2; simp [tab]
theorem qzj {x y B : Int} (hy : 0 < y) (h : -B ≤ x) (h' : x ≤ B) : -B ≤ Int.tdiv x y ∧ Int.tdiv x y ≤ B := by
  by_cases hx : 0 ≤ x
  · rw [Int.tdiv_eq_ediv_of_nonneg hx]
    have h1 := Int.ediv_nonneg hx (by omega : 0 ≤ y)
    have h2 := Int.ediv_le_self y hx
    omega
  · obtain ⟨z, rfl⟩ : ∃ z, x = -z := ⟨-x, by omega⟩
    rw [Int.neg_tdiv, Int.tdiv_eq_ediv_of_nonneg (by omega : 0 ≤ z)]
    have h1 := Int.ediv_nonneg (by omega : 0 ≤ z) (by omega : 0 ≤ y)
    have h2 := Int.ediv_le_self y (by omega : 0 ≤ z)
    omega
theorem qt4 {x w A : Int} (hx : -A ≤ x) (hx' : x ≤ A) (hw : 0 ≤ w) (hw' : w ≤ 16) : -(16 * A) ≤ x * w ∧ x * w ≤ 16 * A := by
  have hA : 0 ≤ A := by omega
  have h1 : x * w ≤ A * w := Int.mul_le_mul_of_nonneg_right hx' hw
  have h2 : A * w ≤ A * 16 := Int.mul_le_mul_of_nonneg_left hw' hA
  have h3 : (-A) * w ≤ x * w := Int.mul_le_mul_of_nonneg_right hx hw
  have h4 : (-A) * w = -(A * w) := Int.neg_mul A w
  omega
def qx2 (t p m : Int) : Int := cond (inR m 1 10000000 && (inR p 0 m && inR t 0 (1000 * m))) (Int.tdiv (t * p) m) 0
theorem qx6 {t p m : Int} (hm : inR m 1 10000000 = true) (hp : inR p 0 m = true) (ht : inR t 0 (1000 * m) = true) : 0 ≤ t * p ∧ t * p ≤ 100000000000000000 := by
  rw [qoo] at *
  refine ⟨Int.mul_nonneg (by omega) (by omega), ?_⟩
  calc t * p ≤ 10000000000 * p := Int.mul_le_mul_of_nonneg_right (by omega) (by omega)
    _ ≤ 10000000000 * 10000000 := Int.mul_le_mul_of_nonneg_left (by omega) (by omega)
theorem qx4 (t p m : Int) : 0 ≤ qx2 t p m ∧ qx2 t p m ≤ 100000000000000000 := by
  unfold qx2
  cases hm : inR m 1 10000000
  · simp
  cases hp : inR p 0 m
  · simp
  cases ht : inR t 0 (1000 * m)
  · simp
  have := qx6 hm hp ht
  have hm' := qoo.1 hm
  simp only [Bool.and_self, qhn]
  rw [Int.tdiv_eq_ediv_of_nonneg this.1]
  exact ⟨Int.ediv_nonneg this.1 (by omega), Int.le_trans (Int.ediv_le_self m this.1) this.2⟩
theorem qx5 {t p m : Int} (ht : 0 ≤ t) (hp : 0 ≤ p) (h : t ≤ 1000 * m) : qx2 t p m ≤ 1000 * p := by
  unfold qx2
  cases hh : (inR m 1 10000000 && (inR p 0 m && inR t 0 (1000 * m)))
  · simp only [qhl]; omega
  · simp only [Bool.and_eq_true, qoo] at hh
    simp only [qhn]
    rw [Int.tdiv_eq_ediv_of_nonneg (Int.mul_nonneg ht hp)]
    apply Int.ediv_le_of_le_mul (by omega)
    calc t * p ≤ (1000 * m) * p := Int.mul_le_mul_of_nonneg_right h hp
      _ = 1000 * p * m := by rw [Int.mul_assoc, Int.mul_assoc, Int.mul_comm m p]
def loOk (t m r l : Int) : Bool := inR m 1 10000000 && (inR t 0 (1000 * m) && (inR r 0 m && inR l 0 (m - r)))
def loA (t m r l : Int) : Int := cond (loOk t m r l) (qx2 t r m) 0
def loB (t m r l : Int) : Int := cond (loOk t m r l) (qx2 t (r + l) m - qx2 t r m) 0
def quo (sa sb la lb : Int) : Int := Int.tdiv ((sa - sb) * qz7 (max lb la)) (32 * (qz7 la + qz7 lb))
def qum (sa sb ma mb la lb : Int) : Int := max (0 - mb / 4) (min (ma / 4) (quo sa sb la lb))
def fl (l : List Cell) (m b : List Int) (i : Nat) : Int := qum (surf l m b i) (surf l m b (i + 1)) (m.getD i 0) (m.getD (i + 1) 0) (qq8 l i) (qq8 l (i + 1))
def ff (t : Int) (l : List Cell) (m b : List Int) (i : Nat) : Int := cond (qam t l i) (fl l m b i) 0
theorem qn1 {t : Int} {l : List Cell} {m b : List Int} {i : Nat} (h : l.length ≤ i + 1) : ff t l m b i = 0 := by
  unfold ff qam
  rw [dF (p := i + 1 < l.length) (by omega)]; rfl
theorem qn4 {r : Int} {l : List Cell} {m t b : List Int} (F : StF r l m t b) (i : Nat) : 0 - m.getD (i + 1) 0 / 4 ≤ fl l m b i ∧ fl l m b i ≤ m.getD i 0 / 4 := by
  have h1 := F.at i; have h2 := F.at (i + 1)
  unfold fl qum
  omega
theorem qn2 {r : Int} {l : List Cell} {m t b : List Int} (F : StF r l m t b) (tk : Int) (i : Nat) : 0 - m.getD (i + 1) 0 / 4 ≤ ff tk l m b i ∧ ff tk l m b i ≤ m.getD i 0 / 4 := by
  have h1 := F.at i; have h2 := F.at (i + 1); have h3 := qn4 F i
  unfold ff
  cases qam tk l i
  · simp only [qhl]; omega
  · simp only [qhn]; omega
def rgt (tk : Int) (l : List Cell) (m b : List Int) (i : Nat) : Int := max 0 (ff tk l m b i)
def lft (tk : Int) (l : List Cell) (m b : List Int) (i : Nat) : Int := if 1 ≤ i then max 0 (0 - ff tk l m b (i - 1)) else 0
def outA (tk : Int) (l : List Cell) (m t b : List Int) (i : Nat) : Int := loA (t.getD i 0) (m.getD i 0) (rgt tk l m b i) (lft tk l m b i)
def outB (tk : Int) (l : List Cell) (m t b : List Int) (i : Nat) : Int := loB (t.getD i 0) (m.getD i 0) (rgt tk l m b i) (lft tk l m b i)
def stM (tk : Int) (l : List Cell) (m b : List Int) (j : Nat) : Int := m.getD j 0 - ff tk l m b j + (if 1 ≤ j then ff tk l m b (j - 1) else 0)
def stT (tk : Int) (l : List Cell) (m t b : List Int) (j : Nat) : Int := t.getD j 0 - outA tk l m t b j - outB tk l m t b j + (if 1 ≤ j then outA tk l m t b (j - 1) else 0) + outB tk l m t b (j + 1)
theorem qra (t m l : Int) : loA t m 0 l = 0 := by
  unfold loA qx2
  cases loOk t m 0 l
  · rfl
  · simp
theorem qrb (t m r : Int) : loB t m r 0 = 0 := by
  unfold loB
  cases loOk t m r 0
  · rfl
  · simp
theorem quh {tk : Int} {l : List Cell} {m t b : List Int} {i : Nat} (h : rgt tk l m b i = 0) : outA tk l m t b i = 0 := by unfold outA; rw [h, qra]
theorem quj {tk : Int} {l : List Cell} {m t b : List Int} {i : Nat} (h : lft tk l m b i = 0) : outB tk l m t b i = 0 := by unfold outB; rw [h, qrb]
theorem qug (tk : Int) (l : List Cell) (m t b : List Int) (i : Nat) : 0 ≤ outA tk l m t b i ∧ outA tk l m t b i ≤ 100000000000000000 := by
  unfold outA loA
  cases loOk (t.getD i 0) (m.getD i 0) (rgt tk l m b i) (lft tk l m b i)
  · simp
  · exact qx4 _ _ _
theorem qui (tk : Int) (l : List Cell) (m t b : List Int) (i : Nat) : -100000000000000000 ≤ outB tk l m t b i ∧ outB tk l m t b i ≤ 100000000000000000 := by
  unfold outB loB
  cases loOk (t.getD i 0) (m.getD i 0) (rgt tk l m b i) (lft tk l m b i)
  · simp
  · have h1 := qx4 (t.getD i 0) (rgt tk l m b i) (m.getD i 0)
    have h2 := qx4 (t.getD i 0) (rgt tk l m b i + lft tk l m b i) (m.getD i 0)
    simp only [qhn]; omega
def Tk (tk : Int) (l : List Cell) (m t b : List Int) (k j : Nat) : Int := t.getD j 0 - (if j < k then outA tk l m t b j + outB tk l m t b j else 0) + (if 1 ≤ j ∧ j ≤ k then outA tk l m t b (j - 1) else 0) + (if j + 1 < k then outB tk l m t b (j + 1) else 0)
def upd (G : Nat → Int) (i : Nat) (A B : Int) (j : Nat) : Int := if 1 ≤ i ∧ j = i - 1 then G j + B else if j = i + 1 then G j + A else if j = i then G j - A - B else G j
theorem qz0 {G : Nat → Int} {i : Nat} {A B : Int} (g : 1 ≤ i) : (fun j => if j = i - 1 then G (i - 1) + B else if j = i + 1 then G (i + 1) + A else if j = i then G i - A - B else G j) = upd G i A B := by
  funext j
  unfold upd
  by_cases q1 : j = i - 1
  · rw [if_pos q1, if_pos ⟨g, q1⟩, q1]
  · rw [if_neg q1, if_neg (show ¬ (1 ≤ i ∧ j = i - 1) from fun hh => q1 hh.2)]
    by_cases q2 : j = i + 1
    · rw [if_pos q2, if_pos q2, q2]
    · rw [if_neg q2, if_neg q2]
      by_cases q3 : j = i
      · rw [if_pos q3, if_pos q3, q3]
      · rw [if_neg q3, if_neg q3]
theorem qzz {G : Nat → Int} {i : Nat} {A B : Int} (hB : B = 0) : (fun j => if j = i + 1 then G (i + 1) + A else if j = i then G i - A - B else G j) = upd G i A B := by
  funext j
  unfold upd
  by_cases q1 : 1 ≤ i ∧ j = i - 1
  · rw [if_pos q1, if_neg (by omega), if_neg (by omega), hB]; omega
  · rw [if_neg q1]
    by_cases q2 : j = i + 1
    · rw [if_pos q2, if_pos q2, q2]
    · rw [if_neg q2, if_neg q2]
      by_cases q3 : j = i
      · rw [if_pos q3, if_pos q3, q3]
      · rw [if_neg q3, if_neg q3]
theorem qzy {G : Nat → Int} {i : Nat} {A B : Int} (g : 1 ≤ i) (hA : A = 0) : (fun j => if j = i - 1 then G (i - 1) + B else if j = i then G i - A - B else G j) = upd G i A B := by
  funext j
  unfold upd
  by_cases q1 : j = i - 1
  · rw [if_pos q1, if_pos ⟨g, q1⟩, q1]
  · rw [if_neg q1, if_neg (show ¬ (1 ≤ i ∧ j = i - 1) from fun hh => q1 hh.2)]
    by_cases q2 : j = i + 1
    · rw [if_pos q2, if_neg (by omega), hA]; omega
    · rw [if_neg q2]
      by_cases q3 : j = i
      · rw [if_pos q3, if_pos q3, q3]
      · rw [if_neg q3, if_neg q3]
theorem qzx {G : Nat → Int} {i : Nat} {A B : Int} (hA : A = 0) (hB : B = 0) : (fun j => if j = i then G i - A - B else G j) = upd G i A B := by
  funext j
  unfold upd
  by_cases q1 : 1 ≤ i ∧ j = i - 1
  · rw [if_pos q1, if_neg (by omega), hB]; omega
  · rw [if_neg q1]
    by_cases q2 : j = i + 1
    · rw [if_pos q2, if_neg (by omega), hA]; omega
    · rw [if_neg q2]
      by_cases q3 : j = i
      · rw [if_pos q3, if_pos q3, q3]
      · rw [if_neg q3, if_neg q3]
theorem qak (tk : Int) (l : List Cell) (m t b : List Int) (i : Nat) (hi : i < l.length) :
    tab l.length (upd (Tk tk l m t b i) i (outA tk l m t b i) (outB tk l m t b i)) = tab l.length (Tk tk l m t b (i + 1)) := qy8 fun j hj => by
  unfold upd
  by_cases g1 : 1 ≤ i ∧ j = i - 1
  · obtain ⟨g1, rfl⟩ := g1
    rw [if_pos ⟨g1, rfl⟩]
    unfold Tk
    rw [if_pos (show i - 1 < i by omega), if_neg (show ¬ (i - 1 + 1 < i) by omega), if_pos (show i - 1 < i + 1 by omega), if_pos (show i - 1 + 1 < i + 1 by omega), show i - 1 + 1 = i by omega]
    have e2 : (1 ≤ i - 1 ∧ i - 1 ≤ i) = (1 ≤ i - 1 ∧ i - 1 ≤ i + 1) := by rw [eq_iff_iff]; omega
    simp only [e2]; omega
  · rw [if_neg g1]
    by_cases g2 : j = i + 1
    · subst g2
      rw [if_pos rfl]
      unfold Tk
      rw [if_neg (show ¬ (i + 1 < i) by omega), if_neg (show ¬ (1 ≤ i + 1 ∧ i + 1 ≤ i) by omega), if_neg (show ¬ (i + 1 + 1 < i) by omega), if_neg (show ¬ (i + 1 < i + 1) by omega), if_pos (show 1 ≤ i + 1 ∧ i + 1 ≤ i + 1 by omega), if_neg (show ¬ (i + 1 + 1 < i + 1) by omega), Nat.add_sub_cancel]; omega
    · rw [if_neg g2]
      by_cases g3 : j = i
      · subst g3
        rw [if_pos rfl]
        unfold Tk
        rw [if_neg (show ¬ (j < j) by omega), if_neg (show ¬ (j + 1 < j) by omega), if_pos (show j < j + 1 by omega), if_neg (show ¬ (j + 1 < j + 1) by omega)]
        have e2 : (1 ≤ j ∧ j ≤ j) = (1 ≤ j ∧ j ≤ j + 1) := by rw [eq_iff_iff]; omega
        simp only [e2]; omega
      · rw [if_neg g3]
        unfold Tk
        have e1 : (j < i) = (j < i + 1) := by rw [eq_iff_iff]; omega
        have e2 : (1 ≤ j ∧ j ≤ i) = (1 ≤ j ∧ j ≤ i + 1) := by rw [eq_iff_iff]; omega
        have e3 : (j + 1 < i) = (j + 1 < i + 1) := by rw [eq_iff_iff]; omega
        simp only [e1, e2, e3]
theorem qaj (tk : Int) (l : List Cell) (m t b : List Int) (hm : m.length = l.length) : tab l.length (Tk tk l m t b l.length) = tab l.length (stT tk l m t b) := qy8 fun j hj => by
  unfold Tk stT
  rw [if_pos hj]
  have e2 : (1 ≤ j ∧ j ≤ l.length) = (1 ≤ j) := by rw [eq_iff_iff]; omega
  simp only [e2]
  by_cases g : j + 1 < l.length
  · rw [if_pos g]; omega
  · rw [if_neg g]
    have : outB tk l m t b (j + 1) = 0 := by
      apply quj
      unfold lft
      rw [if_pos (by omega), Nat.add_sub_cancel, qn1 (by omega)]; rfl
    omega
theorem qal (tk : Int) (l : List Cell) (m t b : List Int) (ht : t.length = l.length) : t = tab l.length (Tk tk l m t b 0) := by
  have h := qzb t
  rw [ht] at h
  refine h.trans (qy8 fun j hj => ?_)
  unfold Tk
  rw [if_neg (by omega), if_neg (by omega), if_neg (by omega)]; omega
end Go.Proofs.YtoldpdhhfmlckaaGreat
end
section
namespace Go.Proofs.YtoldpdhhfmlckaaGreat
open Go.Ev
theorem qna (k : Nat) (a b c d e f : Int) : go (k + 1) spec_l09Pair [(.int .i64 (a)), (.int .i64 (b)), (.int .i64 (c)), (.int .i64 (d)), (.int .i64 (e)), (.int .i64 (f))] =
 (go k spec_WidthOf [(.int .i64 (if f > e then f else e))]).bind fun r0 =>
 (go k spec_WidthOf [(.int .i64 (e))]).bind fun r1 =>
 (go k spec_WidthOf [(.int .i64 (f))]).bind fun r2 =>
 (go k spec_DivTrunc [(.int .i64 (IntKind.wrap .i64 (IntKind.wrap .i64 (a - b) * D.toInt (nth r0 0)))), (.int .i64 (IntKind.wrap .i64 ((32 : Int) * IntKind.wrap .i64 (D.toInt (nth r1 0) + D.toInt (nth r2 0)))))]).bind fun r3 =>
 some [(.int .i64 (if IntKind.wrap .i64 ((0 : Int) - IntKind.wrap .i64 (Int.tdiv d (4 : Int))) > if IntKind.wrap .i64 (Int.tdiv c (4 : Int)) < D.toInt (nth r3 0) then IntKind.wrap .i64 (Int.tdiv c (4 : Int)) else D.toInt (nth r3 0) then IntKind.wrap .i64 ((0 : Int) - IntKind.wrap .i64 (Int.tdiv d (4 : Int))) else if IntKind.wrap .i64 (Int.tdiv c (4 : Int)) < D.toInt (nth r3 0) then IntKind.wrap .i64 (Int.tdiv c (4 : Int)) else D.toInt (nth r3 0)))] := by kernel_rfl
theorem qm8 (k : Nat) (a0 : Int) (a1z : Bool) (a1 : List (Int × Int × Int)) (a2z : Bool) (a2 : List Int) (a3z : Bool) (a3 : List Int) (a4z : Bool) (a4 : List Int) (b : Int) : go (k + 1) spec_l09Flux [(.agg [(.int .i64 (a0)), (.arr false (a1z) (.r3 (a1))), (.arr false (a2z) (.ints .i64 (a2))), (.arr false (a3z) (.ints .i64 (a3))), (.arr false (a4z) (.ints .i64 (a4)))]), (.int .i64 (b))] =
 (go k spec_l09Surface [(.agg [(.int .i64 (a0)), (.arr false (a1z) (.r3 (a1))), (.arr false (a2z) (.ints .i64 (a2))), (.arr false (a3z) (.ints .i64 (a3))), (.arr false (a4z) (.ints .i64 (a4)))]), (.int .i64 (b))]).bind fun r0 =>
 (go k spec_l09Surface [(.agg [(.int .i64 (a0)), (.arr false (a1z) (.r3 (a1))), (.arr false (a2z) (.ints .i64 (a2))), (.arr false (a3z) (.ints .i64 (a3))), (.arr false (a4z) (.ints .i64 (a4)))]), (.int .i64 (IntKind.wrap .i64 (b + (1 : Int))))]).bind fun r1 =>
 cond (decide ((0 : Int) ≤ b) && decide (b < nI (List.length a2)))
 (cond (decide ((0 : Int) ≤ IntKind.wrap .i64 (b + (1 : Int))) && decide (IntKind.wrap .i64 (b + (1 : Int)) < nI (List.length a2)))
 (cond (decide ((0 : Int) ≤ b) && decide (b < nI (List.length a1)))
 (cond (decide ((0 : Int) ≤ IntKind.wrap .i64 (b + (1 : Int))) && decide (IntKind.wrap .i64 (b + (1 : Int)) < nI (List.length a1)))
 ((go k spec_l09Pair [(.int .i64 (D.toInt (nth r0 0))), (.int .i64 (D.toInt (nth r1 0))), (.int .i64 (List.getD a2 (Int.toNat b) (0 : Int))), (.int .i64 (List.getD a2 (Int.toNat (IntKind.wrap .i64 (b + (1 : Int)))) (0 : Int))), (.int .i64 (Prod.fst (Prod.snd (List.getD a1 (Int.toNat b) zz3)))), (.int .i64 (Prod.fst (Prod.snd (List.getD a1 (Int.toNat (IntKind.wrap .i64 (b + (1 : Int)))) zz3))))]).bind fun r2 =>
 some [(.int .i64 (D.toInt (nth r2 0)))])
 (none))
 (none))
 (none))
 (none) := by kernel_rfl
theorem qmf (k : Nat) (a b c d : Int) : go (k + 1) spec_LeafOut [(.int .i64 (a)), (.int .i64 (b)), (.int .i64 (c)), (.int .i64 (d))] =
 (go k spec_l01In [(.int .i64 (b)), (.int .i64 ((1 : Int))), (.int .i64 ((10000000 : Int)))]).bind fun r0 =>
 cond (!bit (nth r0 0))
 (some [(.int .i64 (0 : Int)), (.int .i64 (0 : Int))])
 ((go k spec_l01In [(.int .i64 (a)), (.int .i64 (0 : Int)), (.int .i64 (IntKind.wrap .i64 ((1000 : Int) * b)))]).bind fun r1 =>
 cond (!bit (nth r1 0))
 (some [(.int .i64 (0 : Int)), (.int .i64 (0 : Int))])
 ((go k spec_l01In [(.int .i64 (c)), (.int .i64 (0 : Int)), (.int .i64 (b))]).bind fun r2 =>
 cond (!bit (nth r2 0))
 (some [(.int .i64 (0 : Int)), (.int .i64 (0 : Int))])
 ((go k spec_l01In [(.int .i64 (d)), (.int .i64 (0 : Int)), (.int .i64 (IntKind.wrap .i64 (b - c)))]).bind fun r3 =>
 cond (!bit (nth r3 0))
 (some [(.int .i64 (0 : Int)), (.int .i64 (0 : Int))])
 ((go k spec_ShareOut [(.int .i64 (a)), (.int .i64 (c)), (.int .i64 (b))]).bind fun r4 =>
 (go k spec_ShareOut [(.int .i64 (a)), (.int .i64 (IntKind.wrap .i64 (c + d))), (.int .i64 (b))]).bind fun r5 =>
 some [(.int .i64 (D.toInt (nth r4 0))), (.int .i64 (IntKind.wrap .i64 (D.toInt (nth r5 0) - D.toInt (nth r4 0))))])))) := by kernel_rfl
theorem qmo (k : Nat) (a b c : Int) : go (k + 1) spec_ShareOut [(.int .i64 (a)), (.int .i64 (b)), (.int .i64 (c))] =
 (go k spec_l01In [(.int .i64 (c)), (.int .i64 ((1 : Int))), (.int .i64 ((10000000 : Int)))]).bind fun r0 =>
 cond (!bit (nth r0 0))
 (some [(.int .i64 (0 : Int))])
 ((go k spec_l01In [(.int .i64 (b)), (.int .i64 (0 : Int)), (.int .i64 (c))]).bind fun r1 =>
 cond (!bit (nth r1 0))
 (some [(.int .i64 (0 : Int))])
 ((go k spec_l01In [(.int .i64 (a)), (.int .i64 (0 : Int)), (.int .i64 (IntKind.wrap .i64 ((1000 : Int) * c)))]).bind fun r2 =>
 cond (!bit (nth r2 0))
 (some [(.int .i64 (0 : Int))])
 (cond (!decide (c = (0 : Int)))
 (some [(.int .i64 (IntKind.wrap .i64 (Int.tdiv (IntKind.wrap .i64 (a * b)) c)))])
 (none)))) := by kernel_rfl
theorem ql4 (k : Nat) (a b : Int) : go (k + 1) spec_DivTrunc [(.int .i64 (a)), (.int .i64 (b))] =
 cond (decide (b ≤ (0 : Int)))
 (some [(.int .i64 (0 : Int))])
 (cond (!decide (b = (0 : Int)))
 (some [(.int .i64 (IntKind.wrap .i64 (Int.tdiv a b)))])
 (none)) := by kernel_rfl
def qxj (x0 : Int) (z1 : Bool) (l2 : List (Int × Int × Int)) (z3 : Bool) (l4 : List Int) (z5 : Bool) (l6 : List Int) (z7 : Bool) (l8 : List Int) (x9 : Int) (z10 : Bool) (l11 : List (Int × Int × Int)) (z12 : Bool) (l13 : List Int) (z14 : Bool) (l15 : List Int) (z16 : Bool) (l17 : List Int) (x18 : Int) (z19 : Bool) (l20 : List (Int × Int × Int)) (z21 : Bool) (l22 : List Int) (z23 : Bool) (l24 : List Int) (z25 : Bool) (l26 : List Int) (x27 : Int) (z28 : Bool) (l29 : List Int) : St := ⟨fill 151 [(2, (.ptr 4 (0) (0))), (4, (.ptr 9 (0) (0))), (5, (.ptr 14 (0) (0))), (6, (.sl 15 none)), (8, (.int .i64 (x0)))], [], [(.arr false (z1) (.r3 (l2))), (.arr false (z3) (.ints .i64 (l4))), (.arr false (z5) (.ints .i64 (l6))), (.arr false (z7) (.ints .i64 (l8))), (.box true [(.int .i64 (x9)), (.sl 0 none), (.sl 1 none), (.sl 2 none), (.sl 3 none)]), (.arr true (z10) (.r3 (l11))), (.arr true (z12) (.ints .i64 (l13))), (.arr true (z14) (.ints .i64 (l15))), (.arr true (z16) (.ints .i64 (l17))), (.box true [(.int .i64 (x18)), (.sl 5 none), (.sl 6 none), (.sl 7 none), (.sl 8 none)]), (.arr true (z19) (.r3 (l20))), (.arr true (z21) (.ints .i64 (l22))), (.arr true (z23) (.ints .i64 (l24))), (.arr true (z25) (.ints .i64 (l26))), (.box true [(.int .i64 (x27)), (.sl 10 none), (.sl 11 none), (.sl 12 none), (.sl 13 none)]), (.arr true (z28) (.ints .i64 (l29)))]⟩
def qxk (x0 x1 : Int) (z2 : Bool) (l3 : List (Int × Int × Int)) (z4 : Bool) (l5 : List Int) (z6 : Bool) (l7 : List Int) (z8 : Bool) (l9 : List Int) (x10 : Int) (z11 : Bool) (l12 : List (Int × Int × Int)) (z13 : Bool) (l14 : List Int) (z15 : Bool) (l16 : List Int) (z17 : Bool) (l18 : List Int) (x19 : Int) (z20 : Bool) (l21 : List (Int × Int × Int)) (z22 : Bool) (l23 : List Int) (z24 : Bool) (l25 : List Int) (z26 : Bool) (l27 : List Int) (x28 : Int) (z29 : Bool) (l30 : List Int) : St := ⟨fill 151 [(1, (.int .i64 (x0))), (2, (.ptr 4 (0) (0))), (4, (.ptr 9 (0) (0))), (5, (.ptr 14 (0) (0))), (6, (.sl 15 none)), (7, (.int .i64 (x1)))], [], [(.arr false (z2) (.r3 (l3))), (.arr false (z4) (.ints .i64 (l5))), (.arr false (z6) (.ints .i64 (l7))), (.arr false (z8) (.ints .i64 (l9))), (.box true [(.int .i64 (x10)), (.sl 0 none), (.sl 1 none), (.sl 2 none), (.sl 3 none)]), (.arr true (z11) (.r3 (l12))), (.arr true (z13) (.ints .i64 (l14))), (.arr true (z15) (.ints .i64 (l16))), (.arr true (z17) (.ints .i64 (l18))), (.box true [(.int .i64 (x19)), (.sl 5 none), (.sl 6 none), (.sl 7 none), (.sl 8 none)]), (.arr true (z20) (.r3 (l21))), (.arr true (z22) (.ints .i64 (l23))), (.arr true (z24) (.ints .i64 (l25))), (.arr true (z26) (.ints .i64 (l27))), (.box true [(.int .i64 (x28)), (.sl 10 none), (.sl 11 none), (.sl 12 none), (.sl 13 none)]), (.arr true (z29) (.ints .i64 (l30)))]⟩
theorem qnc (k : Nat) (a0 : Int) (a1z : Bool) (a1 : List (Int × Int × Int)) (a2z : Bool) (a2 : List Int) (a3z : Bool) (a3 : List Int) (a4z : Bool) (a4 : List Int) (b : Int) : go (k + 1) spec_l11Step [(.agg [(.int .i64 (a0)), (.arr false (a1z) (.r3 (a1))), (.arr false (a2z) (.ints .i64 (a2))), (.arr false (a3z) (.ints .i64 (a3))), (.arr false (a4z) (.ints .i64 (a4)))]), (.int .i64 (b))] =
 (go k spec_l07Copy [(.agg [(.int .i64 (a0)), (.arr false (a1z) (.r3 (a1))), (.arr false (a2z) (.ints .i64 (a2))), (.arr false (a3z) (.ints .i64 (a3))), (.arr false (a4z) (.ints .i64 (a4)))])]).bind fun r0 =>
 cond (decide ((0 : Int) ≤ nI (List.length a2)) && decide (nI (List.length a2) ≤ nI (List.length a2)) && decide (nI (List.length a2) ≤ nI bigLen))
 (lp k spec_l11Step [] [] 4 k (qxk b (0 : Int) a1z a1 a2z a2 a3z a3 a4z a4 a0 true ([]) true ([]) true ([]) true ([]) (0 : Int) (D.nil (D.cell 1 (nth r0 0))) (D.r3 (D.cell 1 (nth r0 0))) (D.nil (D.cell 2 (nth r0 0))) (D.ints (D.cell 2 (nth r0 0))) (D.nil (D.cell 3 (nth r0 0))) (D.ints (D.cell 3 (nth r0 0))) (D.nil (D.cell 4 (nth r0 0))) (D.ints (D.cell 4 (nth r0 0))) (D.toInt (D.cell 0 (nth r0 0))) false (List.replicate (Int.toNat (nI (List.length a2))) (0 : Int))))
 (none) := by kernel_rfl
theorem qqr (k n : Nat) (fu : List (Nat × Nat)) (x0 : Int) (z1 : Bool) (l2 : List (Int × Int × Int)) (z3 : Bool) (l4 : List Int) (z5 : Bool) (l6 : List Int) (z7 : Bool) (l8 : List Int) (x9 : Int) (z10 : Bool) (l11 : List (Int × Int × Int)) (z12 : Bool) (l13 : List Int) (z14 : Bool) (l15 : List Int) (z16 : Bool) (l17 : List Int) (x18 : Int) (z19 : Bool) (l20 : List (Int × Int × Int)) (z21 : Bool) (l22 : List Int) (z23 : Bool) (l24 : List Int) (z25 : Bool) (l26 : List Int) (x27 : Int) (z28 : Bool) (l29 : List Int) : lp k spec_l11Step [] fu 11 (n + 1) (qxj x0 z1 l2 z3 l4 z5 l6 z7 l8 x9 z10 l11 z12 l13 z14 l15 z16 l17 x18 z19 l20 z21 l22 z23 l24 z25 l26 x27 z28 l29) =
 cond (decide (x0 < nI (List.length l4)))
 (cond (decide ((0 : Int) ≤ x0) && decide (x0 < nI (List.length l29)))
 (cond (decide ((0 : Int) < x0))
 (cond (decide ((0 : Int) ≤ IntKind.wrap .i64 (x0 - (1 : Int))) && decide (IntKind.wrap .i64 (x0 - (1 : Int)) < nI (List.length l29)))
 (cond (decide ((0 : Int) ≤ x0) && decide (x0 < nI (List.length l6)))
 (cond (decide ((0 : Int) ≤ x0) && decide (x0 < nI (List.length l4)))
 ((go k spec_LeafOut [(.int .i64 (List.getD l6 (Int.toNat x0) (0 : Int))), (.int .i64 (List.getD l4 (Int.toNat x0) (0 : Int))), (.int .i64 (if (0 : Int) > List.getD l29 (Int.toNat x0) (0 : Int) then (0 : Int) else List.getD l29 (Int.toNat x0) (0 : Int))), (.int .i64 (if (0 : Int) > IntKind.wrap .i64 ((0 : Int) - List.getD l29 (Int.toNat (IntKind.wrap .i64 (x0 - (1 : Int)))) (0 : Int)) then (0 : Int) else IntKind.wrap .i64 ((0 : Int) - List.getD l29 (Int.toNat (IntKind.wrap .i64 (x0 - (1 : Int)))) (0 : Int))))]).bind fun r0 =>
 cond (decide ((0 : Int) ≤ x0) && decide (x0 < nI (List.length l24)))
 (cond (decide ((0 : Int) ≤ x0) && decide (x0 < nI (List.length l24)))
 (cond (decide ((0 : Int) < if (0 : Int) > List.getD l29 (Int.toNat x0) (0 : Int) then (0 : Int) else List.getD l29 (Int.toNat x0) (0 : Int)))
 (cond (decide ((0 : Int) ≤ IntKind.wrap .i64 (x0 + (1 : Int))) && decide (IntKind.wrap .i64 (x0 + (1 : Int)) < nI (List.length (List.set l24 (Int.toNat x0) (IntKind.wrap .i64 (IntKind.wrap .i64 (List.getD l24 (Int.toNat x0) (0 : Int) - D.toInt (nth r0 0)) - D.toInt (nth r0 1)))))))
 (cond (decide ((0 : Int) ≤ IntKind.wrap .i64 (x0 + (1 : Int))) && decide (IntKind.wrap .i64 (x0 + (1 : Int)) < nI (List.length (List.set l24 (Int.toNat x0) (IntKind.wrap .i64 (IntKind.wrap .i64 (List.getD l24 (Int.toNat x0) (0 : Int) - D.toInt (nth r0 0)) - D.toInt (nth r0 1)))))))
 (cond (decide ((0 : Int) < if (0 : Int) > IntKind.wrap .i64 ((0 : Int) - List.getD l29 (Int.toNat (IntKind.wrap .i64 (x0 - (1 : Int)))) (0 : Int)) then (0 : Int) else IntKind.wrap .i64 ((0 : Int) - List.getD l29 (Int.toNat (IntKind.wrap .i64 (x0 - (1 : Int)))) (0 : Int))))
 (cond (decide ((0 : Int) ≤ IntKind.wrap .i64 (x0 - (1 : Int))) && decide (IntKind.wrap .i64 (x0 - (1 : Int)) < nI (List.length (List.set (List.set l24 (Int.toNat x0) (IntKind.wrap .i64 (IntKind.wrap .i64 (List.getD l24 (Int.toNat x0) (0 : Int) - D.toInt (nth r0 0)) - D.toInt (nth r0 1)))) (Int.toNat (IntKind.wrap .i64 (x0 + (1 : Int)))) (IntKind.wrap .i64 (List.getD (List.set l24 (Int.toNat x0) (IntKind.wrap .i64 (IntKind.wrap .i64 (List.getD l24 (Int.toNat x0) (0 : Int) - D.toInt (nth r0 0)) - D.toInt (nth r0 1)))) (Int.toNat (IntKind.wrap .i64 (x0 + (1 : Int)))) (0 : Int) + D.toInt (nth r0 0)))))))
 (cond (decide ((0 : Int) ≤ IntKind.wrap .i64 (x0 - (1 : Int))) && decide (IntKind.wrap .i64 (x0 - (1 : Int)) < nI (List.length (List.set (List.set l24 (Int.toNat x0) (IntKind.wrap .i64 (IntKind.wrap .i64 (List.getD l24 (Int.toNat x0) (0 : Int) - D.toInt (nth r0 0)) - D.toInt (nth r0 1)))) (Int.toNat (IntKind.wrap .i64 (x0 + (1 : Int)))) (IntKind.wrap .i64 (List.getD (List.set l24 (Int.toNat x0) (IntKind.wrap .i64 (IntKind.wrap .i64 (List.getD l24 (Int.toNat x0) (0 : Int) - D.toInt (nth r0 0)) - D.toInt (nth r0 1)))) (Int.toNat (IntKind.wrap .i64 (x0 + (1 : Int)))) (0 : Int) + D.toInt (nth r0 0)))))))
 (lp k spec_l11Step [] fu 11 n (qxj (IntKind.wrap .i64 (x0 + (1 : Int))) z1 l2 z3 l4 z5 l6 z7 l8 x9 z10 l11 z12 l13 z14 l15 z16 l17 x18 z19 l20 z21 l22 z23 (List.set (List.set (List.set l24 (Int.toNat x0) (IntKind.wrap .i64 (IntKind.wrap .i64 (List.getD l24 (Int.toNat x0) (0 : Int) - D.toInt (nth r0 0)) - D.toInt (nth r0 1)))) (Int.toNat (IntKind.wrap .i64 (x0 + (1 : Int)))) (IntKind.wrap .i64 (List.getD (List.set l24 (Int.toNat x0) (IntKind.wrap .i64 (IntKind.wrap .i64 (List.getD l24 (Int.toNat x0) (0 : Int) - D.toInt (nth r0 0)) - D.toInt (nth r0 1)))) (Int.toNat (IntKind.wrap .i64 (x0 + (1 : Int)))) (0 : Int) + D.toInt (nth r0 0)))) (Int.toNat (IntKind.wrap .i64 (x0 - (1 : Int)))) (IntKind.wrap .i64 (List.getD (List.set (List.set l24 (Int.toNat x0) (IntKind.wrap .i64 (IntKind.wrap .i64 (List.getD l24 (Int.toNat x0) (0 : Int) - D.toInt (nth r0 0)) - D.toInt (nth r0 1)))) (Int.toNat (IntKind.wrap .i64 (x0 + (1 : Int)))) (IntKind.wrap .i64 (List.getD (List.set l24 (Int.toNat x0) (IntKind.wrap .i64 (IntKind.wrap .i64 (List.getD l24 (Int.toNat x0) (0 : Int) - D.toInt (nth r0 0)) - D.toInt (nth r0 1)))) (Int.toNat (IntKind.wrap .i64 (x0 + (1 : Int)))) (0 : Int) + D.toInt (nth r0 0)))) (Int.toNat (IntKind.wrap .i64 (x0 - (1 : Int)))) (0 : Int) + D.toInt (nth r0 1)))) z25 l26 x27 z28 l29))
 (none))
 (none))
 (lp k spec_l11Step [] fu 11 n (qxj (IntKind.wrap .i64 (x0 + (1 : Int))) z1 l2 z3 l4 z5 l6 z7 l8 x9 z10 l11 z12 l13 z14 l15 z16 l17 x18 z19 l20 z21 l22 z23 (List.set (List.set l24 (Int.toNat x0) (IntKind.wrap .i64 (IntKind.wrap .i64 (List.getD l24 (Int.toNat x0) (0 : Int) - D.toInt (nth r0 0)) - D.toInt (nth r0 1)))) (Int.toNat (IntKind.wrap .i64 (x0 + (1 : Int)))) (IntKind.wrap .i64 (List.getD (List.set l24 (Int.toNat x0) (IntKind.wrap .i64 (IntKind.wrap .i64 (List.getD l24 (Int.toNat x0) (0 : Int) - D.toInt (nth r0 0)) - D.toInt (nth r0 1)))) (Int.toNat (IntKind.wrap .i64 (x0 + (1 : Int)))) (0 : Int) + D.toInt (nth r0 0)))) z25 l26 x27 z28 l29)))
 (none))
 (none))
 (cond (decide ((0 : Int) < if (0 : Int) > IntKind.wrap .i64 ((0 : Int) - List.getD l29 (Int.toNat (IntKind.wrap .i64 (x0 - (1 : Int)))) (0 : Int)) then (0 : Int) else IntKind.wrap .i64 ((0 : Int) - List.getD l29 (Int.toNat (IntKind.wrap .i64 (x0 - (1 : Int)))) (0 : Int))))
 (cond (decide ((0 : Int) ≤ IntKind.wrap .i64 (x0 - (1 : Int))) && decide (IntKind.wrap .i64 (x0 - (1 : Int)) < nI (List.length (List.set l24 (Int.toNat x0) (IntKind.wrap .i64 (IntKind.wrap .i64 (List.getD l24 (Int.toNat x0) (0 : Int) - D.toInt (nth r0 0)) - D.toInt (nth r0 1)))))))
 (cond (decide ((0 : Int) ≤ IntKind.wrap .i64 (x0 - (1 : Int))) && decide (IntKind.wrap .i64 (x0 - (1 : Int)) < nI (List.length (List.set l24 (Int.toNat x0) (IntKind.wrap .i64 (IntKind.wrap .i64 (List.getD l24 (Int.toNat x0) (0 : Int) - D.toInt (nth r0 0)) - D.toInt (nth r0 1)))))))
 (lp k spec_l11Step [] fu 11 n (qxj (IntKind.wrap .i64 (x0 + (1 : Int))) z1 l2 z3 l4 z5 l6 z7 l8 x9 z10 l11 z12 l13 z14 l15 z16 l17 x18 z19 l20 z21 l22 z23 (List.set (List.set l24 (Int.toNat x0) (IntKind.wrap .i64 (IntKind.wrap .i64 (List.getD l24 (Int.toNat x0) (0 : Int) - D.toInt (nth r0 0)) - D.toInt (nth r0 1)))) (Int.toNat (IntKind.wrap .i64 (x0 - (1 : Int)))) (IntKind.wrap .i64 (List.getD (List.set l24 (Int.toNat x0) (IntKind.wrap .i64 (IntKind.wrap .i64 (List.getD l24 (Int.toNat x0) (0 : Int) - D.toInt (nth r0 0)) - D.toInt (nth r0 1)))) (Int.toNat (IntKind.wrap .i64 (x0 - (1 : Int)))) (0 : Int) + D.toInt (nth r0 1)))) z25 l26 x27 z28 l29))
 (none))
 (none))
 (lp k spec_l11Step [] fu 11 n (qxj (IntKind.wrap .i64 (x0 + (1 : Int))) z1 l2 z3 l4 z5 l6 z7 l8 x9 z10 l11 z12 l13 z14 l15 z16 l17 x18 z19 l20 z21 l22 z23 (List.set l24 (Int.toNat x0) (IntKind.wrap .i64 (IntKind.wrap .i64 (List.getD l24 (Int.toNat x0) (0 : Int) - D.toInt (nth r0 0)) - D.toInt (nth r0 1)))) z25 l26 x27 z28 l29))))
 (none))
 (none))
 (none))
 (none))
 (none))
 (cond (decide ((0 : Int) ≤ x0) && decide (x0 < nI (List.length l6)))
 (cond (decide ((0 : Int) ≤ x0) && decide (x0 < nI (List.length l4)))
 ((go k spec_LeafOut [(.int .i64 (List.getD l6 (Int.toNat x0) (0 : Int))), (.int .i64 (List.getD l4 (Int.toNat x0) (0 : Int))), (.int .i64 (if (0 : Int) > List.getD l29 (Int.toNat x0) (0 : Int) then (0 : Int) else List.getD l29 (Int.toNat x0) (0 : Int))), (.int .i64 (0 : Int))]).bind fun r1 =>
 cond (decide ((0 : Int) ≤ x0) && decide (x0 < nI (List.length l24)))
 (cond (decide ((0 : Int) ≤ x0) && decide (x0 < nI (List.length l24)))
 (cond (decide ((0 : Int) < if (0 : Int) > List.getD l29 (Int.toNat x0) (0 : Int) then (0 : Int) else List.getD l29 (Int.toNat x0) (0 : Int)))
 (cond (decide ((0 : Int) ≤ IntKind.wrap .i64 (x0 + (1 : Int))) && decide (IntKind.wrap .i64 (x0 + (1 : Int)) < nI (List.length (List.set l24 (Int.toNat x0) (IntKind.wrap .i64 (IntKind.wrap .i64 (List.getD l24 (Int.toNat x0) (0 : Int) - D.toInt (nth r1 0)) - D.toInt (nth r1 1)))))))
 (cond (decide ((0 : Int) ≤ IntKind.wrap .i64 (x0 + (1 : Int))) && decide (IntKind.wrap .i64 (x0 + (1 : Int)) < nI (List.length (List.set l24 (Int.toNat x0) (IntKind.wrap .i64 (IntKind.wrap .i64 (List.getD l24 (Int.toNat x0) (0 : Int) - D.toInt (nth r1 0)) - D.toInt (nth r1 1)))))))
 (lp k spec_l11Step [] fu 11 n (qxj (IntKind.wrap .i64 (x0 + (1 : Int))) z1 l2 z3 l4 z5 l6 z7 l8 x9 z10 l11 z12 l13 z14 l15 z16 l17 x18 z19 l20 z21 l22 z23 (List.set (List.set l24 (Int.toNat x0) (IntKind.wrap .i64 (IntKind.wrap .i64 (List.getD l24 (Int.toNat x0) (0 : Int) - D.toInt (nth r1 0)) - D.toInt (nth r1 1)))) (Int.toNat (IntKind.wrap .i64 (x0 + (1 : Int)))) (IntKind.wrap .i64 (List.getD (List.set l24 (Int.toNat x0) (IntKind.wrap .i64 (IntKind.wrap .i64 (List.getD l24 (Int.toNat x0) (0 : Int) - D.toInt (nth r1 0)) - D.toInt (nth r1 1)))) (Int.toNat (IntKind.wrap .i64 (x0 + (1 : Int)))) (0 : Int) + D.toInt (nth r1 0)))) z25 l26 x27 z28 l29))
 (none))
 (none))
 (lp k spec_l11Step [] fu 11 n (qxj (IntKind.wrap .i64 (x0 + (1 : Int))) z1 l2 z3 l4 z5 l6 z7 l8 x9 z10 l11 z12 l13 z14 l15 z16 l17 x18 z19 l20 z21 l22 z23 (List.set l24 (Int.toNat x0) (IntKind.wrap .i64 (IntKind.wrap .i64 (List.getD l24 (Int.toNat x0) (0 : Int) - D.toInt (nth r1 0)) - D.toInt (nth r1 1)))) z25 l26 x27 z28 l29)))
 (none))
 (none))
 (none))
 (none)))
 (none))
 (some [(.agg [(.int .i64 (x27)), (.arr true (z19) (.r3 (l20))), (.arr true (z21) (.ints .i64 (l22))), (.arr true (z23) (.ints .i64 (l24))), (.arr true (z25) (.ints .i64 (l26)))])]) := by kernel_rfl
theorem qqs (k n : Nat) (fu : List (Nat × Nat)) (x0 x1 : Int) (z2 : Bool) (l3 : List (Int × Int × Int)) (z4 : Bool) (l5 : List Int) (z6 : Bool) (l7 : List Int) (z8 : Bool) (l9 : List Int) (x10 : Int) (z11 : Bool) (l12 : List (Int × Int × Int)) (z13 : Bool) (l14 : List Int) (z15 : Bool) (l16 : List Int) (z17 : Bool) (l18 : List Int) (x19 : Int) (z20 : Bool) (l21 : List (Int × Int × Int)) (z22 : Bool) (l23 : List Int) (z24 : Bool) (l25 : List Int) (z26 : Bool) (l27 : List Int) (x28 : Int) (z29 : Bool) (l30 : List Int) : lp k spec_l11Step [] fu 4 (n + 1) (qxk x0 x1 z2 l3 z4 l5 z6 l7 z8 l9 x10 z11 l12 z13 l14 z15 l16 z17 l18 x19 z20 l21 z22 l23 z24 l25 z26 l27 x28 z29 l30) =
 cond (decide (IntKind.wrap .i64 (x1 + (1 : Int)) < nI (List.length l5)))
 ((go k spec_l05Face [(.agg [(.int .i64 (x10)), (.arr false (z2) (.r3 (l3)))]), (.int .i64 (x1))]).bind fun r0 =>
 (go k spec_IsActive [(.int .i64 (x0)), (.int .i64 (D.toInt (nth r0 0)))]).bind fun r1 =>
 cond (!bit (nth r1 0))
 (lp k spec_l11Step [] fu 4 n (qxk x0 (IntKind.wrap .i64 (x1 + (1 : Int))) z2 l3 z4 l5 z6 l7 z8 l9 x10 z11 l12 z13 l14 z15 l16 z17 l18 x19 z20 l21 z22 l23 z24 l25 z26 l27 x28 z29 l30))
 ((go k spec_l09Flux [(.agg [(.int .i64 (x10)), (.arr false (z2) (.r3 (l3))), (.arr false (z4) (.ints .i64 (l5))), (.arr false (z6) (.ints .i64 (l7))), (.arr false (z8) (.ints .i64 (l9)))]), (.int .i64 (x1))]).bind fun r2 =>
 cond (decide ((0 : Int) ≤ x1) && decide (x1 < nI (List.length l30)))
 (cond (decide ((0 : Int) ≤ x1) && decide (x1 < nI (List.length l23)))
 (cond (decide ((0 : Int) ≤ x1) && decide (x1 < nI (List.length (List.set l30 (Int.toNat x1) (D.toInt (nth r2 0))))))
 (cond (decide ((0 : Int) ≤ x1) && decide (x1 < nI (List.length l23)))
 (cond (decide ((0 : Int) ≤ IntKind.wrap .i64 (x1 + (1 : Int))) && decide (IntKind.wrap .i64 (x1 + (1 : Int)) < nI (List.length (List.set l23 (Int.toNat x1) (IntKind.wrap .i64 (List.getD l23 (Int.toNat x1) (0 : Int) - List.getD (List.set l30 (Int.toNat x1) (D.toInt (nth r2 0))) (Int.toNat x1) (0 : Int)))))))
 (cond (decide ((0 : Int) ≤ x1) && decide (x1 < nI (List.length (List.set l30 (Int.toNat x1) (D.toInt (nth r2 0))))))
 (cond (decide ((0 : Int) ≤ IntKind.wrap .i64 (x1 + (1 : Int))) && decide (IntKind.wrap .i64 (x1 + (1 : Int)) < nI (List.length (List.set l23 (Int.toNat x1) (IntKind.wrap .i64 (List.getD l23 (Int.toNat x1) (0 : Int) - List.getD (List.set l30 (Int.toNat x1) (D.toInt (nth r2 0))) (Int.toNat x1) (0 : Int)))))))
 (lp k spec_l11Step [] fu 4 n (qxk x0 (IntKind.wrap .i64 (x1 + (1 : Int))) z2 l3 z4 l5 z6 l7 z8 l9 x10 z11 l12 z13 l14 z15 l16 z17 l18 x19 z20 l21 z22 (List.set (List.set l23 (Int.toNat x1) (IntKind.wrap .i64 (List.getD l23 (Int.toNat x1) (0 : Int) - List.getD (List.set l30 (Int.toNat x1) (D.toInt (nth r2 0))) (Int.toNat x1) (0 : Int)))) (Int.toNat (IntKind.wrap .i64 (x1 + (1 : Int)))) (IntKind.wrap .i64 (List.getD (List.set l23 (Int.toNat x1) (IntKind.wrap .i64 (List.getD l23 (Int.toNat x1) (0 : Int) - List.getD (List.set l30 (Int.toNat x1) (D.toInt (nth r2 0))) (Int.toNat x1) (0 : Int)))) (Int.toNat (IntKind.wrap .i64 (x1 + (1 : Int)))) (0 : Int) + List.getD (List.set l30 (Int.toNat x1) (D.toInt (nth r2 0))) (Int.toNat x1) (0 : Int)))) z24 l25 z26 l27 x28 z29 (List.set l30 (Int.toNat x1) (D.toInt (nth r2 0)))))
 (none))
 (none))
 (none))
 (none))
 (none))
 (none))
 (none)))
 (lp k spec_l11Step [] fu 11 k (qxj (0 : Int) z2 l3 z4 l5 z6 l7 z8 l9 x10 z11 l12 z13 l14 z15 l16 z17 l18 x19 z20 l21 z22 l23 z24 l25 z26 l27 x28 z29 l30)) := by kernel_rfl

end Go.Proofs.YtoldpdhhfmlckaaGreat
end
section
namespace Go.Proofs.YtoldpdhhfmlckaaGreat
open Go.Ev
theorem qfk (k : Nat) (hk : 2000000 ≤ k) (a : Int) (b : Int) (c : Int) : go (k + 2) spec_ShareOut [(.int .i64 (a)), (.int .i64 (b)), (.int .i64 (c))] = some [.int .i64 (qx2 a b c)] := by
  rw [qmo]
  unfold qx2
  cases hm : inR c 1 10000000
  · simp (disch := omega) only [qfu, hm, bit, qa2, nth0, qzn, Bool.not_false, qhn, Bool.false_and, qhl]
  cases hp : inR b 0 c
  · simp (disch := omega) only [qfu, hm, bit, hp, qa2, nth0, qzn, Bool.not_false, qhn, Bool.not_true, qhl, Bool.false_and, Bool.and_false]
  have hm' := qoo.1 hm
  cases ht : inR a 0 (1000 * c)
  · simp (disch := omega) only [qfu, hm, bit, hp, q0f, ht, dF, Bool.not_false, qhn, qa2, nth0, qzn, Bool.not_true, qhl, Bool.and_false]
  have q := qx6 hm hp ht
  have q2 : 0 ≤ Int.tdiv (a * b) c ∧ Int.tdiv (a * b) c ≤ 100000000000000000 := by
    have := qzj (x := a * b) (y := c) (B := 100000000000000000) (by omega) (by omega) (by omega)
    rw [Int.tdiv_eq_ediv_of_nonneg q.1] at *
    exact ⟨Int.ediv_nonneg q.1 (by omega), this.2⟩
  simp (disch := omega) only [qfu, hm, bit, hp, q0f, ht, dF, Bool.not_false, qhn, qa2, nth0, qzn, Bool.not_true, qhl, Bool.and_true]
theorem qfc (k : Nat) (hk : 2000000 ≤ k) (a : Int) (b : Int) (c : Int) (d : Int) : go (k + 3) spec_LeafOut [(.int .i64 (a)), (.int .i64 (b)), (.int .i64 (c)), (.int .i64 (d))] = some [.int .i64 (loA a b c d), .int .i64 (loB a b c d)] := by
  rw [qmf]
  unfold loA loB loOk
  cases hm : inR b 1 10000000
  · simp (disch := omega) only [qfu, hm, bit, qa2, nth0, qzn, Bool.not_false, qhn, Bool.false_and, qhl]
  have hm' := qoo.1 hm
  cases ht : inR a 0 (1000 * b)
  · simp (disch := omega) only [qfu, hm, bit, q0f, ht, qa2, nth0, qzn, Bool.not_false, qhn, Bool.not_true, qhl, Bool.false_and, Bool.and_false]
  cases hr : inR c 0 b
  · simp (disch := omega) only [qfu, hm, bit, q0f, ht, hr, qa2, nth0, qzn, Bool.not_false, qhn, Bool.not_true, qhl, Bool.false_and, Bool.and_false]
  have hr' := qoo.1 hr
  cases hl : inR d 0 (b - c)
  · simp (disch := omega) only [qfu, hm, bit, q0f, ht, hr, hl, qa2, nth0, qzn, Bool.not_false, qhn, Bool.not_true, qhl, Bool.and_false]
  have hl' := qoo.1 hl
  have s1 := qx4 a c b; have s2 := qx4 a (c + d) b
  simp (disch := omega) only [qfu, hm, bit, q0f, ht, hr, hl, qfk, qa2, nth0, qzo, qzn, Bool.not_true, qhl, Bool.and_true, qhn]
theorem qe1 (k : Nat) (hk : 2000000 ≤ k) (a b : Int) (hb : 0 < b) (ha : -1000000000000 ≤ a) (ha' : a ≤ 1000000000000) : go (k + 1) spec_DivTrunc [.int .i64 a, .int .i64 b] = some [.int .i64 (Int.tdiv a b)] := by
  rw [ql4]
  have := qzj hb ha ha'
  simp (disch := omega) only [dF, Bool.not_false, q0f, qhn, qhl]
theorem qf9 (k : Nat) (hk : 2000000 ≤ k) (a : Int) (b : Int) (c : Int) (d : Int) (e : Int) (f : Int) (ha : 0 ≤ a ∧ a ≤ 161000000) (hb : 0 ≤ b ∧ b ≤ 161000000) (hc : 0 ≤ c ∧ c ≤ 10000000) (hd : 0 ≤ d ∧ d ≤ 10000000) (he : inR e 0 4 = true) (hf : inR f 0 4 = true) : go (k + 3) spec_l09Pair [(.int .i64 (a)), (.int .i64 (b)), (.int .i64 (c)), (.int .i64 (d)), (.int .i64 (e)), (.int .i64 (f))] = some [.int .i64 (qum a b c d e f)] := by
  rw [qna]
  have w1 := qz8 he; have w2 := qz8 hf; have w3 := qz9 (max f e)
  have p := qt4 (x := a - b) (w := qz7 (max f e)) (A := 161000000) (by omega) (by omega) w3.1 w3.2
  have t := qzj (x := (a - b) * qz7 (max f e)) (y := 32 * (qz7 e + qz7 f)) (B := 2576000000) (by omega) (by omega) (by omega)
  have t1 : Int.tdiv c 4 = c / 4 := Int.tdiv_eq_ediv_of_nonneg (by omega)
  have t2 : Int.tdiv d 4 = d / 4 := Int.tdiv_eq_ediv_of_nonneg (by omega)
  simp (disch := omega) only [imax, qfo, q0f, t2, t1, imin, qa2, nth0, qzo, qe1]
  rfl
theorem qf7 (k : Nat) (hk : 2000000 ≤ k) (r : Int) (z1 z2 z3 z4 : Bool) (l : List Cell) (m t b : List Int) (F : StF r l m t b) (i : Nat) (hi : i + 1 < l.length) :
    go (k + 4) spec_l09Flux [.agg [.int .i64 r, .arr false z1 (.r3 l), .arr false z2 (.ints .i64 m), .arr false z3 (.ints .i64 t), .arr false z4 (.ints .i64 b)], .int .i64 (i : Int)] = some [.int .i64 (fl l m b i)] := by
  rw [qm8]
  have hl := F.len; have hm := F.ml
  have h1 := F.at i; have h2 := F.at (i + 1); have s1 := qy5 F i; have s2 := qy5 F (i + 1)
  have v1 := F.lev i; have v2 := F.lev (i + 1)
  have e1 := qga (k + 3 - 1) (by omega) r z1 z2 z3 z4 l m t b F i (by omega)
  have e2 := qga (k + 3 - 1) (by omega) r z1 z2 z3 z4 l m t b F (i + 1) hi
  rw [show k + 3 - 1 + 1 = k + 3 by omega] at e1 e2
  have e3 := qf9 (k + 3 - 3) (by omega) (surf l m b i) (surf l m b (i + 1)) (m.getD i 0) (m.getD (i + 1) 0) (l.getD i zz3).2.1 (l.getD (i + 1) zz3).2.1 s1 s2 ⟨h1.1, h1.2.1⟩ ⟨h2.1, h2.2.1⟩ v1 v2
  rw [show k + 3 - 3 + 3 = k + 3 by omega] at e3
  simp (disch := omega) only [e1, qgr, q0f, e2, dT, nI, Bool.and_true, Int.toNat_natCast, qhn, qa2, nth0, qzo, e3]
  rfl
def Fk (tk : Int) (l : List Cell) (m b : List Int) (k j : Nat) : Int := if j < k then ff tk l m b j else 0
def Mk (tk : Int) (l : List Cell) (m b : List Int) (k j : Nat) : Int := m.getD j 0 - (if j < k then ff tk l m b j else 0) + (if 1 ≤ j ∧ j ≤ k then ff tk l m b (j - 1) else 0)
theorem qs1 (k : Nat) (hk : 2000000 ≤ k) (fu : List (Nat × Nat)) (r tk : Int) (z1 z2 z3 z4 y1 y2 y3 y4 x1 x2 x3 x4 : Bool) (c1 : List Cell) (c2 c3 c4 : List Int) (c0 : Int) (l : List Cell) (m t b tr bd : List Int) (ld : List Cell) (r' : Int) (F : StF r l m t b) : ∀ (n i : Nat), i < l.length → l.length - i < n →
    lp (k + 4) spec_l11Step [] fu 4 (n) (qxk tk (i : Int) z1 l z2 m z3 t z4 b r y1 c1 y2 c2 y3 c3 y4 c4 c0 x1 ld x2 (tab l.length (Mk tk l m b i)) x3 tr x4 bd r' false (tab l.length (Fk tk l m b i))) = lp (k + 4) spec_l11Step [] fu 11 (k + 4) (qxj 0 z1 l z2 m z3 t z4 b r y1 c1 y2 c2 y3 c3 y4 c4 c0 x1 ld x2 (tab l.length (stM tk l m b)) x3 tr x4 bd r' false (tab l.length (ff tk l m b)))
  | 0, i, hi, hn => by omega
  | n + 1, i, hi, hn => by
    have hl := F.len; have hm := F.ml
    rw [qqs]
    by_cases h : i + 1 < l.length
    · have IH := qs1 k hk fu r tk z1 z2 z3 z4 y1 y2 y3 y4 x1 x2 x3 x4 c1 c2 c3 c4 c0 l m t b tr bd ld r' F n (i + 1) h (by omega)
      have b0 := qn4 F i; have b1 := qn2 F tk (i - 1); have a0 := F.at i; have a1 := F.at (i + 1); have a2 := F.at (i - 1)
      have eF := qf7 (k + 4 - 4) (by omega) r z1 z2 z3 z4 l m t b F i h
      rw [show k + 4 - 4 + 4 = k + 4 by omega] at eF
      cases ha : qor tk (qnw l i)
      · have hz : ff tk l m b i = 0 := by unfold ff qam; rw [ha]; simp
        simp (disch := omega) only [qgr, q0f, nI, dT, qfy, qe7, bit, Bool.true_and, Int.toNat_natCast, List.length_set, qa2, nth0, qzn, qzo, ha, Bool.not_false, qhn]
        rw [← IH]
        have q1 : tab l.length (Mk tk l m b i) = tab l.length (Mk tk l m b (i + 1)) := qy8 fun j hj => by
          unfold Mk
          by_cases g1 : j = i
          · subst g1
            by_cases g2 : 1 ≤ j
            · simp (disch := omega) only [hz, if_neg, if_pos]
            · simp (disch := omega) only [hz, if_neg, if_pos]
          · by_cases g2 : j = i + 1
            · subst g2; simp (disch := omega) only [if_neg, Nat.add_sub_cancel, hz, if_pos]
            · have e1 : (j < i) = (j < i + 1) := by rw [eq_iff_iff]; omega
              have e2 : (1 ≤ j ∧ j ≤ i) = (1 ≤ j ∧ j ≤ i + 1) := by rw [eq_iff_iff]; omega
              simp only [e1, e2]
        have q2 : tab l.length (Fk tk l m b i) = tab l.length (Fk tk l m b (i + 1)) := qy8 fun j hj => by
          unfold Fk
          by_cases g1 : j = i
          · subst g1; rw [if_neg (by omega), if_pos (by omega), hz]
          · have e1 : (j < i) = (j < i + 1) := by rw [eq_iff_iff]; omega
            simp only [e1]
        rw [q1, q2]
      · have hz : ff tk l m b i = fl l m b i := by unfold ff qam; rw [ha, dT h]; rfl
        have v1 : Mk tk l m b i i = m.getD i 0 + (if 1 ≤ i then ff tk l m b (i - 1) else 0) := by
          unfold Mk; rw [if_neg (by omega)]
          by_cases g2 : 1 ≤ i
          · rw [if_pos (by omega), if_pos g2]; omega
          · rw [if_neg (by omega), if_neg g2]; omega
        have v2 : Mk tk l m b i (i + 1) = m.getD (i + 1) 0 := by
          unfold Mk; rw [if_neg (by omega), if_neg (by omega)]; omega
        have bb : -5000000 ≤ (if 1 ≤ i then ff tk l m b (i - 1) else 0) ∧ (if 1 ≤ i then ff tk l m b (i - 1) else 0) ≤ 5000000 := by
          by_cases g2 : 1 ≤ i
          · rw [if_pos g2]; rw [show i - 1 + 1 = i by omega] at b1; omega
          · rw [if_neg g2]; omega
        have w1 : -20000000 ≤ Mk tk l m b i i ∧ Mk tk l m b i i ≤ 20000000 := by rw [v1]; omega
        have w2 : -20000000 ≤ Mk tk l m b i (i + 1) ∧ Mk tk l m b i (i + 1) ≤ 20000000 := by rw [v2]; omega
        simp (disch := omega) only [qgr, q0f, nI, dT, qfy, qe7, bit, eF, qza, Bool.and_true, Int.toNat_natCast, qzc, qy9, itT, if_neg, qhn, qa2, nth0, qzo, qzn, ha, Bool.not_true, qhl]
        rw [v1, v2]
        rw [← IH]
        have q1 : tab l.length (fun j => if j = i + 1 then m.getD (i + 1) 0 + fl l m b i else if j = i then m.getD i 0 + (if 1 ≤ i then ff tk l m b (i - 1) else 0) - fl l m b i else Mk tk l m b i j) = tab l.length (Mk tk l m b (i + 1)) := qy8 fun j hj => by
          by_cases g2 : j = i + 1
          · subst g2; unfold Mk; simp (disch := omega) only [if_pos, if_neg, Nat.add_sub_cancel, hz, itT]; omega
          · by_cases g1 : j = i
            · subst g1; unfold Mk
              by_cases g3 : 1 ≤ j
              · simp (disch := omega) only [if_pos, hz, if_neg, itT]; omega
              · simp (disch := omega) only [if_neg, hz, itT, if_pos]; omega
            · rw [if_neg g2, if_neg g1]
              have e1 : (j < i) = (j < i + 1) := by rw [eq_iff_iff]; omega
              have e2 : (1 ≤ j ∧ j ≤ i) = (1 ≤ j ∧ j ≤ i + 1) := by rw [eq_iff_iff]; omega
              unfold Mk
              simp only [e1, e2]
        have q2 : tab l.length (fun j => if j = i then fl l m b i else Fk tk l m b i j) = tab l.length (Fk tk l m b (i + 1)) := qy8 fun j hj => by
          by_cases g1 : j = i
          · subst g1; unfold Fk; rw [if_pos rfl, if_pos (by omega), hz]
          · rw [if_neg g1]
            have e1 : (j < i) = (j < i + 1) := by rw [eq_iff_iff]; omega
            unfold Fk
            simp only [e1]
        rw [q1, q2]
    · simp (disch := omega) only [qgr, q0f, nI, dF, bit, dT, Bool.true_and, Int.toNat_natCast, List.length_set, qhl]
      have q1 : tab l.length (Mk tk l m b i) = tab l.length (stM tk l m b) := qy8 fun j hj => by
        unfold Mk stM
        by_cases g1 : j = i
        · subst g1; rw [if_neg (by omega), qn1 (i := j) (show l.length ≤ j + 1 by omega)]
          by_cases g3 : 1 ≤ j
          · rw [if_pos g3, if_pos (by omega)]
          · rw [if_neg g3, if_neg (by omega)]
        · rw [if_pos (by omega)]
          by_cases g3 : 1 ≤ j
          · rw [if_pos g3, if_pos (by omega)]
          · rw [if_neg g3, if_neg (by omega)]
      have q2 : tab l.length (Fk tk l m b i) = tab l.length (ff tk l m b) := qy8 fun j hj => by
        unfold Fk
        by_cases g1 : j = i
        · subst g1; rw [if_neg (by omega), qn1 (i := j) (show l.length ≤ j + 1 by omega)]
        · rw [if_pos (by omega)]
      rw [q1, q2]
set_option maxHeartbeats 2000000 in
theorem qs0 (k : Nat) (hk : 2000000 ≤ k) (fu : List (Nat × Nat)) (r tk : Int) (z1 z2 z3 z4 y1 y2 y3 y4 : Bool) (c1 : List Cell) (c2 c3 c4 : List Int) (c0 : Int) (l : List Cell) (m t b mm bd : List Int) (ld : List Cell) (r' : Int) (F : StF r l m t b) : ∀ (n i : Nat), i ≤ l.length → l.length - i < n →
    lp (k + 4) spec_l11Step [] fu 11 (n) (qxj (i : Int) z1 l z2 m z3 t z4 b r y1 c1 y2 c2 y3 c3 y4 c4 c0 false ld false mm false (tab l.length (Tk tk l m t b i)) false bd r' false (tab l.length (ff tk l m b))) = some [.agg [.int .i64 r', .arr true false (.r3 ld), .arr true false (.ints .i64 mm), .arr true false (.ints .i64 (tab l.length (stT tk l m t b))), .arr true false (.ints .i64 bd)]]
  | 0, i, hi, hn => by omega
  | n + 1, i, hi, hn => by
    have hl := F.len; have hm := F.ml; have ht := F.tl
    rw [qqr]
    by_cases h : i < l.length
    · have IH := qs0 k hk fu r tk z1 z2 z3 z4 y1 y2 y3 y4 c1 c2 c3 c4 c0 l m t b mm bd ld r' F n (i + 1) (by omega) (by omega)
      rw [← qak tk l m t b i h] at IH
      have f1 := qn2 F tk i; have f2 := qn2 F tk (i - 1); have a0 := F.at i; have a1 := F.at (i + 1); have a2 := F.at (i - 1)
      have A := qug tk l m t b i; have B := qui tk l m t b i
      have A' := qug tk l m t b (i - 1); have B' := qui tk l m t b (i - 1); have A'' := qug tk l m t b (i - 1 - 1)
      have v1 : Tk tk l m t b i i = t.getD i 0 + (if 1 ≤ i then outA tk l m t b (i - 1) else 0) := by
        unfold Tk; rw [if_neg (by omega), if_neg (show ¬ (i + 1 < i) by omega)]
        by_cases g2 : 1 ≤ i
        · rw [if_pos (by omega), if_pos g2]; omega
        · rw [if_neg (by omega), if_neg g2]; omega
      have w1 : 0 ≤ Tk tk l m t b i i ∧ Tk tk l m t b i i ≤ 200000000000000000 := by
        rw [v1]
        by_cases g2 : 1 ≤ i
        · rw [if_pos g2]; omega
        · rw [if_neg g2]; omega
      have w2 : 0 ≤ Tk tk l m t b i (i + 1) ∧ Tk tk l m t b i (i + 1) ≤ 200000000000000000 := by
        unfold Tk; rw [if_neg (by omega), if_neg (by omega), if_neg (by omega)]; omega
      have hA : loA (t.getD i 0) (m.getD i 0) (max 0 (ff tk l m b i)) (lft tk l m b i) = outA tk l m t b i := rfl
      have hB : loB (t.getD i 0) (m.getD i 0) (max 0 (ff tk l m b i)) (lft tk l m b i) = outB tk l m t b i := rfl
      have hi1 : 0 < ff tk l m b i → i + 1 < l.length := fun g4 => by
        rcases Nat.lt_or_ge (i + 1) l.length with q | q
        · exact q
        · rw [qn1 q] at g4; omega
      have zA : ¬ 0 < ff tk l m b i → outA tk l m t b i = 0 := fun g4 => quh (by unfold rgt; omega)
      by_cases g1 : 1 ≤ i
      · have hL : max 0 (0 - ff tk l m b (i - 1)) = lft tk l m b i := by unfold lft; rw [if_pos g1]
        have hL0 : 0 ≤ lft tk l m b i := by rw [← hL]; omega
        rw [show i - 1 + 1 = i by omega] at f2
        have w3 : -300000000000000000 ≤ Tk tk l m t b i (i - 1) ∧ Tk tk l m t b i (i - 1) ≤ 300000000000000000 := by
          unfold Tk; rw [if_pos (by omega), if_neg (show ¬ (i - 1 + 1 < i) by omega)]
          by_cases g3 : 1 ≤ i - 1
          · rw [if_pos (show 1 ≤ i - 1 ∧ i - 1 ≤ i by omega)]; omega
          · rw [if_neg (show ¬ (1 ≤ i - 1 ∧ i - 1 ≤ i) by omega)]; omega
        by_cases g4 : 0 < ff tk l m b i
        · have := hi1 g4
          by_cases g5 : 0 < lft tk l m b i
          · rw [← qz0 g1] at IH
            simp (disch := omega) only [nI, dT, qza, Bool.and_true, qgq, q0f, Int.toNat_natCast, qy9, imax, hL, qfc, hA, hB, qgr, qzc, niF, qhn, qa2, nth1, qzo, nth0]
            exact IH
          · rw [← qzz (quj (by omega))] at IH
            simp (disch := omega) only [nI, dT, qza, Bool.and_true, qgq, q0f, Int.toNat_natCast, qy9, imax, hL, qfc, hA, hB, qgr, qzc, dF, niF, qhn, qhl, qa2, nth0, qzo, nth1]
            exact IH
        · by_cases g5 : 0 < lft tk l m b i
          · rw [← qzy g1 (zA g4)] at IH
            simp (disch := omega) only [nI, dT, qza, Bool.and_true, qgq, q0f, Int.toNat_natCast, qy9, imax, hL, qfc, hA, hB, dF, qgr, qzc, Bool.true_and, niF, qhn, qhl, qa2, nth1, qzo, nth0]
            exact IH
          · rw [← qzx (zA g4) (quj (by omega))] at IH
            simp (disch := omega) only [nI, dT, qza, Bool.and_true, qgq, q0f, Int.toNat_natCast, qy9, imax, hL, qfc, hA, hB, dF, qgr, qzc, Bool.true_and, niF, qhn, qhl, qa2, nth0, qzo, nth1]
            exact IH
      · have hL : (0 : Int) = lft tk l m b i := by unfold lft; rw [if_neg g1]
        have zB : outB tk l m t b i = 0 := quj hL.symm
        have hA' : loA (t.getD i 0) (m.getD i 0) (max 0 (ff tk l m b i)) 0 = outA tk l m t b i := by unfold outA rgt; rw [← hL]
        have hB' : loB (t.getD i 0) (m.getD i 0) (max 0 (ff tk l m b i)) 0 = outB tk l m t b i := by unfold outB rgt; rw [← hL]
        by_cases g4 : 0 < ff tk l m b i
        · have := hi1 g4
          rw [← qzz zB] at IH
          simp (disch := omega) only [nI, dT, qza, Bool.and_true, dF, q0f, Int.toNat_natCast, qy9, imax, qfc, qgr, qzc, niF, qgq, qhl, qhn, qa2, nth0, qzo, nth1, hA', hB']
          exact IH
        · rw [← qzx (zA g4) zB] at IH
          simp (disch := omega) only [nI, dT, qza, Bool.and_true, dF, q0f, Int.toNat_natCast, qy9, imax, qfc, qgr, qzc, Bool.true_and, niF, qgq, qhl, qhn, qa2, nth0, qzo, nth1, hA', hB']
          exact IH
    · simp (disch := omega) only [nI, dF, dT, Bool.true_and, q0f, Bool.and_false, Int.toNat_natCast, imax, qgr, List.length_set, qhl, qhn]
      rw [show i = l.length by omega, qaj tk l m t b hm]
theorem qae (tk : Int) (l : List Cell) (m b : List Int) (hm : m.length = l.length) : m = tab l.length (Mk tk l m b 0) := by
  have h := qzb m
  rw [hm] at h
  refine h.trans (qy8 fun j hj => ?_)
  unfold Mk
  rw [if_neg (by omega), if_neg (by omega)]; omega
theorem qaa (tk : Int) (l : List Cell) (m b : List Int) : List.replicate l.length (0 : Int) = tab l.length (Fk tk l m b 0) := by
  rw [qze]
  refine qy8 fun j hj => ?_
  unfold Fk
  rw [if_neg (by omega)]
theorem qgb (k : Nat) (hk : 2000000 ≤ k) (r : Int) (z1 z2 z3 z4 : Bool) (l : List Cell) (m t b : List Int) (F : StF r l m t b) (tk : Int) :
    go (k + 5) spec_l11Step [.agg [.int .i64 r, .arr false z1 (.r3 l), .arr false z2 (.ints .i64 m), .arr false z3 (.ints .i64 t), .arr false z4 (.ints .i64 b)], .int .i64 tk] = some [.agg [.int .i64 r, .arr true false (.r3 l), .arr true false (.ints .i64 (tab l.length (stM tk l m b))), .arr true false (.ints .i64 (tab l.length (stT tk l m t b))), .arr true false (.ints .i64 b)]] := by
  rw [qnc]
  have hl := F.len; have hm := F.ml; have ht := F.tl; have hb := F.bl; have hr := F.rr
  simp (disch := omega) only [qf3, nI, dT, Bool.and_true, big0, Int.toNat_natCast, qhn, qa2, nth0, qgu, qt9, quz, qg5, qoq, qg7, qg8, qgt, qzo]
  rw [show List.replicate m.length (0 : Int) = tab l.length (Fk tk l m b 0) by rw [hm]; exact qaa tk l m b]
  have e1 := qs1 k hk [] r tk z1 z2 z3 z4 true true true true false false false false [] [] [] [] 0 l m t b t b l r F (k + 4) 0 (by omega) (by omega)
  have e2 := qs0 k hk [] r tk z1 z2 z3 z4 true true true true [] [] [] [] 0 l m t b (tab l.length (stM tk l m b)) b l r F (k + 4) 0 (by omega) (by omega)
  rw [← qae tk l m b hm] at e1
  rw [← qal tk l m t b ht] at e2
  exact e1.trans e2
end Go.Proofs.YtoldpdhhfmlckaaGreat
end
section
namespace Go.Proofs.YtoldpdhhfmlckaaGreat
open Go.Ev
def qyz (g : Nat → Int) : Nat → Int
  | 0 => 0
  | n + 1 => qyz g n + g n
theorem qos : ∀ (a b : List Int), isum (a ++ b) = isum a + isum b
  | [], b => by simp [isum]
  | x :: a, b => by simp only [List.cons_append, isum, qos a b]; omega
theorem qo0 (g : Nat → Int) : ∀ n, isum (tab n g) = qyz g n
  | 0 => by simp [tab, isum, qyz]
  | n + 1 => by
    have := qo0 g n
    unfold tab at *
    rw [List.range_succ, List.map_append, qos, this]
    simp [isum, qyz]
theorem qoz (l : List Int) : isum l = qyz (fun j => l.getD j 0) l.length := by
  have h := qzb l
  have e := qo0 (fun j => l.getD j 0) l.length
  rw [← h] at e; exact e
theorem qtn : ∀ (m t : List Int), m.length = t.length → (∀ i, i < m.length → (0 ≤ m.getD i 0 ∧ m.getD i 0 ≤ 10000000) ∧ 0 ≤ t.getD i 0 ∧ t.getD i 0 ≤ 1000 * m.getD i 0) → qtk m t = true
  | [], t, hl, h => by simp [qtk]
  | x :: m, [], hl, h => by simp at hl
  | x :: m, y :: t, hl, h => by
    have h0 := h 0 (by simp)
    simp only [List.getD_cons_zero] at h0
    have ih := qtn m t (by simpa using hl) fun i hi => by simpa using h (i + 1) (by simpa using hi)
    simp only [qtk, ih, Bool.and_true, Bool.and_eq_true, qoo]
    exact h0
theorem qns : ∀ (l : List Int), (∀ x ∈ l, 0 ≤ x) → ∀ x ∈ l, x ≤ isum l
  | [], h, x, hx => by cases hx
  | y :: l, h, x, hx => by
    have hn : 0 ≤ isum l := by
      clear hx
      induction l with
      | nil => simp [isum]
      | cons z l ih =>
        have := ih (fun w hw => h w (by simp only [List.mem_cons] at *; rcases hw with rfl | hw <;> simp_all))
        have := h z (by simp)
        simp only [isum]; omega
    have hy := h y (by simp)
    simp only [isum]
    rcases List.mem_cons.1 hx with rfl | hx
    · omega
    · have := qns l (fun w hw => h w (by simp [hw])) x hx
      omega
theorem qx3 {t p m : Int} (hm : 1 ≤ m) (hm' : m ≤ 10000000) (hp : 0 ≤ p) (hp' : p ≤ m) (ht : 0 ≤ t) (ht' : t ≤ 1000 * m) : qx2 t p m = t * p / m := by
  unfold qx2
  rw [qoo.2 ⟨hm, hm'⟩, qoo.2 ⟨hp, hp'⟩, qoo.2 ⟨ht, ht'⟩]
  simp only [Bool.and_self, qhn]
  exact Int.tdiv_eq_ediv_of_nonneg (Int.mul_nonneg ht hp)
theorem qx7 {t p m : Int} (hm : 1 ≤ m) (hp : 0 ≤ p) (hp' : p ≤ m) (ht : 0 ≤ t) (ht' : t ≤ 1000 * m) : 0 ≤ t * p / m ∧ t * p / m ≤ t ∧ t - 1000 * (m - p) ≤ t * p / m := by
  refine ⟨Int.ediv_nonneg (Int.mul_nonneg ht hp) (by omega), ?_, ?_⟩
  · apply Int.ediv_le_of_le_mul (by omega)
    exact Int.mul_le_mul_of_nonneg_left hp' ht
  · apply Int.le_ediv_of_mul_le (by omega)
    have h1 : t * (m - p) ≤ 1000 * m * (m - p) := Int.mul_le_mul_of_nonneg_right ht' (by omega)
    have e1 : t * (m - p) = t * m - t * p := Int.mul_sub t m p
    have e2 : 1000 * m * (m - p) = 1000 * (m - p) * m := by rw [Int.mul_assoc, Int.mul_comm m (m - p), ← Int.mul_assoc]
    have e3 : (t - 1000 * (m - p)) * m = t * m - 1000 * (m - p) * m := Int.sub_mul _ _ _
    omega
theorem qx8 {t r l m : Int} (hm : 1 ≤ m) (hr : 0 ≤ r) (hl : 0 ≤ l) (ht : 0 ≤ t) (ht' : t ≤ 1000 * m) : t * r / m ≤ t * (r + l) / m ∧ t * (r + l) / m ≤ t * r / m + 1000 * l := by
  have e : t * (r + l) = t * r + t * l := Int.mul_add t r l
  have n := Int.mul_nonneg ht hl
  have h1 : t * l ≤ 1000 * m * l := Int.mul_le_mul_of_nonneg_right ht' hl
  have e2 : 1000 * m * l = 1000 * l * m := by rw [Int.mul_assoc, Int.mul_comm m l, ← Int.mul_assoc]
  refine ⟨Int.ediv_le_ediv (by omega) (by omega), ?_⟩
  rw [← Int.add_mul_ediv_right _ _ (by omega : m ≠ 0)]
  exact Int.ediv_le_ediv (by omega) (by omega)
section
variable {r : Int} {l : List Cell} {m t b : List Int}
theorem qvq (F : StF r l m t b) (tk : Int) (i : Nat) : 0 ≤ rgt tk l m b i ∧ rgt tk l m b i ≤ m.getD i 0 / 4 := by
  have := qn2 F tk i; have := F.at i
  unfold rgt; omega
theorem qq9 (F : StF r l m t b) (tk : Int) (i : Nat) : 0 ≤ lft tk l m b i ∧ lft tk l m b i ≤ m.getD i 0 / 4 := by
  have h := qn2 F tk (i - 1); have := F.at i
  unfold lft
  by_cases g : 1 ≤ i
  · rw [if_pos g]; rw [show i - 1 + 1 = i by omega] at h; omega
  · rw [if_neg g]; omega
theorem quk (F : StF r l m t b) (tk : Int) (i : Nat) : 0 ≤ outA tk l m t b i ∧ outA tk l m t b i ≤ 1000 * rgt tk l m b i ∧ 0 ≤ outB tk l m t b i ∧ outB tk l m t b i ≤ 1000 * lft tk l m b i ∧
    outA tk l m t b i + outB tk l m t b i ≤ t.getD i 0 ∧ t.getD i 0 - 1000 * (m.getD i 0 - rgt tk l m b i - lft tk l m b i) ≤ outA tk l m t b i + outB tk l m t b i := by
  have h := F.at i; have R := qvq F tk i; have L := qq9 F tk i
  by_cases hm : 1 ≤ m.getD i 0
  · have ok : loOk (t.getD i 0) (m.getD i 0) (rgt tk l m b i) (lft tk l m b i) = true := by
      unfold loOk
      rw [qoo.2 ⟨hm, h.2.1⟩, qoo.2 ⟨h.2.2.1, h.2.2.2⟩, qoo.2 ⟨R.1, by omega⟩, qoo.2 ⟨L.1, by omega⟩]; rfl
    have s1 := qx3 (t := t.getD i 0) (p := rgt tk l m b i) hm h.2.1 R.1 (by omega) h.2.2.1 h.2.2.2
    have s2 := qx3 (t := t.getD i 0) (p := rgt tk l m b i + lft tk l m b i) hm h.2.1 (by omega) (by omega) h.2.2.1 h.2.2.2
    have c1 := qx7 (t := t.getD i 0) (p := rgt tk l m b i + lft tk l m b i) hm (by omega) (by omega) h.2.2.1 h.2.2.2
    have c2 := qx8 (t := t.getD i 0) (r := rgt tk l m b i) (l := lft tk l m b i) hm R.1 L.1 h.2.2.1 h.2.2.2
    have c3 := qx5 (t := t.getD i 0) (p := rgt tk l m b i) (m := m.getD i 0) h.2.2.1 R.1 h.2.2.2
    have c4 := (qx4 (t.getD i 0) (rgt tk l m b i) (m.getD i 0)).1
    unfold outA outB loA loB
    rw [ok]
    simp only [qhn]
    omega
  · have z : m.getD i 0 = 0 := by omega
    have ok : loOk (t.getD i 0) (m.getD i 0) (rgt tk l m b i) (lft tk l m b i) = false := by
      unfold loOk
      have : inR (m.getD i 0) 1 10000000 = false := by rw [← Bool.not_eq_true, qoo]; omega
      rw [this]; rfl
    unfold outA outB loA loB
    rw [ok]
    simp only [qhl]
    omega
theorem qyl (F : StF r l m t b) (tk : Int) (j : Nat) : stM tk l m b j = m.getD j 0 - rgt tk l m b j - lft tk l m b j + (if 1 ≤ j then rgt tk l m b (j - 1) else 0) + lft tk l m b (j + 1) := by
  unfold stM rgt lft
  rw [if_pos (show 1 ≤ j + 1 by omega), Nat.add_sub_cancel]
  by_cases g : 1 ≤ j
  · simp only [if_pos g]; omega
  · simp only [if_neg g]; omega
theorem qym (F : StF r l m t b) (tk : Int) (j : Nat) : 0 ≤ stM tk l m b j := by
  rw [qyl F]
  have R := qvq F tk j; have L := qq9 F tk j; have R' := qvq F tk (j - 1); have L' := qq9 F tk (j + 1); have := F.at j
  by_cases g : 1 ≤ j
  · rw [if_pos g]; omega
  · rw [if_neg g]; omega
theorem qyo (F : StF r l m t b) (tk : Int) (j : Nat) : 0 ≤ stT tk l m t b j ∧ stT tk l m t b j ≤ 1000 * stM tk l m b j := by
  rw [qyl F]
  unfold stT
  have a := quk F tk j; have a1 := quk F tk (j - 1); have a2 := quk F tk (j + 1)
  by_cases g : 1 ≤ j
  · rw [if_pos g, if_pos g]; omega
  · rw [if_neg g, if_neg g]; omega
theorem qyn (tk : Int) (l : List Cell) (m b : List Int) : ∀ n, qyz (stM tk l m b) n = qyz (fun j => m.getD j 0) n - (if 1 ≤ n then ff tk l m b (n - 1) else 0)
  | 0 => by simp [qyz]
  | n + 1 => by
    have ih := qyn tk l m b n
    simp only [qyz, ih]
    rw [if_pos (show 1 ≤ n + 1 by omega), Nat.add_sub_cancel]
    unfold stM
    by_cases g : 1 ≤ n
    · simp only [if_pos g]; omega
    · simp only [if_neg g]; omega
theorem qyp (tk : Int) (l : List Cell) (m t b : List Int) : ∀ n, qyz (stT tk l m t b) n = qyz (fun j => t.getD j 0) n - (if 1 ≤ n then outA tk l m t b (n - 1) else 0) - outB tk l m t b 0 + outB tk l m t b n
  | 0 => by simp [qyz]; omega
  | n + 1 => by
    have ih := qyp tk l m t b n
    simp only [qyz, ih]
    rw [if_pos (show 1 ≤ n + 1 by omega), Nat.add_sub_cancel]
    unfold stT
    by_cases g : 1 ≤ n
    · simp only [if_pos g]; omega
    · simp only [if_neg g]; omega
theorem qyv (F : StF r l m t b) (tk : Int) : isum (tab l.length (stM tk l m b)) = isum m := by
  have L := F.len
  rw [qo0, qyn, qoz m, F.ml, if_pos L.1, qn1 (by omega)]; omega
theorem qyw (F : StF r l m t b) (tk : Int) : isum (tab l.length (stT tk l m t b)) = isum t := by
  have L := F.len
  have z1 : outA tk l m t b (l.length - 1) = 0 := quh (by unfold rgt; rw [qn1 (by omega)]; rfl)
  have z2 : outB tk l m t b 0 = 0 := quj (by unfold lft; rw [if_neg (by omega)])
  have z3 : outB tk l m t b l.length = 0 := quj (by unfold lft; rw [if_pos L.1, qn1 (by omega)]; rfl)
  rw [qo0, qyp, qoz t, F.tl, if_pos L.1, z1, z2, z3]; omega
theorem qyu (F : StF r l m t b) (tk : Int) : StF r l (tab l.length (stM tk l m b)) (tab l.length (stT tk l m t b)) b := by
  have hs := qyv F tk
  have hn : ∀ x ∈ tab l.length (stM tk l m b), 0 ≤ x := by
    intro x hx
    simp only [tab, List.mem_map] at hx
    obtain ⟨j, _, rfl⟩ := hx
    exact qym F tk j
  refine ⟨F.mesh, F.bal, qza _ _, qza _ _, F.bl, ?_, F.bed, by rw [hs]; exact F.sum⟩
  refine qtn _ _ (by rw [qza, qza]) fun i hi => ?_
  rw [qza] at hi
  have h1 := qns _ hn _ (qoa (by rw [qza]; exact hi : i < (tab l.length (stM tk l m b)).length) 0)
  rw [hs] at h1
  have := F.sum
  rw [qy9 hi] at *
  rw [qy9 hi]
  exact ⟨⟨qym F tk i, by omega⟩, qyo F tk i⟩
end
end Go.Proofs.YtoldpdhhfmlckaaGreat
end
section
namespace Go.Proofs.YtoldpdhhfmlckaaGreat
open Go.Ev
theorem qjh (k : Nat) (a0 : Int) (a1z : Bool) (a1 : List (Int × Int × Int)) (a2z : Bool) (a2 : List Int) (a3z : Bool) (a3 : List Int) (a4z : Bool) (a4 : List Int) (b : Int) : go (k + 1) impl_State_flux [(.agg [(.int .i64 (a0)), (.arr false (a1z) (.r3 (a1))), (.arr false (a2z) (.ints .i64 (a2))), (.arr false (a3z) (.ints .i64 (a3))), (.arr false (a4z) (.ints .i64 (a4)))]), (.int .i64 (b))] =
 (go k impl_State_side [(.agg [(.int .i64 (a0)), (.arr false (a1z) (.r3 (a1))), (.arr false (a2z) (.ints .i64 (a2))), (.arr false (a3z) (.ints .i64 (a3))), (.arr false (a4z) (.ints .i64 (a4)))]), (.int .i64 (b))]).bind fun r0 =>
 (go k impl_State_side [(.agg [(.int .i64 (a0)), (.arr false (a1z) (.r3 (a1))), (.arr false (a2z) (.ints .i64 (a2))), (.arr false (a3z) (.ints .i64 (a3))), (.arr false (a4z) (.ints .i64 (a4)))]), (.int .i64 (IntKind.wrap .i64 (b + (1 : Int))))]).bind fun r1 =>
 (go k impl_flux [(.agg [(.int .i64 (D.toInt (D.cell 0 (nth r0 0)))), (.int .i64 (D.toInt (D.cell 1 (nth r0 0)))), (.int .i64 (D.toInt (D.cell 2 (nth r0 0))))]), (.agg [(.int .i64 (D.toInt (D.cell 0 (nth r1 0)))), (.int .i64 (D.toInt (D.cell 1 (nth r1 0)))), (.int .i64 (D.toInt (D.cell 2 (nth r1 0))))])]).bind fun r2 =>
 some [(.int .i64 (D.toInt (nth r2 0)))] := by kernel_rfl
theorem qjt (k : Nat) (a0 : Int) (a1z : Bool) (a1 : List (Int × Int × Int)) (a2z : Bool) (a2 : List Int) (a3z : Bool) (a3 : List Int) (a4z : Bool) (a4 : List Int) (b : Int) : go (k + 1) impl_State_side [(.agg [(.int .i64 (a0)), (.arr false (a1z) (.r3 (a1))), (.arr false (a2z) (.ints .i64 (a2))), (.arr false (a3z) (.ints .i64 (a3))), (.arr false (a4z) (.ints .i64 (a4)))]), (.int .i64 (b))] =
 cond (decide ((0 : Int) ≤ b) && decide (b < nI (List.length a1)))
 (cond (decide ((0 : Int) ≤ b) && decide (b < nI (List.length a2)))
 ((go k impl_State_surface [(.agg [(.int .i64 (a0)), (.arr false (a1z) (.r3 (a1))), (.arr false (a2z) (.ints .i64 (a2))), (.arr false (a3z) (.ints .i64 (a3))), (.arr false (a4z) (.ints .i64 (a4)))]), (.int .i64 (b))]).bind fun r0 =>
 some [(.agg [(.int .i64 (Prod.fst (Prod.snd (List.getD a1 (Int.toNat b) zz3)))), (.int .i64 (List.getD a2 (Int.toNat b) (0 : Int))), (.int .i64 (D.toInt (nth r0 0)))])])
 (none))
 (none) := by kernel_rfl
theorem qj8 (k : Nat) (a0 a1 a2 b0 b1 b2 : Int) : go (k + 1) impl_flux [(.agg [(.int .i64 (a0)), (.int .i64 (a1)), (.int .i64 (a2))]), (.agg [(.int .i64 (b0)), (.int .i64 (b1)), (.int .i64 (b2))])] =
 (go k impl_WidthOf [(.int .i64 (a0))]).bind fun r0 =>
 (go k impl_WidthOf [(.int .i64 (b0))]).bind fun r1 =>
 (go k impl_WidthOf [(.int .i64 (if b0 > a0 then b0 else a0))]).bind fun r2 =>
 (go k impl_DivTrunc [(.int .i64 (IntKind.wrap .i64 (IntKind.wrap .i64 (a2 - b2) * D.toInt (nth r2 0)))), (.int .i64 (IntKind.wrap .i64 ((32 : Int) * IntKind.wrap .i64 (D.toInt (nth r0 0) + D.toInt (nth r1 0)))))]).bind fun r3 =>
 (go k impl_Clamp [(.int .i64 (D.toInt (nth r3 0))), (.int .i64 (IntKind.wrap .i64 ((0 : Int) - IntKind.wrap .i64 (Int.tdiv b1 (4 : Int))))), (.int .i64 (IntKind.wrap .i64 (Int.tdiv a1 (4 : Int))))]).bind fun r4 =>
 some [(.int .i64 (D.toInt (nth r4 0)))] := by kernel_rfl
theorem qh9 (k : Nat) (a b c : Int) : go (k + 1) impl_Clamp [(.int .i64 (a)), (.int .i64 (b)), (.int .i64 (c))] =
 cond (decide (c < b))
 (some [(.int .i64 (b))])
 (some [(.int .i64 (if c < if b > a then b else a then c else if b > a then b else a))]) := by kernel_rfl
theorem qid (k : Nat) (a b : Int) : go (k + 1) impl_DivTrunc [(.int .i64 (a)), (.int .i64 (b))] =
 cond (decide (b ≤ (0 : Int)))
 (some [(.int .i64 (0 : Int))])
 (cond (!decide (b = (0 : Int)))
 (some [(.int .i64 (IntKind.wrap .i64 (Int.tdiv a b)))])
 (none)) := by kernel_rfl
theorem qip (k : Nat) (a b c d : Int) : go (k + 1) impl_LeafOut [(.int .i64 (a)), (.int .i64 (b)), (.int .i64 (c)), (.int .i64 (d))] =
 (go k impl_within [(.int .i64 (b)), (.int .i64 ((1 : Int))), (.int .i64 ((10000000 : Int)))]).bind fun r0 =>
 cond (!bit (nth r0 0))
 (some [(.int .i64 (0 : Int)), (.int .i64 (0 : Int))])
 ((go k impl_within [(.int .i64 (a)), (.int .i64 (0 : Int)), (.int .i64 (IntKind.wrap .i64 ((1000 : Int) * b)))]).bind fun r1 =>
 cond (!bit (nth r1 0))
 (some [(.int .i64 (0 : Int)), (.int .i64 (0 : Int))])
 ((go k impl_within [(.int .i64 (c)), (.int .i64 (0 : Int)), (.int .i64 (b))]).bind fun r2 =>
 cond (!bit (nth r2 0))
 (some [(.int .i64 (0 : Int)), (.int .i64 (0 : Int))])
 ((go k impl_within [(.int .i64 (d)), (.int .i64 (0 : Int)), (.int .i64 (IntKind.wrap .i64 (b - c)))]).bind fun r3 =>
 cond (!bit (nth r3 0))
 (some [(.int .i64 (0 : Int)), (.int .i64 (0 : Int))])
 ((go k impl_ShareOut [(.int .i64 (a)), (.int .i64 (c)), (.int .i64 (b))]).bind fun r4 =>
 (go k impl_ShareOut [(.int .i64 (a)), (.int .i64 (IntKind.wrap .i64 (c + d))), (.int .i64 (b))]).bind fun r5 =>
 some [(.int .i64 (D.toInt (nth r4 0))), (.int .i64 (IntKind.wrap .i64 (D.toInt (nth r5 0) - D.toInt (nth r4 0))))])))) := by kernel_rfl
theorem qi8 (k : Nat) (a b c : Int) : go (k + 1) impl_ShareOut [(.int .i64 (a)), (.int .i64 (b)), (.int .i64 (c))] =
 (go k impl_within [(.int .i64 (c)), (.int .i64 ((1 : Int))), (.int .i64 ((10000000 : Int)))]).bind fun r0 =>
 cond (!bit (nth r0 0))
 (some [(.int .i64 (0 : Int))])
 ((go k impl_within [(.int .i64 (b)), (.int .i64 (0 : Int)), (.int .i64 (c))]).bind fun r1 =>
 cond (!bit (nth r1 0))
 (some [(.int .i64 (0 : Int))])
 ((go k impl_within [(.int .i64 (a)), (.int .i64 (0 : Int)), (.int .i64 (IntKind.wrap .i64 ((1000 : Int) * c)))]).bind fun r2 =>
 cond (!bit (nth r2 0))
 (some [(.int .i64 (0 : Int))])
 (cond (!decide (c = (0 : Int)))
 (some [(.int .i64 (IntKind.wrap .i64 (Int.tdiv (IntKind.wrap .i64 (a * b)) c)))])
 (none)))) := by kernel_rfl
def qv0 (x0 x1 x2 : Int) (z3 : Bool) (l4 : List (Int × Int × Int)) (x5 : Int) (z6 : Bool) (l7 : List Int) : St := ⟨fill 26 [(1, (.int .i64 (x0))), (2, (.ptr 1 (0) (0))), (5, (.sl 2 none)), (11, (.int .i64 (x1))), (12, (.int .i64 (x2)))], [], [(.arr false (z3) (.r3 (l4))), (.box true [(.int .i64 (x5)), (.sl 0 none)]), (.arr true (z6) (.ints .i64 (l7)))]⟩
theorem qis (k : Nat) (a0 : Int) (a1z : Bool) (a1 : List (Int × Int × Int)) (b : Int) : go (k + 1) impl_Mesh_active [(.agg [(.int .i64 (a0)), (.arr false (a1z) (.r3 (a1)))]), (.int .i64 (b))] =
 lp k impl_Mesh_active [] [] 3 k (qv0 b (IntKind.wrap .i64 (nI (List.length a1) - (1 : Int))) (0 : Int) a1z a1 a0 false ([])) := by kernel_rfl
theorem qo8 (k n : Nat) (fu : List (Nat × Nat)) (x0 x1 x2 : Int) (z3 : Bool) (l4 : List (Int × Int × Int)) (x5 : Int) (z6 : Bool) (l7 : List Int) : lp k impl_Mesh_active [] fu 3 (n + 1) (qv0 x0 x1 x2 z3 l4 x5 z6 l7) =
 cond (decide (x2 < x1))
 ((go k impl_Mesh_faceLevel [(.agg [(.int .i64 (x5)), (.arr false (z3) (.r3 (l4)))]), (.int .i64 (x2))]).bind fun r0 =>
 (go k impl_IsActive [(.int .i64 (x0)), (.int .i64 (D.toInt (nth r0 0)))]).bind fun r1 =>
 cond (bit (nth r1 0))
 (cond (decide (List.length (l7 ++ [x2]) ≤ bigLen))
 (lp k impl_Mesh_active [] fu 3 n (qv0 x0 x1 (IntKind.wrap .i64 (x2 + (1 : Int))) z3 l4 x5 (z6 && decide (List.length (l7 ++ [x2]) = 0)) (l7 ++ [x2])))
 (none))
 (lp k impl_Mesh_active [] fu 3 n (qv0 x0 x1 (IntKind.wrap .i64 (x2 + (1 : Int))) z3 l4 x5 z6 l7)))
 (some [(.arr true (z6) (.ints .i64 (l7)))]) := by kernel_rfl
def qwd (x0 x1 : Int) (z2 : Bool) (l3 : List (Int × Int × Int)) (z4 : Bool) (l5 : List Int) (z6 : Bool) (l7 : List Int) (z8 : Bool) (l9 : List Int) (x10 : Int) (z11 : Bool) (l12 : List Int) (z13 : Bool) (l14 : List Int) (z15 : Bool) (l16 : List Int) (z17 : Bool) (l18 : List Int) : St := ⟨fill 155 [(0, (.ptr 4 (0) (0))), (4, (.sl 5 none)), (5, (.sl 6 none)), (9, (.ptr 8 (0) (0))), (10, (.ptr 10 (0) (0))), (11, (.fn impl_State_move_1 [(.ptr 8 (0) (0)), (.ptr 10 (0) (0))])), (69, (.int .i64 (x0))), (70, (.int .i64 (x1)))], [(.ptr 4 (0) (0))], [(.arr true (z2) (.r3 (l3))), (.arr true (z4) (.ints .i64 (l5))), (.arr true (z6) (.ints .i64 (l7))), (.arr true (z8) (.ints .i64 (l9))), (.box true [(.int .i64 (x10)), (.sl 0 none), (.sl 1 none), (.sl 2 none), (.sl 3 none)]), (.arr true (z11) (.ints .i64 (l12))), (.arr true (z13) (.ints .i64 (l14))), (.arr true (z15) (.ints .i64 (l16))), (.box true [(.sl 7 none)]), (.arr true (z17) (.ints .i64 (l18))), (.box true [(.sl 9 none)])]⟩
def qwe (x0 x1 : Int) (z2 : Bool) (l3 : List (Int × Int × Int)) (z4 : Bool) (l5 : List Int) (z6 : Bool) (l7 : List Int) (z8 : Bool) (l9 : List Int) (x10 : Int) (z11 : Bool) (l12 : List Int) (z13 : Bool) (l14 : List Int) : St := ⟨fill 155 [(0, (.ptr 4 (0) (0))), (9, (.ptr 6 (0) (0))), (10, (.ptr 8 (0) (0))), (124, (.int .i64 (x0))), (125, (.int .i64 (x1)))], [(.ptr 4 (0) (0))], [(.arr true (z2) (.r3 (l3))), (.arr true (z4) (.ints .i64 (l5))), (.arr true (z6) (.ints .i64 (l7))), (.arr true (z8) (.ints .i64 (l9))), (.box true [(.int .i64 (x10)), (.sl 0 none), (.sl 1 none), (.sl 2 none), (.sl 3 none)]), (.arr true (z11) (.ints .i64 (l12))), (.box true [(.sl 5 none)]), (.arr true (z13) (.ints .i64 (l14))), (.box true [(.sl 7 none)])]⟩
def qwf (x0 x1 : Int) (z2 : Bool) (l3 : List (Int × Int × Int)) (z4 : Bool) (l5 : List Int) (z6 : Bool) (l7 : List Int) (z8 : Bool) (l9 : List Int) (x10 : Int) (z11 : Bool) (l12 : List Int) (z13 : Bool) (l14 : List Int) (z15 : Bool) (l16 : List Int) : St := ⟨fill 155 [(0, (.ptr 4 (0) (0))), (4, (.sl 5 none)), (5, (.sl 6 none)), (28, (.sl 7 none)), (29, (.int .i64 (x0))), (30, (.int .i64 (x1)))], [(.ptr 4 (0) (0))], [(.arr true (z2) (.r3 (l3))), (.arr true (z4) (.ints .i64 (l5))), (.arr true (z6) (.ints .i64 (l7))), (.arr true (z8) (.ints .i64 (l9))), (.box true [(.int .i64 (x10)), (.sl 0 none), (.sl 1 none), (.sl 2 none), (.sl 3 none)]), (.arr true (z11) (.ints .i64 (l12))), (.arr true (z13) (.ints .i64 (l14))), (.arr false (z15) (.ints .i64 (l16)))]⟩
theorem qjm (k : Nat) (a0 : Int) (a1z : Bool) (a1 : List (Int × Int × Int)) (a2z : Bool) (a2 : List Int) (a3z : Bool) (a3 : List Int) (a4z : Bool) (a4 : List Int) (bz : Bool) (b : List Int) : go (k + 1) impl_State_move [(.ptr true [(.int .i64 (a0)), (.arr true (a1z) (.r3 (a1))), (.arr true (a2z) (.ints .i64 (a2))), (.arr true (a3z) (.ints .i64 (a3))), (.arr true (a4z) (.ints .i64 (a4)))]), (.arr false (bz) (.ints .i64 (b)))] =
 cond (decide ((0 : Int) ≤ nI (List.length a2)) && decide (nI (List.length a2) ≤ nI (List.length a2)) && decide (nI (List.length a2) ≤ nI bigLen))
 (cond (decide ((0 : Int) ≤ nI (List.length a2)) && decide (nI (List.length a2) ≤ nI (List.length a2)) && decide (nI (List.length a2) ≤ nI bigLen))
 (lp k impl_State_move [(.ptr true [(.int .i64 (a0)), (.arr true (a1z) (.r3 (a1))), (.arr true (a2z) (.ints .i64 (a2))), (.arr true (a3z) (.ints .i64 (a3))), (.arr true (a4z) (.ints .i64 (a4)))])] [] 2 k (qwf (nI (List.length b)) (0 : Int) a1z a1 a2z a2 a3z a3 a4z a4 a0 false (List.replicate (Int.toNat (nI (List.length a2))) (0 : Int)) false (List.replicate (Int.toNat (nI (List.length a2))) (0 : Int)) bz b))
 (none))
 (none) := by kernel_rfl
theorem qpl (k n : Nat) (fu : List (Nat × Nat)) (a0 : Int) (a1z : Bool) (a1 : List (Int × Int × Int)) (a2z : Bool) (a2 : List Int) (a3z : Bool) (a3 : List Int) (a4z : Bool) (a4 : List Int) (x0 x1 : Int) (z2 : Bool) (l3 : List (Int × Int × Int)) (z4 : Bool) (l5 : List Int) (z6 : Bool) (l7 : List Int) (z8 : Bool) (l9 : List Int) (x10 : Int) (z11 : Bool) (l12 : List Int) (z13 : Bool) (l14 : List Int) (z15 : Bool) (l16 : List Int) (z17 : Bool) (l18 : List Int) : lp k impl_State_move [(.ptr true [(.int .i64 (a0)), (.arr true (a1z) (.r3 (a1))), (.arr true (a2z) (.ints .i64 (a2))), (.arr true (a3z) (.ints .i64 (a3))), (.arr true (a4z) (.ints .i64 (a4)))])] fu 12 (n + 1) (qwd x0 x1 z2 l3 z4 l5 z6 l7 z8 l9 x10 z11 l12 z13 l14 z15 l16 z17 l18) =
 cond (decide (x1 < x0))
 (cond (decide ((0 : Int) ≤ x1) && decide (x1 < nI (List.length l7)))
 (cond (decide ((0 : Int) ≤ x1) && decide (x1 < nI (List.length l5)))
 (cond (decide ((0 : Int) ≤ x1) && decide (x1 < nI (List.length l12)))
 (cond (decide ((0 : Int) ≤ x1) && decide (x1 < nI (List.length l14)))
 ((go k impl_LeafOut [(.int .i64 (List.getD l7 (Int.toNat x1) (0 : Int))), (.int .i64 (List.getD l5 (Int.toNat x1) (0 : Int))), (.int .i64 (List.getD l12 (Int.toNat x1) (0 : Int))), (.int .i64 (List.getD l14 (Int.toNat x1) (0 : Int)))]).bind fun r0 =>
 cond (decide ((0 : Int) ≤ x1) && decide (x1 < nI (List.length l12)))
 ((go k impl_State_move_1 [(.int .i64 (x1)), (.int .i64 (IntKind.wrap .i64 (x1 + (1 : Int)))), (.int .i64 (List.getD l12 (Int.toNat x1) (0 : Int))), (.int .i64 (D.toInt (nth r0 0))), (.ptr true [(.arr true (z15) (.ints .i64 (l16)))]), (.ptr true [(.arr true (z17) (.ints .i64 (l18)))])]).bind fun r1 =>
 cond (decide ((0 : Int) ≤ x1) && decide (x1 < nI (List.length l14)))
 ((go k impl_State_move_1 [(.int .i64 (x1)), (.int .i64 (IntKind.wrap .i64 (x1 - (1 : Int)))), (.int .i64 (List.getD l14 (Int.toNat x1) (0 : Int))), (.int .i64 (D.toInt (nth r0 1))), (.ptr true [(.arr true (D.nil (D.cell 0 (nth r1 0))) (.ints .i64 (D.ints (D.cell 0 (nth r1 0)))))]), (.ptr true [(.arr true (D.nil (D.cell 0 (nth r1 1))) (.ints .i64 (D.ints (D.cell 0 (nth r1 1)))))])]).bind fun r2 =>
 lp k impl_State_move [(.ptr true [(.int .i64 (a0)), (.arr true (a1z) (.r3 (a1))), (.arr true (a2z) (.ints .i64 (a2))), (.arr true (a3z) (.ints .i64 (a3))), (.arr true (a4z) (.ints .i64 (a4)))])] fu 12 n (qwd x0 (IntKind.wrap .i64 (x1 + (1 : Int))) z2 l3 z4 l5 z6 l7 z8 l9 x10 z11 l12 z13 l14 (D.nil (D.cell 0 (nth r2 0))) (D.ints (D.cell 0 (nth r2 0))) (D.nil (D.cell 0 (nth r2 1))) (D.ints (D.cell 0 (nth r2 1)))))
 (none))
 (none))
 (none))
 (none))
 (none))
 (none))
 (lp k impl_State_move [(.ptr true [(.int .i64 (a0)), (.arr true (a1z) (.r3 (a1))), (.arr true (a2z) (.ints .i64 (a2))), (.arr true (a3z) (.ints .i64 (a3))), (.arr true (a4z) (.ints .i64 (a4)))])] fu 19 k (qwe (nI (List.length l5)) (0 : Int) z2 l3 z4 l5 z6 l7 z8 l9 x10 z15 l16 z17 l18)) := by kernel_rfl
theorem qpm (k n : Nat) (fu : List (Nat × Nat)) (a0 : Int) (a1z : Bool) (a1 : List (Int × Int × Int)) (a2z : Bool) (a2 : List Int) (a3z : Bool) (a3 : List Int) (a4z : Bool) (a4 : List Int) (x0 x1 : Int) (z2 : Bool) (l3 : List (Int × Int × Int)) (z4 : Bool) (l5 : List Int) (z6 : Bool) (l7 : List Int) (z8 : Bool) (l9 : List Int) (x10 : Int) (z11 : Bool) (l12 : List Int) (z13 : Bool) (l14 : List Int) : lp k impl_State_move [(.ptr true [(.int .i64 (a0)), (.arr true (a1z) (.r3 (a1))), (.arr true (a2z) (.ints .i64 (a2))), (.arr true (a3z) (.ints .i64 (a3))), (.arr true (a4z) (.ints .i64 (a4)))])] fu 19 (n + 1) (qwe x0 x1 z2 l3 z4 l5 z6 l7 z8 l9 x10 z11 l12 z13 l14) =
 cond (decide (x1 < x0))
 (cond (decide ((0 : Int) ≤ x1) && decide (x1 < nI (List.length l5)))
 (cond (decide ((0 : Int) ≤ x1) && decide (x1 < nI (List.length l12)))
 (cond (decide ((0 : Int) ≤ x1) && decide (x1 < nI (List.length l5)))
 (cond (decide ((0 : Int) ≤ x1) && decide (x1 < nI (List.length l7)))
 (cond (decide ((0 : Int) ≤ x1) && decide (x1 < nI (List.length l14)))
 (cond (decide ((0 : Int) ≤ x1) && decide (x1 < nI (List.length l7)))
 (lp k impl_State_move [(.ptr true [(.int .i64 (a0)), (.arr true (a1z) (.r3 (a1))), (.arr true (a2z) (.ints .i64 (a2))), (.arr true (a3z) (.ints .i64 (a3))), (.arr true (a4z) (.ints .i64 (a4)))])] fu 19 n (qwe x0 (IntKind.wrap .i64 (x1 + (1 : Int))) z2 l3 z4 (List.set l5 (Int.toNat x1) (IntKind.wrap .i64 (List.getD l5 (Int.toNat x1) (0 : Int) + List.getD l12 (Int.toNat x1) (0 : Int)))) z6 (List.set l7 (Int.toNat x1) (IntKind.wrap .i64 (List.getD l7 (Int.toNat x1) (0 : Int) + List.getD l14 (Int.toNat x1) (0 : Int)))) z8 l9 x10 z11 l12 z13 l14))
 (none))
 (none))
 (none))
 (none))
 (none))
 (none))
 (some [(.ptr true [(.int .i64 (x10)), (.arr true (z2) (.r3 (l3))), (.arr true (z4) (.ints .i64 (l5))), (.arr true (z6) (.ints .i64 (l7))), (.arr true (z8) (.ints .i64 (l9)))])]) := by kernel_rfl
theorem qpn (k n : Nat) (fu : List (Nat × Nat)) (a0 : Int) (a1z : Bool) (a1 : List (Int × Int × Int)) (a2z : Bool) (a2 : List Int) (a3z : Bool) (a3 : List Int) (a4z : Bool) (a4 : List Int) (x0 x1 : Int) (z2 : Bool) (l3 : List (Int × Int × Int)) (z4 : Bool) (l5 : List Int) (z6 : Bool) (l7 : List Int) (z8 : Bool) (l9 : List Int) (x10 : Int) (z11 : Bool) (l12 : List Int) (z13 : Bool) (l14 : List Int) (z15 : Bool) (l16 : List Int) : lp k impl_State_move [(.ptr true [(.int .i64 (a0)), (.arr true (a1z) (.r3 (a1))), (.arr true (a2z) (.ints .i64 (a2))), (.arr true (a3z) (.ints .i64 (a3))), (.arr true (a4z) (.ints .i64 (a4)))])] fu 2 (n + 1) (qwf x0 x1 z2 l3 z4 l5 z6 l7 z8 l9 x10 z11 l12 z13 l14 z15 l16) =
 cond (decide (x1 < x0))
 (cond (decide ((0 : Int) ≤ x1) && decide (x1 < nI (List.length l16)))
 ((go k impl_State_flux [(.agg [(.int .i64 (x10)), (.arr false (z2) (.r3 (l3))), (.arr false (z4) (.ints .i64 (l5))), (.arr false (z6) (.ints .i64 (l7))), (.arr false (z8) (.ints .i64 (l9)))]), (.int .i64 (List.getD l16 (Int.toNat x1) (0 : Int)))]).bind fun r0 =>
 cond (decide ((0 : Int) < D.toInt (nth r0 0)))
 (cond (decide ((0 : Int) ≤ List.getD l16 (Int.toNat x1) (0 : Int)) && decide (List.getD l16 (Int.toNat x1) (0 : Int) < nI (List.length l12)))
 (lp k impl_State_move [(.ptr true [(.int .i64 (a0)), (.arr true (a1z) (.r3 (a1))), (.arr true (a2z) (.ints .i64 (a2))), (.arr true (a3z) (.ints .i64 (a3))), (.arr true (a4z) (.ints .i64 (a4)))])] fu 2 n (qwf x0 (IntKind.wrap .i64 (x1 + (1 : Int))) z2 l3 z4 l5 z6 l7 z8 l9 x10 z11 (List.set l12 (Int.toNat (List.getD l16 (Int.toNat x1) (0 : Int))) (D.toInt (nth r0 0))) z13 l14 z15 l16))
 (none))
 (cond (decide ((0 : Int) ≤ IntKind.wrap .i64 (List.getD l16 (Int.toNat x1) (0 : Int) + (1 : Int))) && decide (IntKind.wrap .i64 (List.getD l16 (Int.toNat x1) (0 : Int) + (1 : Int)) < nI (List.length l14)))
 (lp k impl_State_move [(.ptr true [(.int .i64 (a0)), (.arr true (a1z) (.r3 (a1))), (.arr true (a2z) (.ints .i64 (a2))), (.arr true (a3z) (.ints .i64 (a3))), (.arr true (a4z) (.ints .i64 (a4)))])] fu 2 n (qwf x0 (IntKind.wrap .i64 (x1 + (1 : Int))) z2 l3 z4 l5 z6 l7 z8 l9 x10 z11 l12 z13 (List.set l14 (Int.toNat (IntKind.wrap .i64 (List.getD l16 (Int.toNat x1) (0 : Int) + (1 : Int)))) (IntKind.wrap .i64 ((0 : Int) - D.toInt (nth r0 0)))) z15 l16))
 (none)))
 (none))
 (cond (decide ((0 : Int) ≤ nI (List.length l5)) && decide (nI (List.length l5) ≤ nI (List.length l5)) && decide (nI (List.length l5) ≤ nI bigLen))
 (cond (decide ((0 : Int) ≤ nI (List.length l5)) && decide (nI (List.length l5) ≤ nI (List.length l5)) && decide (nI (List.length l5) ≤ nI bigLen))
 (lp k impl_State_move [(.ptr true [(.int .i64 (a0)), (.arr true (a1z) (.r3 (a1))), (.arr true (a2z) (.ints .i64 (a2))), (.arr true (a3z) (.ints .i64 (a3))), (.arr true (a4z) (.ints .i64 (a4)))])] fu 12 k (qwd (nI (List.length l5)) (0 : Int) z2 l3 z4 l5 z6 l7 z8 l9 x10 z11 l12 z13 l14 false (List.replicate (Int.toNat (nI (List.length l5))) (0 : Int)) false (List.replicate (Int.toNat (nI (List.length l5))) (0 : Int))))
 (none))
 (none)) := by kernel_rfl
theorem qjn (k : Nat) (v0 v1 v2 v3 : Int) (v4 : Bool) (v5 : List Int) (v6 : Bool) (v7 : List Int) : go (k + 1) impl_State_move_1 [(.int .i64 (v0)), (.int .i64 (v1)), (.int .i64 (v2)), (.int .i64 (v3)), (.ptr true [(.arr true (v4) (.ints .i64 (v5)))]), (.ptr true [(.arr true (v6) (.ints .i64 (v7)))])] =
 cond (decide ((0 : Int) < v2))
 (cond (decide ((0 : Int) ≤ v0) && decide (v0 < nI (List.length v5)))
 (cond (decide ((0 : Int) ≤ v0) && decide (v0 < nI (List.length v5)))
 (cond (decide ((0 : Int) ≤ v1) && decide (v1 < nI (List.length (List.set v5 (Int.toNat v0) (IntKind.wrap .i64 (List.getD v5 (Int.toNat v0) (0 : Int) - v2))))))
 (cond (decide ((0 : Int) ≤ v1) && decide (v1 < nI (List.length (List.set v5 (Int.toNat v0) (IntKind.wrap .i64 (List.getD v5 (Int.toNat v0) (0 : Int) - v2))))))
 (cond (decide ((0 : Int) ≤ v0) && decide (v0 < nI (List.length v7)))
 (cond (decide ((0 : Int) ≤ v0) && decide (v0 < nI (List.length v7)))
 (cond (decide ((0 : Int) ≤ v1) && decide (v1 < nI (List.length (List.set v7 (Int.toNat v0) (IntKind.wrap .i64 (List.getD v7 (Int.toNat v0) (0 : Int) - v3))))))
 (cond (decide ((0 : Int) ≤ v1) && decide (v1 < nI (List.length (List.set v7 (Int.toNat v0) (IntKind.wrap .i64 (List.getD v7 (Int.toNat v0) (0 : Int) - v3))))))
 (some [(.ptr true [(.arr true (v4) (.ints .i64 (List.set (List.set v5 (Int.toNat v0) (IntKind.wrap .i64 (List.getD v5 (Int.toNat v0) (0 : Int) - v2))) (Int.toNat v1) (IntKind.wrap .i64 (List.getD (List.set v5 (Int.toNat v0) (IntKind.wrap .i64 (List.getD v5 (Int.toNat v0) (0 : Int) - v2))) (Int.toNat v1) (0 : Int) + v2)))))]), (.ptr true [(.arr true (v6) (.ints .i64 (List.set (List.set v7 (Int.toNat v0) (IntKind.wrap .i64 (List.getD v7 (Int.toNat v0) (0 : Int) - v3))) (Int.toNat v1) (IntKind.wrap .i64 (List.getD (List.set v7 (Int.toNat v0) (IntKind.wrap .i64 (List.getD v7 (Int.toNat v0) (0 : Int) - v3))) (Int.toNat v1) (0 : Int) + v3)))))])])
 (none))
 (none))
 (none))
 (none))
 (none))
 (none))
 (none))
 (none))
 (some [(.ptr true [(.arr true (v4) (.ints .i64 (v5)))]), (.ptr true [(.arr true (v6) (.ints .i64 (v7)))])]) := by kernel_rfl

end Go.Proofs.YtoldpdhhfmlckaaGreat
end
section
namespace Go.Proofs.YtoldpdhhfmlckaaGreat
open Go.Ev
set_option maxRecDepth 20000
theorem qb5 (k : Nat) (hk : 2000000 ≤ k) (a : Int) (b : Int) (c : Int) : go (k + 2) impl_ShareOut [(.int .i64 (a)), (.int .i64 (b)), (.int .i64 (c))] = some [.int .i64 (qx2 a b c)] := by
  rw [qi8]
  unfold qx2
  cases hm : inR c 1 10000000
  · simp (disch := omega) only [qdk, hm, bit, qa2, nth0, qzn, Bool.not_false, qhn, Bool.false_and, qhl]
  cases hp : inR b 0 c
  · simp (disch := omega) only [qdk, hm, bit, hp, qa2, nth0, qzn, Bool.not_false, qhn, Bool.not_true, qhl, Bool.false_and, Bool.and_false]
  have hm' := qoo.1 hm
  cases ht : inR a 0 (1000 * c)
  · simp (disch := omega) only [qdk, hm, bit, hp, q0f, ht, dF, Bool.not_false, qhn, qa2, nth0, qzn, Bool.not_true, qhl, Bool.and_false]
  have q := qx6 hm hp ht
  have q2 : 0 ≤ Int.tdiv (a * b) c ∧ Int.tdiv (a * b) c ≤ 100000000000000000 := by
    have := qzj (x := a * b) (y := c) (B := 100000000000000000) (by omega) (by omega) (by omega)
    rw [Int.tdiv_eq_ediv_of_nonneg q.1] at *
    exact ⟨Int.ediv_nonneg q.1 (by omega), this.2⟩
  simp (disch := omega) only [qdk, hm, bit, hp, q0f, ht, dF, Bool.not_false, qhn, qa2, nth0, qzn, Bool.not_true, qhl, Bool.and_true]
theorem qbu (k : Nat) (hk : 2000000 ≤ k) (a : Int) (b : Int) (c : Int) (d : Int) : go (k + 3) impl_LeafOut [(.int .i64 (a)), (.int .i64 (b)), (.int .i64 (c)), (.int .i64 (d))] = some [.int .i64 (loA a b c d), .int .i64 (loB a b c d)] := by
  rw [qip]
  unfold loA loB loOk
  cases hm : inR b 1 10000000
  · simp (disch := omega) only [qdk, hm, bit, qa2, nth0, qzn, Bool.not_false, qhn, Bool.false_and, qhl]
  have hm' := qoo.1 hm
  cases ht : inR a 0 (1000 * b)
  · simp (disch := omega) only [qdk, hm, bit, q0f, ht, qa2, nth0, qzn, Bool.not_false, qhn, Bool.not_true, qhl, Bool.false_and, Bool.and_false]
  cases hr : inR c 0 b
  · simp (disch := omega) only [qdk, hm, bit, q0f, ht, hr, qa2, nth0, qzn, Bool.not_false, qhn, Bool.not_true, qhl, Bool.false_and, Bool.and_false]
  have hr' := qoo.1 hr
  cases hl : inR d 0 (b - c)
  · simp (disch := omega) only [qdk, hm, bit, q0f, ht, hr, hl, qa2, nth0, qzn, Bool.not_false, qhn, Bool.not_true, qhl, Bool.and_false]
  have hl' := qoo.1 hl
  have s1 := qx4 a c b; have s2 := qx4 a (c + d) b
  simp (disch := omega) only [qdk, hm, bit, q0f, ht, hr, hl, qb5, qa2, nth0, qzo, qzn, Bool.not_true, qhl, Bool.and_true, qhn]
theorem qbj (k : Nat) (hk : 2000000 ≤ k) (a b : Int) (hb : 0 < b) (ha : -1000000000000 ≤ a) (ha' : a ≤ 1000000000000) : go (k + 1) impl_DivTrunc [.int .i64 a, .int .i64 b] = some [.int .i64 (Int.tdiv a b)] := by
  rw [qid]
  have := qzj hb ha ha'
  simp (disch := omega) only [dF, Bool.not_false, q0f, qhn, qhl]
theorem qbf (k : Nat) (hk : 2000000 ≤ k) (a b c : Int) (h : b ≤ c) : go (k + 1) impl_Clamp [.int .i64 a, .int .i64 b, .int .i64 c] = some [.int .i64 (max b (min c a))] := by
  rw [qh9]
  simp (disch := omega) only [dF, imax, imin, qhl]
  rw [show min c (max b a) = max b (min c a) by omega]
theorem qct (k : Nat) (hk : 2000000 ≤ k) (e c a f d b : Int) (ha : 0 ≤ a ∧ a ≤ 161000000) (hb : 0 ≤ b ∧ b ≤ 161000000) (hc : 0 ≤ c ∧ c ≤ 10000000) (hd : 0 ≤ d ∧ d ≤ 10000000) (he : inR e 0 4 = true) (hf : inR f 0 4 = true) :
    go (k + 4) impl_flux [.agg [.int .i64 e, .int .i64 c, .int .i64 a], .agg [.int .i64 f, .int .i64 d, .int .i64 b]] = some [.int .i64 (qum a b c d e f)] := by
  rw [qj8]
  have w1 := qz8 he; have w2 := qz8 hf; have w3 := qz9 (max f e)
  have p := qt4 (x := a - b) (w := qz7 (max f e)) (A := 161000000) (by omega) (by omega) w3.1 w3.2
  have t := qzj (x := (a - b) * qz7 (max f e)) (y := 32 * (qz7 e + qz7 f)) (B := 2576000000) (by omega) (by omega) (by omega)
  have t1 : Int.tdiv c 4 = c / 4 := Int.tdiv_eq_ediv_of_nonneg (by omega)
  have t2 : Int.tdiv d 4 = d / 4 := Int.tdiv_eq_ediv_of_nonneg (by omega)
  simp (disch := omega) only [qcb, imax, q0f, t2, t1, qbf, qa2, nth0, qzo, qbj]
  rfl
theorem qde (k : Nat) (hk : 2000000 ≤ k) (r : Int) (z1 z2 z3 z4 : Bool) (l : List Cell) (m t b : List Int) (F : StF r l m t b) (i : Nat) (hi : i < l.length) :
    go (k + 2) impl_State_side [.agg [.int .i64 (r), .arr false (z1) (.r3 (l)), .arr false (z2) (.ints .i64 (m)), .arr false (z3) (.ints .i64 (t)), .arr false (z4) (.ints .i64 (b))], .int .i64 (i : Int)] = some [.agg [.int .i64 (qq8 l i), .int .i64 (m.getD i 0), .int .i64 (surf l m b i)]] := by
  rw [qjt]
  have hl := F.len; have hm := F.ml
  have e1 := qdh (k + 1 - 1) (by omega) r z1 z2 z3 z4 l m t b F i hi
  rw [show k + 1 - 1 + 1 = k + 1 by omega] at e1
  simp (disch := omega) only [dT, nI, Bool.and_true, e1, Int.toNat_natCast, qa2, nth0, qzo, qhn]
theorem qdd (k : Nat) (hk : 2000000 ≤ k) (r : Int) (z1 z2 z3 z4 : Bool) (l : List Cell) (m t b : List Int) (F : StF r l m t b) (i : Nat) (hi : i + 1 < l.length) :
    go (k + 5) impl_State_flux [.agg [.int .i64 (r), .arr false (z1) (.r3 (l)), .arr false (z2) (.ints .i64 (m)), .arr false (z3) (.ints .i64 (t)), .arr false (z4) (.ints .i64 (b))], .int .i64 (i : Int)] = some [.int .i64 (fl l m b i)] := by
  rw [qjh]
  have hl := F.len
  have h1 := F.at i; have h2 := F.at (i + 1); have s1 := qy5 F i; have s2 := qy5 F (i + 1)
  have v1 := F.lev i; have v2 := F.lev (i + 1)
  have e1 := qde (k + 4 - 2) (by omega) r z1 z2 z3 z4 l m t b F i (by omega)
  have e2 := qde (k + 4 - 2) (by omega) r z1 z2 z3 z4 l m t b F (i + 1) hi
  rw [show k + 4 - 2 + 2 = k + 4 by omega] at e1 e2
  have e3 := qct (k + 4 - 4) (by omega) (qq8 l i) (m.getD i 0) (surf l m b i) (qq8 l (i + 1)) (m.getD (i + 1) 0) (surf l m b (i + 1)) s1 s2 ⟨h1.1, h1.2.1⟩ ⟨h2.1, h2.2.1⟩ v1 v2
  rw [show k + 4 - 4 + 4 = k + 4 by omega] at e3
  simp (disch := omega) only [e1, qgr, q0f, e2, qa2, nth0, qgt, qzo, qgu, qg5, e3]
  rfl
def nats (l : List Nat) : List Int := l.map (fun i : Nat => (i : Int))
theorem qt7 (l : List Nat) : (nats l).length = l.length := by simp [nats]
theorem qt6 {l : List Nat} {i : Nat} (h : i < l.length) : (nats l).getD i 0 = ((l.getD i 0 : Nat) : Int) := by simp [nats, h]
def qan (tk : Int) (l : List Cell) : Nat → Nat → List Nat
  | 0, _ => []
  | n + 1, i => if qor tk (qnw l i) = true then i :: qan tk l n (i + 1) else qan tk l n (i + 1)
theorem qao (tk : Int) (l : List Cell) : ∀ n i, (qan tk l n i).length ≤ n
  | 0, i => by simp [qan]
  | n + 1, i => by
    have := qao tk l n (i + 1)
    unfold qan
    split
    · simp only [List.length_cons]; omega
    · omega
theorem qap (tk : Int) (l : List Cell) : ∀ n i j, j ∈ qan tk l n i ↔ (i ≤ j ∧ j < i + n) ∧ qor tk (qnw l j) = true
  | 0, i, j => by simp [qan]; omega
  | n + 1, i, j => by
    have ih := qap tk l n (i + 1) j
    unfold qan
    split
    · rename_i h
      rw [List.mem_cons, ih]
      constructor
      · rintro (rfl | ⟨h1, h2⟩)
        · exact ⟨by omega, h⟩
        · exact ⟨by omega, h2⟩
      · rintro ⟨h1, h2⟩
        by_cases e : j = i
        · exact .inl e
        · exact .inr ⟨by omega, h2⟩
    · rename_i h
      rw [ih]
      constructor
      · rintro ⟨h1, h2⟩; exact ⟨by omega, h2⟩
      · rintro ⟨h1, h2⟩
        refine ⟨?_, h2⟩
        by_cases e : j = i
        · subst e; exact absurd h2 h
        · omega
def acts (tk : Int) (l : List Cell) : List Nat := qan tk l (l.length - 1) 0
theorem qrv (k : Nat) (hk : 2000000 ≤ k) (fu : List (Nat × Nat)) (z : Bool) (tk r : Int) (l : List Cell) (hl : (l.length : Int) ≤ 1000) (h1 : 1 ≤ l.length) : ∀ (n i : Nat) (acc : List Nat), i ≤ l.length - 1 → l.length - 1 - i < n → acc.length ≤ i →
    lp (k + 4) impl_Mesh_active [] fu 3 (n) (qv0 tk ((l.length - 1 : Nat) : Int) (i : Int) z l r false (nats acc)) = some [.arr true false (.ints .i64 (nats (acc ++ qan tk l (l.length - 1 - i) i)))]
  | 0, i, acc, hi, hn, ha => by omega
  | n + 1, i, acc, hi, hn, ha => by
    rw [qo8]
    have nl := qt7 acc
    by_cases h : i < l.length - 1
    · rw [show l.length - 1 - i = (l.length - 1 - (i + 1)) + 1 by omega, qan]
      have eL := qcs (k + 4 - 1) (by omega) r z l i (by omega) (by omega)
      rw [show k + 4 - 1 + 1 = k + 4 by omega] at eL
      have hd : (i : Int) < ((l.length - 1 : Nat) : Int) := by omega
      rw [dT hd, qhn, eL, qa2, nth0, qzo, qbq _ (by omega), qa2, nth0, bit, qzn]
      cases g : qor tk (qnw l i)
      · have e := qrv k hk fu z tk r l hl h1 n (i + 1) acc (by omega) (by omega) (by omega)
        rw [if_neg (by simp), qhl]
        simp (disch := omega) only [qgr, q0f, e]
      · have e := qrv k hk fu z tk r l hl h1 n (i + 1) (acc ++ [i]) (by omega) (by omega) (by simp; omega)
        rw [if_pos rfl, qhn]
        have q : nats acc ++ [(i : Int)] = nats (acc ++ [i]) := by simp [nats]
        have ql : (nats (acc ++ [i])).length = acc.length + 1 := by simp [nats]
        rw [show acc ++ i :: qan tk l (l.length - 1 - (i + 1)) (i + 1) = (acc ++ [i]) ++ qan tk l (l.length - 1 - (i + 1)) (i + 1) by simp]
        simp (disch := omega) only [q, ql, big0, dT, qgr, q0f, dF, Bool.and_false, e, qhn]
    · simp (disch := omega) only [dF, bit, big0, qgr, q0f, Bool.false_and, qhl]
      rw [show l.length - 1 - i = 0 by omega, qan, List.append_nil]
theorem qcg (k : Nat) (hk : 2000000 ≤ k) (a0 : Int) (a1z : Bool) (a1 : List (Int × Int × Int)) (b : Int) (hl : (a1.length : Int) ≤ 1000) (h1 : 1 ≤ a1.length) : go (k + 5) impl_Mesh_active [(.agg [(.int .i64 (a0)), (.arr false (a1z) (.r3 (a1)))]), (.int .i64 (b))] = some [.arr true false (.ints .i64 (nats (acts b a1)))] := by
  rw [qis]
  have e := qrv k hk [] a1z b a0 a1 hl h1 (k + 4) 0 [] (by omega) (by omega) (by simp)
  rw [List.nil_append, show nats [] = [] from rfl] at e
  simp (disch := omega) only [nI, qgq, q0f]
  exact e
end Go.Proofs.YtoldpdhhfmlckaaGreat
end
section
namespace Go.Proofs.YtoldpdhhfmlckaaGreat
open Go.Ev
set_option maxRecDepth 20000
theorem qur (o : Bool) (d0 : D) (l : List D) : (D.ptr o (d0 :: l)).cell 0 = d0 := Eq.trans rfl rfl
theorem qto {fs : List Nat} {p : Nat} (h : p < fs.length) (j : Nat) : j ∈ fs.take (p + 1) ↔ j ∈ fs.take p ∨ j = fs.getD p 0 := by
  rw [List.take_succ_eq_append_getElem h, List.mem_append, List.mem_singleton]
  simp [h]
def Rk (tk : Int) (l : List Cell) (m b : List Int) (fs : List Nat) (j : Nat) : Int := if j ∈ fs then rgt tk l m b j else 0
def Lk (tk : Int) (l : List Cell) (m b : List Int) (fs : List Nat) (j : Nat) : Int := if 1 ≤ j ∧ j - 1 ∈ fs then lft tk l m b j else 0
theorem qsk (k : Nat) (hk : 2000000 ≤ k) (fu : List (Nat × Nat)) (a0 : Int) (a1z : Bool) (a1 : List Cell) (a2z : Bool) (a2 : List Int) (a3z : Bool) (a3 : List Int) (a4z : Bool) (a4 : List Int) (z1 z2 z3 z4 z5 : Bool) (r : Int) (l : List Cell) (m t b : List Int) (tk : Int) (F : StF r l m t b) (fs : List Nat) (hf : ∀ i ∈ fs, i + 1 < l.length ∧ qor tk (qnw l i) = true) (hfl : (fs.length : Int) ≤ 1000) : ∀ (n p : Nat), p ≤ fs.length → fs.length - p < n →
    lp (k + 5) impl_State_move [(.ptr true [(.int .i64 (a0)), (.arr true (a1z) (.r3 (a1))), (.arr true (a2z) (.ints .i64 (a2))), (.arr true (a3z) (.ints .i64 (a3))), (.arr true (a4z) (.ints .i64 (a4)))])] fu 2 (n) (qwf (fs.length : Int) (p : Int) z1 l z2 m z3 t z4 b r false (tab l.length (Rk tk l m b (fs.take p))) false (tab l.length (Lk tk l m b (fs.take p))) z5 (nats fs)) = lp (k + 5) impl_State_move [(.ptr true [(.int .i64 (a0)), (.arr true (a1z) (.r3 (a1))), (.arr true (a2z) (.ints .i64 (a2))), (.arr true (a3z) (.ints .i64 (a3))), (.arr true (a4z) (.ints .i64 (a4)))])] fu 12 (k + 5) (qwd (l.length : Int) 0 z1 l z2 m z3 t z4 b r false (tab l.length (Rk tk l m b fs)) false (tab l.length (Lk tk l m b fs)) false (List.replicate l.length 0) false (List.replicate l.length 0))
  | 0, p, hp, hn => by omega
  | n + 1, p, hp, hn => by
    have hl := F.len; have hm := F.ml
    have nl := qt7 fs
    rw [qpn]
    by_cases h : p < fs.length
    · obtain ⟨h1, h2⟩ := hf _ (qoa h 0)
      have ng := qt6 h
      have hz : ff tk l m b (fs.getD p 0) = fl l m b (fs.getD p 0) := by unfold ff qam; rw [h2, dT h1]; rfl
      have b0 := qn4 F (fs.getD p 0); have a0' := F.at (fs.getD p 0); have a1' := F.at (fs.getD p 0 + 1)
      have IH := qsk k hk fu a0 a1z a1 a2z a2 a3z a3 a4z a4 z1 z2 z3 z4 z5 r l m t b tk F fs hf hfl n (p + 1) (by omega) (by omega)
      have eF := qdd (k + 5 - 5) (by omega) r z1 z2 z3 z4 l m t b F (fs.getD p 0) h1
      rw [show k + 5 - 5 + 5 = k + 5 by omega] at eF
      by_cases g : 0 < fl l m b (fs.getD p 0)
      · have q1 : tab l.length (fun j => if j = fs.getD p 0 then fl l m b (fs.getD p 0) else Rk tk l m b (fs.take p) j) = tab l.length (Rk tk l m b (fs.take (p + 1))) := qy8 fun j hj => by
          unfold Rk
          simp only [qto h]
          by_cases e : j = fs.getD p 0
          · rw [if_pos e, if_pos (.inr e), e]; unfold rgt; rw [hz]; omega
          · rw [if_neg e]; simp only [e, or_false]
        have q2 : tab l.length (Lk tk l m b (fs.take p)) = tab l.length (Lk tk l m b (fs.take (p + 1))) := qy8 fun j hj => by
          unfold Lk
          simp only [qto h]
          by_cases e : 1 ≤ j ∧ j - 1 = fs.getD p 0
          · have : lft tk l m b j = 0 := by unfold lft; rw [if_pos e.1, e.2, hz]; omega
            rw [this]; simp
          · have : (1 ≤ j ∧ (j - 1 ∈ fs.take p ∨ j - 1 = fs.getD p 0)) = (1 ≤ j ∧ j - 1 ∈ fs.take p) := propext ⟨fun hh => ⟨hh.1, hh.2.resolve_right fun e2 => e ⟨hh.1, e2⟩⟩, fun hh => ⟨hh.1, .inl hh.2⟩⟩
            simp only [this]
        rw [← q1, ← q2] at IH
        simp (disch := omega) only [dT, nI, nl, Bool.and_true, Int.toNat_natCast, ng, eF, qza, qgr, q0f, qzc, qhn, qa2, nth0, qzo, IH, big0]
      · have q1 : tab l.length (fun j => if j = fs.getD p 0 + 1 then 0 - fl l m b (fs.getD p 0) else Lk tk l m b (fs.take p) j) = tab l.length (Lk tk l m b (fs.take (p + 1))) := qy8 fun j hj => by
          unfold Lk
          simp only [qto h]
          by_cases e : j = fs.getD p 0 + 1
          · rw [if_pos e, if_pos ⟨by omega, .inr (by omega)⟩]; unfold lft; rw [if_pos (by omega), show j - 1 = fs.getD p 0 by omega, hz]; omega
          · rw [if_neg e]
            have : (1 ≤ j ∧ (j - 1 ∈ fs.take p ∨ j - 1 = fs.getD p 0)) = (1 ≤ j ∧ j - 1 ∈ fs.take p) := propext ⟨fun hh => ⟨hh.1, hh.2.resolve_right fun e2 => e (by omega)⟩, fun hh => ⟨hh.1, .inl hh.2⟩⟩
            simp only [this]
        have q2 : tab l.length (Rk tk l m b (fs.take p)) = tab l.length (Rk tk l m b (fs.take (p + 1))) := qy8 fun j hj => by
          unfold Rk
          simp only [qto h]
          by_cases e : j = fs.getD p 0
          · have : rgt tk l m b j = 0 := by unfold rgt; rw [e, hz]; omega
            rw [this]; simp
          · simp only [e, or_false]
        rw [← q1, ← q2] at IH
        simp (disch := omega) only [dT, nI, nl, Bool.and_true, Int.toNat_natCast, ng, eF, qza, qgr, q0f, qzc, qhn, qa2, nth0, qzo, dF, IH, qhl, big0]
    · rw [List.take_of_length_le (by omega)]
      simp (disch := omega) only [dF, dT, nI, Bool.and_false, Int.toNat_natCast, qgr, q0f, qhl, Bool.and_true, big0, qhn]
      rw [hm]
def gk (A B : Nat → Int) (k j : Nat) : Int := 0 - (if j < k then A j + B j else 0) + (if 1 ≤ j ∧ j ≤ k then A (j - 1) else 0) + (if j + 1 < k then B (j + 1) else 0)
theorem qof (L : Nat) (A B : Nat → Int) (i : Nat) : tab L (upd (gk A B i) i (A i) (B i)) = tab L (gk A B (i + 1)) := qy8 fun j hj => by
  unfold upd
  by_cases g1 : 1 ≤ i ∧ j = i - 1
  · obtain ⟨g1, rfl⟩ := g1
    rw [if_pos ⟨g1, rfl⟩]
    unfold gk
    rw [if_pos (show i - 1 < i by omega), if_neg (show ¬ (i - 1 + 1 < i) by omega), if_pos (show i - 1 < i + 1 by omega), if_pos (show i - 1 + 1 < i + 1 by omega), show i - 1 + 1 = i by omega]
    have e2 : (1 ≤ i - 1 ∧ i - 1 ≤ i) = (1 ≤ i - 1 ∧ i - 1 ≤ i + 1) := by rw [eq_iff_iff]; omega
    simp only [e2]; omega
  · rw [if_neg g1]
    by_cases g2 : j = i + 1
    · subst g2
      rw [if_pos rfl]
      unfold gk
      rw [if_neg (show ¬ (i + 1 < i) by omega), if_neg (show ¬ (1 ≤ i + 1 ∧ i + 1 ≤ i) by omega), if_neg (show ¬ (i + 1 + 1 < i) by omega), if_neg (show ¬ (i + 1 < i + 1) by omega), if_pos (show 1 ≤ i + 1 ∧ i + 1 ≤ i + 1 by omega), if_neg (show ¬ (i + 1 + 1 < i + 1) by omega), Nat.add_sub_cancel]; omega
    · rw [if_neg g2]
      by_cases g3 : j = i
      · subst g3
        rw [if_pos rfl]
        unfold gk
        rw [if_neg (show ¬ (j < j) by omega), if_neg (show ¬ (j + 1 < j) by omega), if_pos (show j < j + 1 by omega), if_neg (show ¬ (j + 1 < j + 1) by omega)]
        have e2 : (1 ≤ j ∧ j ≤ j) = (1 ≤ j ∧ j ≤ j + 1) := by rw [eq_iff_iff]; omega
        simp only [e2]; omega
      · rw [if_neg g3]
        unfold gk
        have e1 : (j < i) = (j < i + 1) := by rw [eq_iff_iff]; omega
        have e2 : (1 ≤ j ∧ j ≤ i) = (1 ≤ j ∧ j ≤ i + 1) := by rw [eq_iff_iff]; omega
        have e3 : (j + 1 < i) = (j + 1 < i + 1) := by rw [eq_iff_iff]; omega
        simp only [e1, e2, e3]
theorem qoe {A B : Nat → Int} {C : Int} (hA : ∀ j, -C ≤ A j ∧ A j ≤ C) (hB : ∀ j, -C ≤ B j ∧ B j ≤ C) (k j : Nat) : -(4 * C) ≤ gk A B k j ∧ gk A B k j ≤ 4 * C := by
  have a := hA j; have b := hB j; have c := hA (j - 1); have d := hB (j + 1)
  unfold gk
  split <;> split <;> split <;> omega
theorem qog (L : Nat) (A B : Nat → Int) : List.replicate L (0 : Int) = tab L (gk A B 0) := by
  rw [qze]
  refine qy8 fun j hj => ?_
  unfold gk
  rw [if_neg (by omega), if_neg (by omega), if_neg (by omega)]; rfl
def sh (G : Nat → Int) (i u : Nat) (x : Int) (j : Nat) : Int := if j = u then G u + x else if j = i then G i - x else G j
theorem qeo (k : Nat) (hk : 2000000 ≤ k) (L : Nat) (G H : Nat → Int) (i u : Nat) (x y : Int) (z z' : Bool) (hi : i < L) (hu : u < L) (hiu : i ≠ u) (hx : 0 < x) (hL : (L : Int) ≤ 1000) (hx2 : x ≤ 1000000000000000000) (hy : -1000000000000000000 ≤ y ∧ y ≤ 1000000000000000000)
    (g1 : -1000000000000000000 ≤ G i ∧ G i ≤ 1000000000000000000) (g2 : -1000000000000000000 ≤ G u ∧ G u ≤ 1000000000000000000) (g3 : -1000000000000000000 ≤ H i ∧ H i ≤ 1000000000000000000) (g4 : -1000000000000000000 ≤ H u ∧ H u ≤ 1000000000000000000) :
    go (k + 1) impl_State_move_1 [.int .i64 (i : Int), .int .i64 (u : Int), .int .i64 x, .int .i64 y, .ptr true [.arr true z (.ints .i64 (tab L G))], .ptr true [.arr true z' (.ints .i64 (tab L H))]] = some [.ptr true [.arr true z (.ints .i64 (tab L (sh G i u x)))], .ptr true [.arr true z' (.ints .i64 (tab L (sh H i u y)))]] := by
  rw [qjn]
  simp (disch := omega) only [dT, nI, qza, Bool.and_true, Int.toNat_natCast, qy9, q0f, qzc, if_neg, qhn]
  rfl
theorem qep (k : Nat) (hk : 2000000 ≤ k) (a b x y : Int) (z z' : Bool) (l l' : List Int) (hx : x = 0) :
    go (k + 1) impl_State_move_1 [.int .i64 a, .int .i64 b, .int .i64 x, .int .i64 y, .ptr true [.arr true z (.ints .i64 l)], .ptr true [.arr true z' (.ints .i64 l')]] = some [.ptr true [.arr true z (.ints .i64 l)], .ptr true [.arr true z' (.ints .i64 l')]] := by
  rw [qjn]
  simp (disch := omega) only [dF, nI, List.length_set, qhl]
theorem qx1 {G : Nat → Int} {i : Nat} {A B : Int} (g : 1 ≤ i) : sh (sh G i (i + 1) A) i (i - 1) B = upd G i A B := by
  funext j
  unfold sh upd
  by_cases q1 : j = i - 1
  · subst q1; simp (disch := omega) only [if_neg, if_pos, itT, and_true]
  · by_cases q2 : j = i + 1
    · subst q2; simp (disch := omega) only [if_pos, if_neg, itT]
    · by_cases q3 : j = i
      · subst q3; simp (disch := omega) only [if_pos, if_neg, itT]
      · simp (disch := omega) only [if_neg]
theorem sh_r {G : Nat → Int} {i : Nat} {A B : Int} (hB : B = 0) : sh G i (i + 1) A = upd G i A B := by
  funext j
  unfold sh upd
  subst hB
  by_cases q1 : 1 ≤ i ∧ j = i - 1
  · obtain ⟨q0, rfl⟩ := q1; simp (disch := omega) only [if_neg, and_true, Int.add_zero, if_pos]
  · by_cases q2 : j = i + 1
    · subst q2; simp (disch := omega) only [if_neg, itT]
    · by_cases q3 : j = i
      · subst q3; simp (disch := omega) only [itT, if_neg, Int.sub_zero]
      · simp (disch := omega) only [if_neg]
theorem sh_l {G : Nat → Int} {i : Nat} {A B : Int} (g : 1 ≤ i) (hA : A = 0) : sh G i (i - 1) B = upd G i A B := by
  funext j
  unfold sh upd
  subst hA
  by_cases q1 : j = i - 1
  · subst q1; simp (disch := omega) only [if_neg, itT, and_true, if_pos]
  · by_cases q2 : j = i + 1
    · subst q2; simp (disch := omega) only [if_neg, Int.add_zero, itT]
    · by_cases q3 : j = i
      · subst q3; simp (disch := omega) only [itT, if_neg, Int.sub_zero]
      · simp (disch := omega) only [if_neg]
theorem sh_0 {G : Nat → Int} {i : Nat} {A B : Int} (hA : A = 0) (hB : B = 0) : G = upd G i A B := by
  funext j
  unfold upd
  subst hA hB
  by_cases q1 : 1 ≤ i ∧ j = i - 1
  · simp (disch := omega) only [Int.add_zero, if_pos]
  · by_cases q2 : j = i + 1
    · subst q2; simp (disch := omega) only [Int.add_zero, if_neg, itT]
    · by_cases q3 : j = i
      · subst q3; simp (disch := omega) only [Int.sub_zero, itT, if_neg]
      · simp (disch := omega) only [if_neg]
theorem rgtB {r : Int} {l : List Cell} {m t b : List Int} (F : StF r l m t b) (tk : Int) (j : Nat) : 0 ≤ rgt tk l m b j ∧ rgt tk l m b j ≤ 2500000 := by
  have f1 := qn2 F tk j; have a0 := F.at j
  unfold rgt; omega
theorem lftB {r : Int} {l : List Cell} {m t b : List Int} (F : StF r l m t b) (tk : Int) (j : Nat) : 0 ≤ lft tk l m b j ∧ lft tk l m b j ≤ 2500000 := by
  have f1 := qn2 F tk (j - 1); have a0 := F.at (j - 1 + 1)
  unfold lft
  split <;> omega
set_option maxHeartbeats 1000000 in
theorem qsi (k : Nat) (hk : 2000000 ≤ k) (fu : List (Nat × Nat)) (a0 : Int) (a1z : Bool) (a1 : List Cell) (a2z : Bool) (a2 : List Int) (a3z : Bool) (a3 : List Int) (a4z : Bool) (a4 : List Int) (z1 z2 z3 z4 : Bool) (r : Int) (l : List Cell) (m t b : List Int) (tk : Int) (F : StF r l m t b) : ∀ (n i : Nat), i ≤ l.length → l.length - i < n →
    lp (k + 5) impl_State_move [(.ptr true [(.int .i64 (a0)), (.arr true (a1z) (.r3 (a1))), (.arr true (a2z) (.ints .i64 (a2))), (.arr true (a3z) (.ints .i64 (a3))), (.arr true (a4z) (.ints .i64 (a4)))])] fu 12 (n) (qwd (l.length : Int) (i : Int) z1 l z2 m z3 t z4 b r false (tab l.length (rgt tk l m b)) false (tab l.length (lft tk l m b)) false (tab l.length (gk (rgt tk l m b) (lft tk l m b) i)) false (tab l.length (gk (outA tk l m t b) (outB tk l m t b) i))) =
      lp (k + 5) impl_State_move [(.ptr true [(.int .i64 (a0)), (.arr true (a1z) (.r3 (a1))), (.arr true (a2z) (.ints .i64 (a2))), (.arr true (a3z) (.ints .i64 (a3))), (.arr true (a4z) (.ints .i64 (a4)))])] fu 19 (k + 5) (qwe (l.length : Int) 0 z1 l z2 m z3 t z4 b r false (tab l.length (gk (rgt tk l m b) (lft tk l m b) l.length)) false (tab l.length (gk (outA tk l m t b) (outB tk l m t b) l.length)))
  | 0, i, hi, hn => by omega
  | n + 1, i, hi, hn => by
    have hl := F.len; have hm := F.ml; have ht := F.tl
    rw [qpl]
    by_cases h : i < l.length
    · have IH := qsi k hk fu a0 a1z a1 a2z a2 a3z a3 a4z a4 z1 z2 z3 z4 r l m t b tk F n (i + 1) (by omega) (by omega)
      rw [← qof l.length (rgt tk l m b) (lft tk l m b) i, ← qof l.length (outA tk l m t b) (outB tk l m t b) i] at IH
      have B1 : ∀ p j, -10000000 ≤ gk (rgt tk l m b) (lft tk l m b) p j ∧ gk (rgt tk l m b) (lft tk l m b) p j ≤ 10000000 := fun p j => qoe (C := 2500000) (fun j => by have := rgtB F tk j; omega) (fun j => by have := lftB F tk j; omega) p j
      have B2 : ∀ p j, -400000000000000000 ≤ gk (outA tk l m t b) (outB tk l m t b) p j ∧ gk (outA tk l m t b) (outB tk l m t b) p j ≤ 400000000000000000 := fun p j => qoe (C := 100000000000000000) (fun j => by have := qug tk l m t b j; omega) (fun j => qui tk l m t b j) p j
      have r1 := rgtB F tk i; have r2 := lftB F tk i
      have A := qug tk l m t b i; have B := qui tk l m t b i
      have b1 := B1 i i; have b2 := B1 i (i + 1); have b3 := B1 i (i - 1); have c1 := B2 i i; have c2 := B2 i (i + 1); have c3 := B2 i (i - 1)
      have hA : loA (t.getD i 0) (m.getD i 0) (rgt tk l m b i) (lft tk l m b i) = outA tk l m t b i := rfl
      have hB : loB (t.getD i 0) (m.getD i 0) (rgt tk l m b i) (lft tk l m b i) = outB tk l m t b i := rfl
      have hi1 : 0 < rgt tk l m b i → i + 1 < l.length := fun g4 => by
        rcases Nat.lt_or_ge (i + 1) l.length with q | q
        · exact q
        · unfold rgt at g4; rw [qn1 q] at g4; omega
      have hi0 : 0 < lft tk l m b i → 1 ≤ i := fun g4 => by
        rcases Nat.lt_or_ge 0 i with q | q
        · exact q
        · unfold lft at g4; rw [if_neg (by omega)] at g4; omega
      have zA : rgt tk l m b i = 0 → outA tk l m t b i = 0 := quh
      have zB : lft tk l m b i = 0 → outB tk l m t b i = 0 := quj
      by_cases g4 : 0 < rgt tk l m b i
      · have i1 := hi1 g4
        have s1 := qeo (k + 5 - 1) (by omega) l.length (gk (rgt tk l m b) (lft tk l m b) i) (gk (outA tk l m t b) (outB tk l m t b) i) i (i + 1) (rgt tk l m b i) (outA tk l m t b i) false false h i1 (by omega) g4 (by omega) (by omega) (by omega) (by omega) (by omega) (by omega) (by omega)
        rw [show k + 5 - 1 + 1 = k + 5 by omega] at s1
        by_cases g5 : 0 < lft tk l m b i
        · have i0 := hi0 g5
          have e1 : sh (gk (rgt tk l m b) (lft tk l m b) i) i (i + 1) (rgt tk l m b i) i = gk (rgt tk l m b) (lft tk l m b) i i - rgt tk l m b i := by unfold sh; rw [if_neg (by omega), if_pos rfl]
          have e2 : sh (gk (rgt tk l m b) (lft tk l m b) i) i (i + 1) (rgt tk l m b i) (i - 1) = gk (rgt tk l m b) (lft tk l m b) i (i - 1) := by unfold sh; rw [if_neg (by omega), if_neg (by omega)]
          have e3 : sh (gk (outA tk l m t b) (outB tk l m t b) i) i (i + 1) (outA tk l m t b i) i = gk (outA tk l m t b) (outB tk l m t b) i i - outA tk l m t b i := by unfold sh; rw [if_neg (by omega), if_pos rfl]
          have e4 : sh (gk (outA tk l m t b) (outB tk l m t b) i) i (i + 1) (outA tk l m t b i) (i - 1) = gk (outA tk l m t b) (outB tk l m t b) i (i - 1) := by unfold sh; rw [if_neg (by omega), if_neg (by omega)]
          have s2 := qeo (k + 5 - 1) (by omega) l.length (sh (gk (rgt tk l m b) (lft tk l m b) i) i (i + 1) (rgt tk l m b i)) (sh (gk (outA tk l m t b) (outB tk l m t b) i) i (i + 1) (outA tk l m t b i)) i (i - 1) (lft tk l m b i) (outB tk l m t b i) false false h (by omega) (by omega) g5 (by omega) (by omega) (by omega) (by omega) (by omega) (by omega) (by omega)
          rw [show k + 5 - 1 + 1 = k + 5 by omega] at s2
          rw [← qx1 i0, ← qx1 i0] at IH
          simp (disch := omega) only [dT, nI, Bool.and_true, qza, Int.toNat_natCast, qy9, qbu, hA, hB, qgr, q0f, qgq, qhn, qa2, nth0, qzo, s1, nth1, qur, qt9, qoq, s2]
          exact IH
        · have z0 : lft tk l m b i = 0 := by omega
          rw [← sh_r z0, ← sh_r (zB z0)] at IH
          simp (disch := omega) only [dT, nI, Bool.and_true, qza, Int.toNat_natCast, qy9, qbu, hA, hB, qgr, q0f, qep, qa2, nth0, qur, qt9, qoq, nth1, qhn, qzo, s1]
          exact IH
      · have z1' : rgt tk l m b i = 0 := by omega
        by_cases g5 : 0 < lft tk l m b i
        · have i0 := hi0 g5
          have s2 := qeo (k + 5 - 1) (by omega) l.length (gk (rgt tk l m b) (lft tk l m b) i) (gk (outA tk l m t b) (outB tk l m t b) i) i (i - 1) (lft tk l m b i) (outB tk l m t b i) false false h (by omega) (by omega) g5 (by omega) (by omega) (by omega) (by omega) (by omega) (by omega) (by omega)
          rw [show k + 5 - 1 + 1 = k + 5 by omega] at s2
          rw [← sh_l i0 z1', ← sh_l i0 (zA z1')] at IH
          simp (disch := omega) only [dT, nI, Bool.and_true, qza, Int.toNat_natCast, qy9, qbu, hA, hB, qgr, q0f, qep, qgq, qhn, qa2, nth0, qur, qt9, qoq, nth1, qzo, s2]
          exact IH
        · have z0 : lft tk l m b i = 0 := by omega
          rw [← sh_0 z1' z0, ← sh_0 (zA z1') (zB z0)] at IH
          simp (disch := omega) only [dT, nI, Bool.and_true, qza, Int.toNat_natCast, qy9, qbu, hA, hB, qgr, q0f, qep, qa2, nth0, qur, qt9, qoq, nth1, qhn]
          exact IH
    · simp (disch := omega) only [dF, dT, nI, Bool.and_false, Bool.true_and, Int.toNat_natCast, qgr, q0f, qhl]
      rw [show i = l.length by omega, hm]
end Go.Proofs.YtoldpdhhfmlckaaGreat
end
