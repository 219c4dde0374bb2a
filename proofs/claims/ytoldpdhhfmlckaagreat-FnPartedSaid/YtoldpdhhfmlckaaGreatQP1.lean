/- What the program's functions compute, and plain facts of it (part 1). No condition beyond those that each theorem states. -/
import Derived.Test.YtoldpdhhfmlckaaGreatXA
import Derived.ProofKit
import Derived.Test.YtoldpdhhfmlckaaGreatRB
import Derived.Test.YtoldpdhhfmlckaaGreatProg
import Derived.WalkKit
import Derived.KernelRfl
import Derived.Deep.QuietTactic
import Derived.BigQuiet
set_option linter.unusedVariables false
set_option linter.unusedSimpArgs false
section
namespace Go.Proofs.YtoldpdhhfmlckaaGreat
open Go.Ev
theorem qvt {x : Int} (h : -9223372036854775808 ≤ x) (h' : x ≤ 9223372036854775807) : IntKind.wrap .i64 x = x := by rw [IntKind.wrap_i64]; omega
theorem qvu {x : Int} (h : 0 ≤ x) (h' : x ≤ 9223372036854775807) : IntKind.wrap .u64 x = x := by rw [IntKind.wrap_u64]; omega
theorem nth0 (d0 : D) (l : List D) : nth (d0 :: l) 0 = d0 := Eq.trans rfl rfl
theorem nth1 (d0 d1 : D) (l : List D) : nth (d0 :: d1 :: l) 1 = d1 := Eq.trans rfl rfl
theorem qfi (d0 : D) (l : List D) : (D.agg (d0 :: l)).cell 0 = d0 := Eq.trans rfl rfl
theorem qfj (d0 d1 : D) (l : List D) : (D.agg (d0 :: d1 :: l)).cell 1 = d1 := Eq.trans rfl rfl
theorem qfu (d0 d1 d2 : D) (l : List D) : (D.agg (d0 :: d1 :: d2 :: l)).cell 2 = d2 := Eq.trans rfl rfl
theorem qfw (d0 d1 d2 d3 : D) (l : List D) : (D.agg (d0 :: d1 :: d2 :: d3 :: l)).cell 3 = d3 := Eq.trans rfl rfl
theorem qfx (d0 d1 d2 d3 d4 : D) (l : List D) : (D.agg (d0 :: d1 :: d2 :: d3 :: d4 :: l)).cell 4 = d4 := Eq.trans rfl rfl
theorem qfy (d0 d1 d2 d3 d4 d5 : D) (l : List D) : (D.agg (d0 :: d1 :: d2 :: d3 :: d4 :: d5 :: l)).cell 5 = d5 := Eq.trans rfl rfl
theorem qfz (d0 d1 d2 d3 d4 d5 d6 : D) (l : List D) : (D.agg (d0 :: d1 :: d2 :: d3 :: d4 :: d5 :: d6 :: l)).cell 6 = d6 := Eq.trans rfl rfl
theorem qf0 (d0 d1 d2 d3 d4 d5 d6 d7 : D) (l : List D) : (D.agg (d0 :: d1 :: d2 :: d3 :: d4 :: d5 :: d6 :: d7 :: l)).cell 7 = d7 := Eq.trans rfl rfl
theorem qf1 (d0 d1 d2 d3 d4 d5 d6 d7 d8 : D) (l : List D) : (D.agg (d0 :: d1 :: d2 :: d3 :: d4 :: d5 :: d6 :: d7 :: d8 :: l)).cell 8 = d8 := Eq.trans rfl rfl
theorem qf2 (d0 d1 d2 d3 d4 d5 d6 d7 d8 d9 : D) (l : List D) : (D.agg (d0 :: d1 :: d2 :: d3 :: d4 :: d5 :: d6 :: d7 :: d8 :: d9 :: l)).cell 9 = d9 := Eq.trans rfl rfl
theorem qfk (d0 d1 d2 d3 d4 d5 d6 d7 d8 d9 d10 : D) (l : List D) : (D.agg (d0 :: d1 :: d2 :: d3 :: d4 :: d5 :: d6 :: d7 :: d8 :: d9 :: d10 :: l)).cell 10 = d10 := Eq.trans rfl rfl
theorem qfl (d0 d1 d2 d3 d4 d5 d6 d7 d8 d9 d10 d11 : D) (l : List D) : (D.agg (d0 :: d1 :: d2 :: d3 :: d4 :: d5 :: d6 :: d7 :: d8 :: d9 :: d10 :: d11 :: l)).cell 11 = d11 := Eq.trans rfl rfl
theorem qfm (d0 d1 d2 d3 d4 d5 d6 d7 d8 d9 d10 d11 d12 : D) (l : List D) : (D.agg (d0 :: d1 :: d2 :: d3 :: d4 :: d5 :: d6 :: d7 :: d8 :: d9 :: d10 :: d11 :: d12 :: l)).cell 12 = d12 := Eq.trans rfl rfl
theorem qfn (d0 d1 d2 d3 d4 d5 d6 d7 d8 d9 d10 d11 d12 d13 : D) (l : List D) : (D.agg (d0 :: d1 :: d2 :: d3 :: d4 :: d5 :: d6 :: d7 :: d8 :: d9 :: d10 :: d11 :: d12 :: d13 :: l)).cell 13 = d13 := Eq.trans rfl rfl
theorem qfo (d0 d1 d2 d3 d4 d5 d6 d7 d8 d9 d10 d11 d12 d13 d14 : D) (l : List D) : (D.agg (d0 :: d1 :: d2 :: d3 :: d4 :: d5 :: d6 :: d7 :: d8 :: d9 :: d10 :: d11 :: d12 :: d13 :: d14 :: l)).cell 14 = d14 := Eq.trans rfl rfl
theorem qfp (d0 d1 d2 d3 d4 d5 d6 d7 d8 d9 d10 d11 d12 d13 d14 d15 : D) (l : List D) : (D.agg (d0 :: d1 :: d2 :: d3 :: d4 :: d5 :: d6 :: d7 :: d8 :: d9 :: d10 :: d11 :: d12 :: d13 :: d14 :: d15 :: l)).cell 15 = d15 := Eq.trans rfl rfl
theorem qfq (d0 d1 d2 d3 d4 d5 d6 d7 d8 d9 d10 d11 d12 d13 d14 d15 d16 : D) (l : List D) : (D.agg (d0 :: d1 :: d2 :: d3 :: d4 :: d5 :: d6 :: d7 :: d8 :: d9 :: d10 :: d11 :: d12 :: d13 :: d14 :: d15 :: d16 :: l)).cell 16 = d16 := Eq.trans rfl rfl
theorem qfr (d0 d1 d2 d3 d4 d5 d6 d7 d8 d9 d10 d11 d12 d13 d14 d15 d16 d17 : D) (l : List D) : (D.agg (d0 :: d1 :: d2 :: d3 :: d4 :: d5 :: d6 :: d7 :: d8 :: d9 :: d10 :: d11 :: d12 :: d13 :: d14 :: d15 :: d16 :: d17 :: l)).cell 17 = d17 := Eq.trans rfl rfl
theorem qfs (d0 d1 d2 d3 d4 d5 d6 d7 d8 d9 d10 d11 d12 d13 d14 d15 d16 d17 d18 : D) (l : List D) : (D.agg (d0 :: d1 :: d2 :: d3 :: d4 :: d5 :: d6 :: d7 :: d8 :: d9 :: d10 :: d11 :: d12 :: d13 :: d14 :: d15 :: d16 :: d17 :: d18 :: l)).cell 18 = d18 := Eq.trans rfl rfl
theorem qft (d0 d1 d2 d3 d4 d5 d6 d7 d8 d9 d10 d11 d12 d13 d14 d15 d16 d17 d18 d19 : D) (l : List D) : (D.agg (d0 :: d1 :: d2 :: d3 :: d4 :: d5 :: d6 :: d7 :: d8 :: d9 :: d10 :: d11 :: d12 :: d13 :: d14 :: d15 :: d16 :: d17 :: d18 :: d19 :: l)).cell 19 = d19 := Eq.trans rfl rfl
theorem qfv (d0 d1 d2 d3 d4 d5 d6 d7 d8 d9 d10 d11 d12 d13 d14 d15 d16 d17 d18 d19 d20 : D) (l : List D) : (D.agg (d0 :: d1 :: d2 :: d3 :: d4 :: d5 :: d6 :: d7 :: d8 :: d9 :: d10 :: d11 :: d12 :: d13 :: d14 :: d15 :: d16 :: d17 :: d18 :: d19 :: d20 :: l)).cell 20 = d20 := Eq.trans rfl rfl
theorem qu2 (k : IntKind) (n : Int) : (D.int k n).toInt = n := Eq.trans rfl rfl
theorem qu1 (b : Bool) : (D.bool b).toBool = b := Eq.trans rfl rfl
theorem qp3 (o n : Bool) (a : Arr) : (D.arr o n a).nil = n := Eq.trans rfl rfl
theorem qqu (o n : Bool) (l : List (Int × Int × Int)) : (D.arr o n (.r3 l)).r3 = l := Eq.trans rfl rfl
theorem qlg (o n : Bool) (k : IntKind) (l : List Int) : (D.arr o n (.ints k l)).ints = l := Eq.trans rfl rfl
theorem qgc {α : Type} (x y : α) : cond true x y = x := Eq.trans rfl rfl
theorem qga {α : Type} (x y : α) : cond false x y = y := Eq.trans rfl rfl
theorem qa6 {α : Type} (x : List D) (f : List D → Option α) : (some x).bind f = f x := Eq.trans rfl rfl
theorem dT {p : Prop} {i : Decidable p} (h : p) : @decide p i = true := by cases i <;> simp_all
theorem dF {p : Prop} {i : Decidable p} (h : ¬p) : @decide p i = false := by cases i <;> simp_all
theorem qfg (i : Nat) : (i : Int) + 1 = ((i + 1 : Nat) : Int) := Eq.trans rfl rfl
theorem qfh (i : Nat) : (i : Int) + 2 = ((i + 2 : Nat) : Int) := Eq.trans rfl rfl
theorem qff {i : Nat} (h : 1 ≤ i) : (i : Int) - 1 = ((i - 1 : Nat) : Int) := by omega
theorem itT {α : Type} {i : Decidable True} (x y : α) : @ite α True i x y = x := by cases i with | isTrue _ => rfl | isFalse h => exact absurd trivial h
theorem niF {α : Type} {a b : Nat} {i : Decidable (a = b)} {x y : α} (h : ¬ a = b) : @ite α (a = b) i x y = y := by cases i with | isTrue e => exact absurd e h | isFalse _ => rfl
theorem imax (x y : Int) : (if x > y then x else y) = max x y := by by_cases h : x > y <;> simp only [h, if_true, if_false] <;> omega
theorem imin (x y : Int) : (if x < y then x else y) = min x y := by by_cases h : x < y <;> simp only [h, if_true, if_false] <;> omega
theorem qgd (b x : Bool) : cond (!b) (some [D.bool false]) (some [D.bool x]) = some [D.bool (b && x)] := by cases b <;> rfl
theorem qge (b x : Bool) : cond b (some [D.bool x]) (some [D.bool false]) = some [D.bool (b && x)] := by cases b <;> rfl
theorem dTT {i : Decidable True} : @decide True i = true := by cases i with | isTrue _ => rfl | isFalse h => exact absurd trivial h
theorem dFF {i : Decidable False} : @decide False i = false := by cases i with | isTrue h => exact h.elim | isFalse _ => rfl
theorem qp2 {α : Type} (l : List α) : [] ++ l = l := Eq.trans rfl rfl
theorem big0 : bigLen = 1099511627776 := Eq.trans rfl rfl
theorem qgl {α : Type} {l : List α} {i : Nat} (h : i < l.length) (d : α) : l.drop i = l.getD i d :: l.drop (i + 1) := by
  rw [List.drop_eq_getElem_cons h]; simp [h]
theorem qta {α : Type} (l : List α) (i j : Nat) (x d : α) : (l.set i x).getD j d = if i = j ∧ i < l.length then x else l.getD j d := by
  simp only [List.getD_eq_getElem?_getD, List.getElem?_set]
  by_cases h : i = j
  · subst h
    by_cases h2 : i < l.length
    · simp [h2]
    · simp [h2]
  · simp [h]
theorem qk0 {α : Type} {l : List α} {i : Nat} (h : l.length ≤ i) (d : α) : l.getD i d = d := by simp [h]
theorem qk1 {α : Type} {l : List α} {i : Nat} (h : i < l.length) (d : α) : l.getD i d ∈ l := by simp [h]
end Go.Proofs.YtoldpdhhfmlckaaGreat
end
section
namespace Go.Proofs.YtoldpdhhfmlckaaGreat
open Go.Ev
theorem qjj (k : Nat) (a b c : Int) : go (k + 1) spec_l01In [(.int .i64 (a)), (.int .i64 (b)), (.int .i64 (c))] =
 cond (decide (b ≤ a))
 (some [(.bool (decide (a ≤ c)))])
 (some [(.bool (false))]) := by kernel_rfl
theorem qii (k : Nat) (a b c : Int) : go (k + 1) impl_within [(.int .i64 (a)), (.int .i64 (b)), (.int .i64 (c))] =
 cond (decide (b ≤ a))
 (some [(.bool (decide (a ≤ c)))])
 (some [(.bool (false))]) := by kernel_rfl
theorem qid (k : Nat) (a : Int) : go (k + 1) impl_isLevel [(.int .i64 (a))] =
 (go k impl_within [(.int .i64 (a)), (.int .i64 (0 : Int)), (.int .i64 ((4 : Int)))]).bind fun r0 =>
 some [(.bool (bit (nth r0 0)))] := by kernel_rfl
theorem qiz (k : Nat) (a0 a1 a2 : Int) : go (k + 1) spec_IdOk [(.agg [(.int .i64 (a0)), (.int .i64 (a1)), (.int .i64 (a2))])] =
 (go k spec_l01In [(.int .i64 (a0)), (.int .i64 (0 : Int)), (.int .i64 ((7 : Int)))]).bind fun r0 =>
 cond (bit (nth r0 0))
 ((go k spec_l01In [(.int .i64 (a1)), (.int .i64 (0 : Int)), (.int .i64 ((4 : Int)))]).bind fun r1 =>
 cond (bit (nth r1 0))
 (cond (decide ((0 : Int) ≤ a2))
 (cond (decide ((0 : Int) ≤ IntKind.wrap IntKind.u64 a1))
 (some [(.bool (decide (a2 < IntKind.wrap .i64 ((1 : Int) * (2 : Int) ^ shiftN .i64 (IntKind.wrap IntKind.u64 a1)))))])
 (none))
 (some [(.bool (false))]))
 (some [(.bool (false))]))
 (some [(.bool (false))]) := by kernel_rfl
theorem qgt (k : Nat) (a0 a1 a2 : Int) : go (k + 1) impl_IdOk [(.agg [(.int .i64 (a0)), (.int .i64 (a1)), (.int .i64 (a2))])] =
 (go k impl_within [(.int .i64 (a0)), (.int .i64 (0 : Int)), (.int .i64 ((7 : Int)))]).bind fun r0 =>
 cond (bit (nth r0 0))
 ((go k impl_isLevel [(.int .i64 (a1))]).bind fun r1 =>
 cond (bit (nth r1 0))
 (cond (decide ((0 : Int) ≤ a1))
 ((go k impl_within [(.int .i64 (a2)), (.int .i64 (0 : Int)), (.int .i64 (IntKind.wrap .i64 (IntKind.wrap .i64 ((1 : Int) * (2 : Int) ^ shiftN .i64 a1) - (1 : Int))))]).bind fun r2 =>
 some [(.bool (bit (nth r2 0)))])
 (none))
 (some [(.bool (false))]))
 (some [(.bool (false))]) := by kernel_rfl
theorem qje (k : Nat) (a : Int) : go (k + 1) spec_WidthOf [(.int .i64 (a))] =
 (go k spec_l01In [(.int .i64 (a)), (.int .i64 (0 : Int)), (.int .i64 ((4 : Int)))]).bind fun r0 =>
 cond (!bit (nth r0 0))
 (some [(.int .i64 (0 : Int))])
 (cond (decide ((0 : Int) ≤ IntKind.wrap IntKind.u64 a))
 (some [(.int .i64 (Int.fdiv (16 : Int) ((2 : Int) ^ shiftN .i64 (IntKind.wrap IntKind.u64 a))))])
 (none)) := by kernel_rfl
theorem qh2 (k : Nat) (a : Int) : go (k + 1) impl_WidthOf [(.int .i64 (a))] =
 (go k impl_isLevel [(.int .i64 (a))]).bind fun r0 =>
 cond (!bit (nth r0 0))
 (some [(.int .i64 (0 : Int))])
 (cond (decide ((0 : Int) ≤ a))
 (some [(.int .i64 (Int.fdiv (16 : Int) ((2 : Int) ^ shiftN .i64 a)))])
 (none)) := by kernel_rfl
theorem qjc (k : Nat) (a0 a1 a2 : Int) : go (k + 1) spec_StartOf [(.agg [(.int .i64 (a0)), (.int .i64 (a1)), (.int .i64 (a2))])] =
 (go k spec_IdOk [(.agg [(.int .i64 (a0)), (.int .i64 (a1)), (.int .i64 (a2))])]).bind fun r0 =>
 cond (!bit (nth r0 0))
 (some [(.int .i64 ((-1 : Int)))])
 ((go k spec_WidthOf [(.int .i64 (a1))]).bind fun r1 =>
 some [(.int .i64 (IntKind.wrap .i64 (IntKind.wrap .i64 (a0 * (16 : Int)) + IntKind.wrap .i64 (a2 * D.toInt (nth r1 0)))))]) := by kernel_rfl
theorem qhg (k : Nat) (a0 a1 a2 : Int) : go (k + 1) impl_StartOf [(.agg [(.int .i64 (a0)), (.int .i64 (a1)), (.int .i64 (a2))])] =
 (go k impl_IdOk [(.agg [(.int .i64 (a0)), (.int .i64 (a1)), (.int .i64 (a2))])]).bind fun r0 =>
 cond (!bit (nth r0 0))
 (some [(.int .i64 ((-1 : Int)))])
 ((go k impl_WidthOf [(.int .i64 (a1))]).bind fun r1 =>
 some [(.int .i64 (IntKind.wrap .i64 (IntKind.wrap .i64 (a0 * (16 : Int)) + IntKind.wrap .i64 (a2 * D.toInt (nth r1 0)))))]) := by kernel_rfl
theorem qjm (k : Nat) (a0 a1 a2 : Int) : go (k + 1) spec_l04End [(.agg [(.int .i64 (a0)), (.int .i64 (a1)), (.int .i64 (a2))])] =
 (go k spec_StartOf [(.agg [(.int .i64 (a0)), (.int .i64 (a1)), (.int .i64 (a2))])]).bind fun r0 =>
 (go k spec_WidthOf [(.int .i64 (a1))]).bind fun r1 =>
 some [(.int .i64 (IntKind.wrap .i64 (D.toInt (nth r0 0) + D.toInt (nth r1 0))))] := by kernel_rfl
theorem qia (k : Nat) (a0 a1 a2 : Int) : go (k + 1) impl_endOf [(.agg [(.int .i64 (a0)), (.int .i64 (a1)), (.int .i64 (a2))])] =
 (go k impl_StartOf [(.agg [(.int .i64 (a0)), (.int .i64 (a1)), (.int .i64 (a2))])]).bind fun r0 =>
 (go k impl_WidthOf [(.int .i64 (a1))]).bind fun r1 =>
 some [(.int .i64 (IntKind.wrap .i64 (D.toInt (nth r0 0) + D.toInt (nth r1 0))))] := by kernel_rfl
def qsl (x0 x1 : Int) (z2 : Bool) (l3 : List (Int × Int × Int)) (x4 : Int) : St := ⟨fill 45 [(1, (.ptr 1 (0) (0))), (3, (.int .i64 (x0))), (4, (.int .i64 (x1)))], [], [(.arr false (z2) (.r3 (l3))), (.box true [(.int .i64 (x4)), (.sl 0 none)])]⟩
theorem qi7 (k : Nat) (a0 : Int) (a1z : Bool) (a1 : List (Int × Int × Int)) : go (k + 1) spec_MeshOk [(.agg [(.int .i64 (a0)), (.arr false (a1z) (.r3 (a1)))])] =
 lp k spec_MeshOk [] [] 3 k (qsl (0 : Int) (0 : Int) a1z a1 a0) := by kernel_rfl
theorem qmr (k n : Nat) (fu : List (Nat × Nat)) (x0 x1 : Int) (z2 : Bool) (l3 : List (Int × Int × Int)) (x4 : Int) : lp k spec_MeshOk [] fu 3 (n + 1) (qsl x0 x1 z2 l3 x4) =
 cond (decide (x1 < nI (List.length l3)))
 (cond (decide ((0 : Int) ≤ x1) && decide (x1 < nI (List.length l3)))
 ((go k spec_IdOk [(.agg [(.int .i64 (Prod.fst (List.getD l3 (Int.toNat x1) zz3))), (.int .i64 (Prod.fst (Prod.snd (List.getD l3 (Int.toNat x1) zz3)))), (.int .i64 (Prod.snd (Prod.snd (List.getD l3 (Int.toNat x1) zz3))))])]).bind fun r0 =>
 cond (!bit (nth r0 0))
 (some [(.bool (false))])
 (cond (decide ((0 : Int) ≤ x1) && decide (x1 < nI (List.length l3)))
 ((go k spec_StartOf [(.agg [(.int .i64 (Prod.fst (List.getD l3 (Int.toNat x1) zz3))), (.int .i64 (Prod.fst (Prod.snd (List.getD l3 (Int.toNat x1) zz3)))), (.int .i64 (Prod.snd (Prod.snd (List.getD l3 (Int.toNat x1) zz3))))])]).bind fun r1 =>
 cond (!decide (D.toInt (nth r1 0) = x0))
 (some [(.bool (false))])
 (cond (decide ((0 : Int) ≤ x1) && decide (x1 < nI (List.length l3)))
 ((go k spec_l04End [(.agg [(.int .i64 (Prod.fst (List.getD l3 (Int.toNat x1) zz3))), (.int .i64 (Prod.fst (Prod.snd (List.getD l3 (Int.toNat x1) zz3)))), (.int .i64 (Prod.snd (Prod.snd (List.getD l3 (Int.toNat x1) zz3))))])]).bind fun r2 =>
 lp k spec_MeshOk [] fu 3 n (qsl (D.toInt (nth r2 0)) (IntKind.wrap .i64 (x1 + (1 : Int))) z2 l3 x4))
 (none)))
 (none)))
 (none))
 ((go k spec_l01In [(.int .i64 (x4)), (.int .i64 ((1 : Int))), (.int .i64 ((8 : Int)))]).bind fun r3 =>
 cond (bit (nth r3 0))
 (some [(.bool (decide (x0 = IntKind.wrap .i64 (x4 * (16 : Int)))))])
 (some [(.bool (false))])) := by kernel_rfl
def qrq (x0 x1 x2 : Int) (z3 : Bool) (l4 : List (Int × Int × Int)) (x5 : Int) : St := ⟨fill 35 [(1, (.ptr 1 (0) (0))), (3, (.int .i64 (x0))), (7, (.sl 0 none)), (8, (.int .i64 (x1))), (9, (.int .i64 (x2)))], [], [(.arr false (z3) (.r3 (l4))), (.box true [(.int .i64 (x5)), (.sl 0 none)])]⟩
theorem qgz (k : Nat) (a0 : Int) (a1z : Bool) (a1 : List (Int × Int × Int)) : go (k + 1) impl_MeshOk [(.agg [(.int .i64 (a0)), (.arr false (a1z) (.r3 (a1)))])] =
 lp k impl_MeshOk [] [] 3 k (qrq (0 : Int) (nI (List.length a1)) (0 : Int) a1z a1 a0) := by kernel_rfl
theorem qlw (k n : Nat) (fu : List (Nat × Nat)) (x0 x1 x2 : Int) (z3 : Bool) (l4 : List (Int × Int × Int)) (x5 : Int) : lp k impl_MeshOk [] fu 3 (n + 1) (qrq x0 x1 x2 z3 l4 x5) =
 cond (decide (x2 < x1))
 (cond (decide ((0 : Int) ≤ x2) && decide (x2 < nI (List.length l4)))
 ((go k impl_IdOk [(.agg [(.int .i64 (Prod.fst (List.getD l4 (Int.toNat x2) zz3))), (.int .i64 (Prod.fst (Prod.snd (List.getD l4 (Int.toNat x2) zz3)))), (.int .i64 (Prod.snd (Prod.snd (List.getD l4 (Int.toNat x2) zz3))))])]).bind fun r0 =>
 cond (!bit (nth r0 0))
 (some [(.bool (false))])
 ((go k impl_StartOf [(.agg [(.int .i64 (Prod.fst (List.getD l4 (Int.toNat x2) zz3))), (.int .i64 (Prod.fst (Prod.snd (List.getD l4 (Int.toNat x2) zz3)))), (.int .i64 (Prod.snd (Prod.snd (List.getD l4 (Int.toNat x2) zz3))))])]).bind fun r1 =>
 cond (!decide (D.toInt (nth r1 0) = x0))
 (some [(.bool (false))])
 ((go k impl_endOf [(.agg [(.int .i64 (Prod.fst (List.getD l4 (Int.toNat x2) zz3))), (.int .i64 (Prod.fst (Prod.snd (List.getD l4 (Int.toNat x2) zz3)))), (.int .i64 (Prod.snd (Prod.snd (List.getD l4 (Int.toNat x2) zz3))))])]).bind fun r2 =>
 lp k impl_MeshOk [] fu 3 n (qrq (D.toInt (nth r2 0)) x1 (IntKind.wrap .i64 (x2 + (1 : Int))) z3 l4 x5))))
 (none))
 ((go k impl_within [(.int .i64 (x5)), (.int .i64 ((1 : Int))), (.int .i64 ((8 : Int)))]).bind fun r3 =>
 cond (bit (nth r3 0))
 (some [(.bool (decide (x0 = IntKind.wrap .i64 (x5 * (16 : Int)))))])
 (some [(.bool (false))])) := by kernel_rfl
theorem qjq (k : Nat) (a0 : Int) (a1z : Bool) (a1 : List (Int × Int × Int)) (b : Int) : go (k + 1) spec_l05Face [(.agg [(.int .i64 (a0)), (.arr false (a1z) (.r3 (a1)))]), (.int .i64 (b))] =
 cond (decide ((0 : Int) ≤ b) && decide (b < nI (List.length a1)))
 (cond (decide ((0 : Int) ≤ IntKind.wrap .i64 (b + (1 : Int))) && decide (IntKind.wrap .i64 (b + (1 : Int)) < nI (List.length a1)))
 (some [(.int .i64 (if Prod.fst (Prod.snd (List.getD a1 (Int.toNat (IntKind.wrap .i64 (b + (1 : Int)))) zz3)) > Prod.fst (Prod.snd (List.getD a1 (Int.toNat b) zz3)) then Prod.fst (Prod.snd (List.getD a1 (Int.toNat (IntKind.wrap .i64 (b + (1 : Int)))) zz3)) else Prod.fst (Prod.snd (List.getD a1 (Int.toNat b) zz3))))])
 (none))
 (none) := by kernel_rfl
theorem qg2 (k : Nat) (a0 : Int) (a1z : Bool) (a1 : List (Int × Int × Int)) (b : Int) : go (k + 1) impl_Mesh_faceLevel [(.agg [(.int .i64 (a0)), (.arr false (a1z) (.r3 (a1)))]), (.int .i64 (b))] =
 cond (decide ((0 : Int) ≤ b) && decide (b < nI (List.length a1)))
 (cond (decide ((0 : Int) ≤ IntKind.wrap .i64 (b + (1 : Int))) && decide (IntKind.wrap .i64 (b + (1 : Int)) < nI (List.length a1)))
 (some [(.int .i64 (if Prod.fst (Prod.snd (List.getD a1 (Int.toNat (IntKind.wrap .i64 (b + (1 : Int)))) zz3)) > Prod.fst (Prod.snd (List.getD a1 (Int.toNat b) zz3)) then Prod.fst (Prod.snd (List.getD a1 (Int.toNat (IntKind.wrap .i64 (b + (1 : Int)))) zz3)) else Prod.fst (Prod.snd (List.getD a1 (Int.toNat b) zz3))))])
 (none))
 (none) := by kernel_rfl
theorem qi0 (k : Nat) (a b : Int) : go (k + 1) spec_IsActive [(.int .i64 (a)), (.int .i64 (b))] =
 (go k spec_WidthOf [(.int .i64 (b))]).bind fun r0 =>
 cond (decide ((0 : Int) ≤ a))
 (cond (decide ((0 : Int) < D.toInt (nth r0 0)))
 (cond (!decide (D.toInt (nth r0 0) = (0 : Int)))
 (some [(.bool (decide (Int.tmod a (D.toInt (nth r0 0)) = (0 : Int))))])
 (none))
 (some [(.bool (false))]))
 (some [(.bool (false))]) := by kernel_rfl
theorem qgu (k : Nat) (a b : Int) : go (k + 1) impl_IsActive [(.int .i64 (a)), (.int .i64 (b))] =
 (go k impl_isLevel [(.int .i64 (b))]).bind fun r0 =>
 cond (bit (nth r0 0))
 (cond (decide ((0 : Int) ≤ a))
 ((go k impl_WidthOf [(.int .i64 (b))]).bind fun r1 =>
 cond (!decide (D.toInt (nth r1 0) = (0 : Int)))
 (some [(.bool (decide (Int.tmod a (D.toInt (nth r1 0)) = (0 : Int))))])
 (none))
 (some [(.bool (false))]))
 (some [(.bool (false))]) := by kernel_rfl
def qsq (x0 : Int) (z1 : Bool) (l2 : List (Int × Int × Int)) (x3 : Int) : St := ⟨fill 34 [(1, (.ptr 1 (0) (0))), (3, (.int .i64 (x0)))], [], [(.arr false (z1) (.r3 (l2))), (.box true [(.int .i64 (x3)), (.sl 0 none)])]⟩
theorem qjr (k : Nat) (a0 : Int) (a1z : Bool) (a1 : List (Int × Int × Int)) : go (k + 1) spec_l05First [(.agg [(.int .i64 (a0)), (.arr false (a1z) (.r3 (a1)))])] =
 lp k spec_l05First [] [] 2 k (qsq (0 : Int) a1z a1 a0) := by kernel_rfl
theorem qmw (k n : Nat) (fu : List (Nat × Nat)) (x0 : Int) (z1 : Bool) (l2 : List (Int × Int × Int)) (x3 : Int) : lp k spec_l05First [] fu 2 (n + 1) (qsq x0 z1 l2 x3) =
 cond (decide (IntKind.wrap .i64 (x0 + (1 : Int)) < nI (List.length l2)))
 (cond (decide ((0 : Int) ≤ x0) && decide (x0 < nI (List.length l2)))
 (cond (decide ((0 : Int) ≤ IntKind.wrap .i64 (x0 + (1 : Int))) && decide (IntKind.wrap .i64 (x0 + (1 : Int)) < nI (List.length l2)))
 (cond (decide ((1 : Int) < IntKind.wrap .i64 (Prod.fst (Prod.snd (List.getD l2 (Int.toNat x0) zz3)) - Prod.fst (Prod.snd (List.getD l2 (Int.toNat (IntKind.wrap .i64 (x0 + (1 : Int)))) zz3)))))
 (some [(.int .i64 (x0))])
 (cond (decide (IntKind.wrap .i64 (Prod.fst (Prod.snd (List.getD l2 (Int.toNat x0) zz3)) - Prod.fst (Prod.snd (List.getD l2 (Int.toNat (IntKind.wrap .i64 (x0 + (1 : Int)))) zz3))) < (-1 : Int)))
 (some [(.int .i64 (x0))])
 (lp k spec_l05First [] fu 2 n (qsq (IntKind.wrap .i64 (x0 + (1 : Int))) z1 l2 x3))))
 (none))
 (none))
 (some [(.int .i64 ((-1 : Int)))]) := by kernel_rfl
def qrt (x0 x1 : Int) (z2 : Bool) (l3 : List (Int × Int × Int)) (x4 : Int) : St := ⟨fill 29 [(1, (.ptr 1 (0) (0))), (7, (.int .i64 (x0))), (8, (.int .i64 (x1)))], [], [(.arr false (z2) (.r3 (l3))), (.box true [(.int .i64 (x4)), (.sl 0 none)])]⟩
theorem qg8 (k : Nat) (a0 : Int) (a1z : Bool) (a1 : List (Int × Int × Int)) : go (k + 1) impl_Mesh_unbalanced [(.agg [(.int .i64 (a0)), (.arr false (a1z) (.r3 (a1)))])] =
 lp k impl_Mesh_unbalanced [] [] 2 k (qrt (IntKind.wrap .i64 (nI (List.length a1) - (1 : Int))) (0 : Int) a1z a1 a0) := by kernel_rfl
theorem qlz (k n : Nat) (fu : List (Nat × Nat)) (x0 x1 : Int) (z2 : Bool) (l3 : List (Int × Int × Int)) (x4 : Int) : lp k impl_Mesh_unbalanced [] fu 2 (n + 1) (qrt x0 x1 z2 l3 x4) =
 cond (decide (x1 < x0))
 (cond (decide ((0 : Int) ≤ x1) && decide (x1 < nI (List.length l3)))
 (cond (decide ((0 : Int) ≤ IntKind.wrap .i64 (x1 + (1 : Int))) && decide (IntKind.wrap .i64 (x1 + (1 : Int)) < nI (List.length l3)))
 ((go k impl_absolute [(.int .i64 (IntKind.wrap .i64 (Prod.fst (Prod.snd (List.getD l3 (Int.toNat x1) zz3)) - Prod.fst (Prod.snd (List.getD l3 (Int.toNat (IntKind.wrap .i64 (x1 + (1 : Int)))) zz3)))))]).bind fun r0 =>
 cond (decide ((1 : Int) < D.toInt (nth r0 0)))
 (some [(.int .i64 (x1))])
 (lp k impl_Mesh_unbalanced [] fu 2 n (qrt x0 (IntKind.wrap .i64 (x1 + (1 : Int))) z2 l3 x4)))
 (none))
 (none))
 (some [(.int .i64 ((-1 : Int)))]) := by kernel_rfl
theorem qh5 (k : Nat) (a : Int) : go (k + 1) impl_absolute [(.int .i64 (a))] =
 some [(.int .i64 (if IntKind.wrap .i64 ((0 : Int) - a) > a then IntKind.wrap .i64 ((0 : Int) - a) else a))] := by kernel_rfl
theorem qi1 (k : Nat) (a0 : Int) (a1z : Bool) (a1 : List (Int × Int × Int)) : go (k + 1) spec_IsBalanced [(.agg [(.int .i64 (a0)), (.arr false (a1z) (.r3 (a1)))])] =
 (go k spec_MeshOk [(.agg [(.int .i64 (a0)), (.arr false (a1z) (.r3 (a1)))])]).bind fun r0 =>
 cond (bit (nth r0 0))
 ((go k spec_l05First [(.agg [(.int .i64 (a0)), (.arr false (a1z) (.r3 (a1)))])]).bind fun r1 =>
 some [(.bool (decide (D.toInt (nth r1 0) < (0 : Int))))])
 (some [(.bool (false))]) := by kernel_rfl
theorem qgv (k : Nat) (a0 : Int) (a1z : Bool) (a1 : List (Int × Int × Int)) : go (k + 1) impl_IsBalanced [(.agg [(.int .i64 (a0)), (.arr false (a1z) (.r3 (a1)))])] =
 (go k impl_MeshOk [(.agg [(.int .i64 (a0)), (.arr false (a1z) (.r3 (a1)))])]).bind fun r0 =>
 cond (bit (nth r0 0))
 ((go k impl_Mesh_unbalanced [(.agg [(.int .i64 (a0)), (.arr false (a1z) (.r3 (a1)))])]).bind fun r1 =>
 some [(.bool (decide (D.toInt (nth r1 0) < (0 : Int))))])
 (some [(.bool (false))]) := by kernel_rfl
theorem qg3 (k : Nat) (a0 : Int) (a1z : Bool) (a1 : List (Int × Int × Int)) (b : Int) : go (k + 1) impl_Mesh_has [(.agg [(.int .i64 (a0)), (.arr false (a1z) (.r3 (a1)))]), (.int .i64 (b))] =
 (go k impl_within [(.int .i64 (b)), (.int .i64 (0 : Int)), (.int .i64 (IntKind.wrap .i64 (nI (List.length a1) - (1 : Int))))]).bind fun r0 =>
 some [(.bool (bit (nth r0 0)))] := by kernel_rfl
theorem qhc (k : Nat) (a0 : Int) (a1z : Bool) (a1 : List (Int × Int × Int)) (b0 : Int) (b1z : Bool) (b1 : List (Int × Int × Int)) : go (k + 1) impl_SameMesh [(.agg [(.int .i64 (a0)), (.arr false (a1z) (.r3 (a1)))]), (.agg [(.int .i64 (b0)), (.arr false (b1z) (.r3 (b1)))])] =
 cond (decide (a0 = b0))
 ((go k slices_Equal_impl_Id_impl_Id [(.arr false (a1z) (.r3 (a1))), (.arr false (b1z) (.r3 (b1)))]).bind fun r0 =>
 some [(.bool (bit (nth r0 0)))])
 (some [(.bool (false))]) := by kernel_rfl
def qsb (x0 x1 : Int) (z2 : Bool) (l3 : List (Int × Int × Int)) (z4 : Bool) (l5 : List (Int × Int × Int)) : St := ⟨fill 26 [(0, (.sl 0 none)), (1, (.sl 1 none)), (12, (.int .i64 (x0))), (13, (.int .i64 (x1)))], [], [(.arr false (z2) (.r3 (l3))), (.arr false (z4) (.r3 (l5)))]⟩
theorem qio (k : Nat) (az : Bool) (a : List (Int × Int × Int)) (bz : Bool) (b : List (Int × Int × Int)) : go (k + 1) slices_Equal_impl_Id_impl_Id [(.arr false (az) (.r3 (a))), (.arr false (bz) (.r3 (b)))] =
 cond (!decide (nI (List.length a) = nI (List.length b)))
 (some [(.bool (false))])
 (lp k slices_Equal_impl_Id_impl_Id [] [] 4 k (qsb (nI (List.length a)) (0 : Int) az a bz b)) := by kernel_rfl
theorem qmh (k n : Nat) (fu : List (Nat × Nat)) (x0 x1 : Int) (z2 : Bool) (l3 : List (Int × Int × Int)) (z4 : Bool) (l5 : List (Int × Int × Int)) : lp k slices_Equal_impl_Id_impl_Id [] fu 4 (n + 1) (qsb x0 x1 z2 l3 z4 l5) =
 cond (decide (x1 < x0))
 (cond (decide ((0 : Int) ≤ x1) && decide (x1 < nI (List.length l3)))
 (cond (decide ((0 : Int) ≤ x1) && decide (x1 < nI (List.length l5)))
 (cond (!(decide (Prod.fst (List.getD l3 (Int.toNat x1) zz3) = Prod.fst (List.getD l5 (Int.toNat x1) zz3)) && (decide (Prod.fst (Prod.snd (List.getD l3 (Int.toNat x1) zz3)) = Prod.fst (Prod.snd (List.getD l5 (Int.toNat x1) zz3))) && (decide (Prod.snd (Prod.snd (List.getD l3 (Int.toNat x1) zz3)) = Prod.snd (Prod.snd (List.getD l5 (Int.toNat x1) zz3))) && true))))
 (some [(.bool (false))])
 (lp k slices_Equal_impl_Id_impl_Id [] fu 4 n (qsb x0 (IntKind.wrap .i64 (x1 + (1 : Int))) z2 l3 z4 l5)))
 (none))
 (none))
 (some [(.bool (true))]) := by kernel_rfl
end Go.Proofs.YtoldpdhhfmlckaaGreat
end
section
namespace Go.Proofs.YtoldpdhhfmlckaaGreat
open Go.Ev
def inR (a b c : Int) : Bool := decide (b ≤ a) && decide (a ≤ c)
theorem qle {a b c : Int} : inR a b c = true ↔ b ≤ a ∧ a ≤ c := by simp [inR]
theorem qee (k : Nat) (hk : 2000000 ≤ k) (a : Int) (b : Int) (c : Int) : go (k + 1) spec_l01In [(.int .i64 (a)), (.int .i64 (b)), (.int .i64 (c))] = some [.bool (inR a b c)] := by
  rw [qjj]; unfold inR; cases decide (b ≤ a) <;> rfl
theorem qc8 (k : Nat) (hk : 2000000 ≤ k) (a : Int) (b : Int) (c : Int) : go (k + 1) impl_within [(.int .i64 (a)), (.int .i64 (b)), (.int .i64 (c))] = some [.bool (inR a b c)] := by
  rw [qii]; unfold inR; cases decide (b ≤ a) <;> rfl
def pow2 (l : Int) : Int := 2 ^ l.toNat
def idOk (r l i : Int) : Bool := inR r 0 7 && (inR l 0 4 && (decide (0 ≤ i) && decide (i < pow2 l)))
theorem lev {l : Int} (h : inR l 0 4 = true) : l = 0 ∨ l = 1 ∨ l = 2 ∨ l = 3 ∨ l = 4 := by
  simp only [inR, Bool.and_eq_true, decide_eq_true_eq] at h; omega
theorem p20 : pow2 0 = 1 := rfl
theorem p21 : pow2 1 = 2 := rfl
theorem p22 : pow2 2 = 4 := rfl
theorem p23 : pow2 3 = 8 := rfl
theorem p24 : pow2 4 = 16 := rfl
theorem sh0 : shiftN .i64 0 = 0 := by decide
theorem sh1 : shiftN .i64 1 = 1 := by decide
theorem sh2 : shiftN .i64 2 = 2 := by decide
theorem sh3 : shiftN .i64 3 = 3 := by decide
theorem sh4 : shiftN .i64 4 = 4 := by decide
theorem pw {l : Int} (h : inR l 0 4 = true) : IntKind.wrap .i64 ((1 : Int) * (2 : Int) ^ shiftN .i64 l) = pow2 l := by
  rcases lev h with rfl | rfl | rfl | rfl | rfl <;> simp [sh0, sh1, sh2, sh3, sh4, qvt, p20, p21, p22, p23, p24]
theorem lev0 {l : Int} (h : inR l 0 4 = true) : 0 ≤ l ∧ l ≤ 4 := by
  simp only [inR, Bool.and_eq_true, decide_eq_true_eq] at h; omega
theorem qqp {l : Int} (h : inR l 0 4 = true) : 1 ≤ pow2 l ∧ pow2 l ≤ 16 := by
  rcases lev h with rfl | rfl | rfl | rfl | rfl <;> simp [p20, p21, p22, p23, p24]
theorem qdr (k : Nat) (hk : 2000000 ≤ k) (a0 : Int) (a1 : Int) (a2 : Int) : go (k + 2) spec_IdOk [(.agg [(.int .i64 (a0)), (.int .i64 (a1)), (.int .i64 (a2))])] = some [.bool (idOk a0 a1 a2)] := by
  rw [qiz]
  simp (disch := omega) only [qee, bit, qa6, nth0, qu1]
  unfold idOk
  cases h1 : inR a0 0 7 <;> cases h2 : inR a1 0 4 <;> simp only [qgc, qga, Bool.true_and, Bool.false_and, Bool.and_false]
  have := lev0 h2
  rw [qvu (x := a1) (by omega) (by omega), pw h2]
  by_cases h3 : (0 : Int) ≤ a2
  · simp [h3, this.1]
  · simp [h3]
theorem qcm (k : Nat) (hk : 2000000 ≤ k) (a : Int) : go (k + 2) impl_isLevel [(.int .i64 (a))] = some [.bool (inR a 0 4)] := by
  rw [qid]
  simp (disch := omega) only [qc8, bit, qa6, nth0, qu1]
theorem qbk (k : Nat) (hk : 2000000 ≤ k) (a0 : Int) (a1 : Int) (a2 : Int) : go (k + 3) impl_IdOk [(.agg [(.int .i64 (a0)), (.int .i64 (a1)), (.int .i64 (a2))])] = some [.bool (idOk a0 a1 a2)] := by
  rw [qgt]
  simp (disch := omega) only [qc8, bit, qcm, qa6, nth0, qu1]
  unfold idOk
  cases h1 : inR a0 0 7 <;> cases h2 : inR a1 0 4 <;> simp only [qgc, qga, Bool.true_and, Bool.false_and, Bool.and_false]
  have := lev0 h2
  have := qqp h2
  rw [pw h2, qvt (x := pow2 a1 - 1) (by omega) (by omega)]
  rw [show decide ((0 : Int) ≤ a1) = true by simp; omega, qgc]
  have e : inR a2 0 (pow2 a1 - 1) = (decide (0 ≤ a2) && decide (a2 < pow2 a1)) := by
    unfold inR; rw [Bool.eq_iff_iff]; simp only [Bool.and_eq_true, decide_eq_true_eq]; omega
  rw [e]
def qvl (l : Int) : Int := if inR l 0 4 then 16 / pow2 l else 0
theorem qd4 (k : Nat) (hk : 2000000 ≤ k) (a : Int) : go (k + 2) spec_WidthOf [(.int .i64 (a))] = some [.int .i64 (qvl a)] := by
  rw [qje]
  simp (disch := omega) only [qee, bit, qa6, nth0, qu1, qvl]
  cases h2 : inR a 0 4
  · simp
  · rcases lev h2 with rfl | rfl | rfl | rfl | rfl <;> simp [qvu, sh0, sh1, sh2, sh3, sh4, p20, p21, p22, p23, p24] <;> decide
theorem qb0 (k : Nat) (hk : 2000000 ≤ k) (a : Int) : go (k + 3) impl_WidthOf [(.int .i64 (a))] = some [.int .i64 (qvl a)] := by
  rw [qh2]
  simp (disch := omega) only [qcm, bit, qa6, nth0, qu1, qvl]
  cases h2 : inR a 0 4
  · simp
  · rcases lev h2 with rfl | rfl | rfl | rfl | rfl <;> simp [qvu, sh0, sh1, sh2, sh3, sh4, p20, p21, p22, p23, p24] <;> decide
def qt0 (r l i : Int) : Int := if idOk r l i then r * 16 + i * qvl l else -1
theorem qvn (l : Int) : 0 ≤ qvl l ∧ qvl l ≤ 16 := by
  unfold qvl
  cases h : inR l 0 4
  · simp
  · rcases lev h with rfl | rfl | rfl | rfl | rfl <;> decide
theorem qlc {r l i : Int} (h : idOk r l i = true) : 0 ≤ r ∧ r ≤ 7 ∧ inR l 0 4 = true ∧ 0 ≤ i ∧ i < pow2 l := by
  simp only [idOk, Bool.and_eq_true, decide_eq_true_eq] at h
  obtain ⟨h1, h2, h3, h4⟩ := h
  simp only [inR, Bool.and_eq_true, decide_eq_true_eq] at h1
  exact ⟨h1.1, h1.2, h2, h3, h4⟩
theorem iw {r l i : Int} (h : idOk r l i = true) : 0 ≤ i * qvl l ∧ i * qvl l ≤ 256 := by
  obtain ⟨_, _, h2, h3, h4⟩ := qlc h
  have h5 := (qqp h2).2
  have h6 := qvn l
  have h7 : i ≤ 16 := by omega
  refine ⟨Int.mul_nonneg h3 h6.1, ?_⟩
  calc i * qvl l ≤ 16 * qvl l := Int.mul_le_mul_of_nonneg_right h7 h6.1
    _ ≤ 16 * 16 := Int.mul_le_mul_of_nonneg_left h6.2 (by omega)
theorem qt1 (r l i : Int) : -1 ≤ qt0 r l i ∧ qt0 r l i ≤ 1000 := by
  unfold qt0
  cases h : idOk r l i
  · simp
  · have := iw h; have := qlc h
    simp; omega
theorem qt3 {r l i : Int} (h : idOk r l i = true) : IntKind.wrap .i64 (IntKind.wrap .i64 (r * (16 : Int)) + IntKind.wrap .i64 (i * qvl l)) = qt0 r l i := by
  have h1 := iw h; have h2 := qlc h
  rw [qvt (x := r * 16) (by omega) (by omega), qvt (x := i * qvl l) (by omega) (by omega), qvt (by omega) (by omega)]
  simp [qt0, h]
theorem qd2 (k : Nat) (hk : 2000000 ≤ k) (a0 : Int) (a1 : Int) (a2 : Int) : go (k + 3) spec_StartOf [(.agg [(.int .i64 (a0)), (.int .i64 (a1)), (.int .i64 (a2))])] = some [.int .i64 (qt0 a0 a1 a2)] := by
  rw [qjc]
  simp (disch := omega) only [qdr, bit, qd4, qa6, nth0, qu2, qu1]
  cases h : idOk a0 a1 a2
  · simp [qt0, h]
  · rw [qt3 h]; rfl
theorem qby (k : Nat) (hk : 2000000 ≤ k) (a0 : Int) (a1 : Int) (a2 : Int) : go (k + 4) impl_StartOf [(.agg [(.int .i64 (a0)), (.int .i64 (a1)), (.int .i64 (a2))])] = some [.int .i64 (qt0 a0 a1 a2)] := by
  rw [qhg]
  simp (disch := omega) only [qbk, bit, qb0, qa6, nth0, qu2, qu1]
  cases h : idOk a0 a1 a2
  · simp [qt0, h]
  · rw [qt3 h]; rfl
theorem qkn (r l i : Int) : IntKind.wrap .i64 (qt0 r l i + qvl l) = qt0 r l i + qvl l := by
  have h1 := qt1 r l i; have h2 := qvn l
  exact qvt (by omega) (by omega)
theorem qeh (k : Nat) (hk : 2000000 ≤ k) (a0 : Int) (a1 : Int) (a2 : Int) : go (k + 4) spec_l04End [(.agg [(.int .i64 (a0)), (.int .i64 (a1)), (.int .i64 (a2))])] = some [.int .i64 (qt0 a0 a1 a2 + qvl a1)] := by
  rw [qjm]
  simp (disch := omega) only [qd2, qd4, qa6, nth0, qu2, qkn]
theorem qcf (k : Nat) (hk : 2000000 ≤ k) (a0 : Int) (a1 : Int) (a2 : Int) : go (k + 5) impl_endOf [(.agg [(.int .i64 (a0)), (.int .i64 (a1)), (.int .i64 (a2))])] = some [.int .i64 (qt0 a0 a1 a2 + qvl a1)] := by
  rw [qia]
  simp (disch := omega) only [qby, qb0, qa6, nth0, qu2, qkn]
abbrev Cell := Int × Int × Int
def qpm (roots : Int) : Int → List Cell → Bool
  | pos, [] => inR roots 1 8 && decide (pos = roots * 16)
  | pos, x :: rest => idOk x.1 x.2.1 x.2.2 && (decide (qt0 x.1 x.2.1 x.2.2 = pos) && qpm roots (qt0 x.1 x.2.1 x.2.2 + qvl x.2.1) rest)
theorem qpq (roots pos : Int) : cond (inR roots 1 8) (some [D.bool (decide (pos = IntKind.wrap .i64 (roots * (16 : Int))))]) (some [D.bool false]) = some [D.bool (qpm roots pos [])] := by
  unfold qpm
  cases h : inR roots 1 8
  · rfl
  · simp only [inR, Bool.and_eq_true, decide_eq_true_eq] at h
    rw [qvt (by omega) (by omega)]; rfl
theorem qor (k : Nat) (hk : 2000000 ≤ k) (fu : List (Nat × Nat)) (z : Bool) (l : List Cell) (roots : Int) (hl : (l.length : Int) ≤ 1048576) : ∀ (n i : Nat) (pos : Int), i ≤ l.length → l.length - i < n →
    lp (k + 4) spec_MeshOk [] fu 3 (n) (qsl pos (i : Int) z l roots) = some [.bool (qpm roots pos (l.drop i))]
  | 0, i, pos, hi, hn => by omega
  | n + 1, i, pos, hi, hn => by
    rw [qmr]
    by_cases h : i < l.length
    · rw [qgl h zz3]
      simp (disch := omega) only [nI, dT, Bool.and_true, Int.toNat_natCast, qdr, bit, qd2, qeh, qfg, qvt, qa6, nth0, qu2, qgc, qu1, qpm]
      rw [qor k hk fu z l roots hl n (i + 1) _ (by omega) (by omega)]
      simp only [qgd, qge, Bool.and_assoc]
    · rw [List.drop_of_length_le (by omega)]
      simp (disch := omega) only [nI, dF, dT, Bool.and_false, Int.toNat_natCast, bit, qfg, qvt, qga, qee, qa6, nth0, qu1]
      exact qpq roots pos
theorem qdy (k : Nat) (hk : 2000000 ≤ k) (a0 : Int) (a1z : Bool) (a1 : List (Int × Int × Int)) (hl : (a1.length : Int) ≤ 1048576) : go (k + 5) spec_MeshOk [(.agg [(.int .i64 (a0)), (.arr false (a1z) (.r3 (a1)))])] = some [.bool (qpm a0 0 a1)] := by
  rw [qi7]
  exact qor k hk _ _ a1 a0 hl _ 0 0 (by omega) (by omega)
theorem qnz (k : Nat) (hk : 2000000 ≤ k) (fu : List (Nat × Nat)) (z : Bool) (l : List Cell) (roots : Int) (hl : (l.length : Int) ≤ 1048576) : ∀ (n i : Nat) (pos : Int), i ≤ l.length → l.length - i < n →
    lp (k + 5) impl_MeshOk [] fu 3 (n) (qrq pos (l.length : Int) (i : Int) z l roots) = some [.bool (qpm roots pos (l.drop i))]
  | 0, i, pos, hi, hn => by omega
  | n + 1, i, pos, hi, hn => by
    rw [qlw]
    by_cases h : i < l.length
    · rw [qgl h zz3]
      simp (disch := omega) only [dT, nI, Bool.and_true, Int.toNat_natCast, qbk, bit, qby, qcf, qfg, qvt, qa6, nth0, qu2, qu1, qgc, qpm]
      rw [qnz k hk fu z l roots hl n (i + 1) _ (by omega) (by omega)]
      simp only [qgd, qge, Bool.and_assoc]
    · rw [List.drop_of_length_le (by omega)]
      simp (disch := omega) only [dF, dT, nI, Bool.and_false, Int.toNat_natCast, bit, qfg, qvt, qga, qc8, qa6, nth0, qu1]
      exact qpq roots pos
theorem qbp (k : Nat) (hk : 2000000 ≤ k) (a0 : Int) (a1z : Bool) (a1 : List (Int × Int × Int)) (hl : (a1.length : Int) ≤ 1048576) : go (k + 6) impl_MeshOk [(.agg [(.int .i64 (a0)), (.arr false (a1z) (.r3 (a1)))])] = some [.bool (qpm a0 0 a1)] := by
  rw [qgz]
  exact qnz k hk _ _ a1 a0 hl _ 0 0 (by omega) (by omega)
theorem qci (k : Nat) (hk : 2000000 ≤ k) (a0 : Int) (a1z : Bool) (a1 : List (Int × Int × Int)) (b : Int) (hl : (a1.length : Int) ≤ 1048576) : go (k + 2) impl_Mesh_has [(.agg [(.int .i64 (a0)), (.arr false (a1z) (.r3 (a1)))]), (.int .i64 (b))] = some [.bool (inR b 0 ((a1.length : Int) - 1))] := by
  rw [qg3]
  simp (disch := omega) only [nI, qvt, qc8, bit, qa6, nth0, qu1]
end Go.Proofs.YtoldpdhhfmlckaaGreat
end
section
namespace Go.Proofs.YtoldpdhhfmlckaaGreat
open Go.Ev
def qsm (x0 : Int) (z1 : Bool) (l2 : List (Int × Int × Int)) (z3 : Bool) (l4 : List Int) (z5 : Bool) (l6 : List Int) (z7 : Bool) (l8 : List Int) (x9 : Int) : St := ⟨fill 84 [(1, (.ptr 4 (0) (0))), (3, (.int .i64 (x0)))], [], [(.arr false (z1) (.r3 (l2))), (.arr false (z3) (.ints .i64 (l4))), (.arr false (z5) (.ints .i64 (l6))), (.arr false (z7) (.ints .i64 (l8))), (.box true [(.int .i64 (x9)), (.sl 0 none), (.sl 1 none), (.sl 2 none), (.sl 3 none)])]⟩
def qsn (x0 : Int) (z1 : Bool) (l2 : List (Int × Int × Int)) (z3 : Bool) (l4 : List Int) (z5 : Bool) (l6 : List Int) (z7 : Bool) (l8 : List Int) (x9 : Int) : St := ⟨fill 84 [(1, (.ptr 4 (0) (0))), (4, (.int .i64 (x0)))], [], [(.arr false (z1) (.r3 (l2))), (.arr false (z3) (.ints .i64 (l4))), (.arr false (z5) (.ints .i64 (l6))), (.arr false (z7) (.ints .i64 (l8))), (.box true [(.int .i64 (x9)), (.sl 0 none), (.sl 1 none), (.sl 2 none), (.sl 3 none)])]⟩
theorem qjd (k : Nat) (a0 : Int) (a1z : Bool) (a1 : List (Int × Int × Int)) (a2z : Bool) (a2 : List Int) (a3z : Bool) (a3 : List Int) (a4z : Bool) (a4 : List Int) : go (k + 1) spec_StateOk [(.agg [(.int .i64 (a0)), (.arr false (a1z) (.r3 (a1))), (.arr false (a2z) (.ints .i64 (a2))), (.arr false (a3z) (.ints .i64 (a3))), (.arr false (a4z) (.ints .i64 (a4)))])] =
 (go k spec_IsBalanced [(.agg [(.int .i64 (a0)), (.arr false (a1z) (.r3 (a1)))])]).bind fun r0 =>
 cond (!bit (nth r0 0))
 (some [(.bool (false))])
 (cond (!decide (nI (List.length a2) = nI (List.length a1)))
 (some [(.bool (false))])
 (cond (!decide (nI (List.length a3) = nI (List.length a2)))
 (some [(.bool (false))])
 (cond (!decide (nI (List.length a4) = a0))
 (some [(.bool (false))])
 (lp k spec_StateOk [] [] 4 k (qsm (0 : Int) a1z a1 a2z a2 a3z a3 a4z a4 a0))))) := by kernel_rfl
theorem qms (k n : Nat) (fu : List (Nat × Nat)) (x0 : Int) (z1 : Bool) (l2 : List (Int × Int × Int)) (z3 : Bool) (l4 : List Int) (z5 : Bool) (l6 : List Int) (z7 : Bool) (l8 : List Int) (x9 : Int) : lp k spec_StateOk [] fu 4 (n + 1) (qsm x0 z1 l2 z3 l4 z5 l6 z7 l8 x9) =
 cond (decide (x0 < nI (List.length l4)))
 (cond (decide ((0 : Int) ≤ x0) && decide (x0 < nI (List.length l4)))
 ((go k spec_l01In [(.int .i64 (List.getD l4 (Int.toNat x0) (0 : Int))), (.int .i64 (0 : Int)), (.int .i64 ((10000000 : Int)))]).bind fun r0 =>
 cond (!bit (nth r0 0))
 (some [(.bool (false))])
 (cond (decide ((0 : Int) ≤ x0) && decide (x0 < nI (List.length l6)))
 (cond (decide ((0 : Int) ≤ x0) && decide (x0 < nI (List.length l4)))
 ((go k spec_l01In [(.int .i64 (List.getD l6 (Int.toNat x0) (0 : Int))), (.int .i64 (0 : Int)), (.int .i64 (IntKind.wrap .i64 ((1000 : Int) * List.getD l4 (Int.toNat x0) (0 : Int))))]).bind fun r1 =>
 cond (!bit (nth r1 0))
 (some [(.bool (false))])
 (lp k spec_StateOk [] fu 4 n (qsm (IntKind.wrap .i64 (x0 + (1 : Int))) z1 l2 z3 l4 z5 l6 z7 l8 x9)))
 (none))
 (none)))
 (none))
 (lp k spec_StateOk [] fu 9 k (qsn (0 : Int) z1 l2 z3 l4 z5 l6 z7 l8 x9)) := by kernel_rfl
theorem qmt (k n : Nat) (fu : List (Nat × Nat)) (x0 : Int) (z1 : Bool) (l2 : List (Int × Int × Int)) (z3 : Bool) (l4 : List Int) (z5 : Bool) (l6 : List Int) (z7 : Bool) (l8 : List Int) (x9 : Int) : lp k spec_StateOk [] fu 9 (n + 1) (qsn x0 z1 l2 z3 l4 z5 l6 z7 l8 x9) =
 cond (decide (x0 < nI (List.length l8)))
 (cond (decide ((0 : Int) ≤ x0) && decide (x0 < nI (List.length l8)))
 ((go k spec_l01In [(.int .i64 (List.getD l8 (Int.toNat x0) (0 : Int))), (.int .i64 (0 : Int)), (.int .i64 ((1000000 : Int)))]).bind fun r0 =>
 cond (!bit (nth r0 0))
 (some [(.bool (false))])
 (lp k spec_StateOk [] fu 9 n (qsn (IntKind.wrap .i64 (x0 + (1 : Int))) z1 l2 z3 l4 z5 l6 z7 l8 x9)))
 (none))
 ((go k spec_l07Sum [(.arr false (z3) (.ints .i64 (l4)))]).bind fun r1 =>
 some [(.bool (decide (D.toInt (nth r1 0) ≤ (10000000 : Int))))]) := by kernel_rfl
theorem qhh (k : Nat) (a0 : Int) (a1z : Bool) (a1 : List (Int × Int × Int)) (a2z : Bool) (a2 : List Int) (a3z : Bool) (a3 : List Int) (a4z : Bool) (a4 : List Int) : go (k + 1) impl_StateOk [(.agg [(.int .i64 (a0)), (.arr false (a1z) (.r3 (a1))), (.arr false (a2z) (.ints .i64 (a2))), (.arr false (a3z) (.ints .i64 (a3))), (.arr false (a4z) (.ints .i64 (a4)))])] =
 (go k impl_IsBalanced [(.agg [(.int .i64 (a0)), (.arr false (a1z) (.r3 (a1)))])]).bind fun r0 =>
 cond (bit (nth r0 0))
 ((go k impl_State_hasCells [(.agg [(.int .i64 (a0)), (.arr false (a1z) (.r3 (a1))), (.arr false (a2z) (.ints .i64 (a2))), (.arr false (a3z) (.ints .i64 (a3))), (.arr false (a4z) (.ints .i64 (a4)))])]).bind fun r1 =>
 some [(.bool (bit (nth r1 0)))])
 (some [(.bool (false))]) := by kernel_rfl
def qr0 (x0 x1 : Int) (z2 : Bool) (l3 : List (Int × Int × Int)) (z4 : Bool) (l5 : List Int) (z6 : Bool) (l7 : List Int) (z8 : Bool) (l9 : List Int) (x10 : Int) : St := ⟨fill 63 [(1, (.ptr 4 (0) (0))), (37, (.sl 1 none)), (38, (.int .i64 (x0))), (39, (.int .i64 (x1)))], [], [(.arr false (z2) (.r3 (l3))), (.arr false (z4) (.ints .i64 (l5))), (.arr false (z6) (.ints .i64 (l7))), (.arr false (z8) (.ints .i64 (l9))), (.box true [(.int .i64 (x10)), (.sl 0 none), (.sl 1 none), (.sl 2 none), (.sl 3 none)])]⟩
theorem qho (k : Nat) (a0 : Int) (a1z : Bool) (a1 : List (Int × Int × Int)) (a2z : Bool) (a2 : List Int) (a3z : Bool) (a3 : List Int) (a4z : Bool) (a4 : List Int) : go (k + 1) impl_State_hasCells [(.agg [(.int .i64 (a0)), (.arr false (a1z) (.r3 (a1))), (.arr false (a2z) (.ints .i64 (a2))), (.arr false (a3z) (.ints .i64 (a3))), (.arr false (a4z) (.ints .i64 (a4)))])] =
 cond (!decide (nI (List.length a2) = nI (List.length a1)))
 (some [(.bool (false))])
 (cond (!decide (nI (List.length a3) = nI (List.length a1)))
 (some [(.bool (false))])
 (cond (!decide (nI (List.length a4) = a0))
 (some [(.bool (false))])
 ((go k slices_ContainsFunc_int_int [(.arr false (a4z) (.ints .i64 (a4))), (.fn impl_State_hasCells_1 [])]).bind fun r0 =>
 cond (bit (nth r0 0))
 (some [(.bool (false))])
 (lp k impl_State_hasCells [] [] 5 k (qr0 (nI (List.length a2)) (0 : Int) a1z a1 a2z a2 a3z a3 a4z a4 a0))))) := by kernel_rfl
theorem ql6 (k n : Nat) (fu : List (Nat × Nat)) (x0 x1 : Int) (z2 : Bool) (l3 : List (Int × Int × Int)) (z4 : Bool) (l5 : List Int) (z6 : Bool) (l7 : List Int) (z8 : Bool) (l9 : List Int) (x10 : Int) : lp k impl_State_hasCells [] fu 5 (n + 1) (qr0 x0 x1 z2 l3 z4 l5 z6 l7 z8 l9 x10) =
 cond (decide (x1 < x0))
 (cond (decide ((0 : Int) ≤ x1) && decide (x1 < nI (List.length l5)))
 ((go k impl_within [(.int .i64 (List.getD l5 (Int.toNat x1) (0 : Int))), (.int .i64 (0 : Int)), (.int .i64 ((10000000 : Int)))]).bind fun r0 =>
 cond (!bit (nth r0 0))
 (some [(.bool (false))])
 (cond (decide ((0 : Int) ≤ x1) && decide (x1 < nI (List.length l7)))
 ((go k impl_within [(.int .i64 (List.getD l7 (Int.toNat x1) (0 : Int))), (.int .i64 (0 : Int)), (.int .i64 (IntKind.wrap .i64 ((1000 : Int) * List.getD l5 (Int.toNat x1) (0 : Int))))]).bind fun r1 =>
 cond (!bit (nth r1 0))
 (some [(.bool (false))])
 (lp k impl_State_hasCells [] fu 5 n (qr0 x0 (IntKind.wrap .i64 (x1 + (1 : Int))) z2 l3 z4 l5 z6 l7 z8 l9 x10)))
 (none)))
 (none))
 ((go k impl_sum [(.arr false (z4) (.ints .i64 (l5)))]).bind fun r2 =>
 some [(.bool (decide (D.toInt (nth r2 0) ≤ (10000000 : Int))))]) := by kernel_rfl
theorem qhp (k : Nat) (a : Int) : go (k + 1) impl_State_hasCells_1 [(.int .i64 (a))] =
 (go k impl_isBed [(.int .i64 (a))]).bind fun r0 =>
 some [(.bool (!bit (nth r0 0)))] := by kernel_rfl
theorem qic (k : Nat) (a : Int) : go (k + 1) impl_isBed [(.int .i64 (a))] =
 (go k impl_within [(.int .i64 (a)), (.int .i64 (0 : Int)), (.int .i64 ((1000000 : Int)))]).bind fun r0 =>
 some [(.bool (bit (nth r0 0)))] := by kernel_rfl
def qst (x0 x1 : Int) (z2 : Bool) (l3 : List Int) : St := ⟨fill 18 [(0, (.sl 0 none)), (3, (.int .i64 (x0))), (4, (.int .i64 (x1)))], [], [(.arr false (z2) (.ints .i64 (l3)))]⟩
theorem qjy (k : Nat) (az : Bool) (a : List Int) : go (k + 1) spec_l07Sum [(.arr false (az) (.ints .i64 (a)))] =
 lp k spec_l07Sum [] [] 3 k (qst (0 : Int) (0 : Int) az a) := by kernel_rfl
theorem qmz (k n : Nat) (fu : List (Nat × Nat)) (x0 x1 : Int) (z2 : Bool) (l3 : List Int) : lp k spec_l07Sum [] fu 3 (n + 1) (qst x0 x1 z2 l3) =
 cond (decide (x1 < nI (List.length l3)))
 (cond (decide ((0 : Int) ≤ x1) && decide (x1 < nI (List.length l3)))
 (lp k spec_l07Sum [] fu 3 n (qst (IntKind.wrap .i64 (x0 + List.getD l3 (Int.toNat x1) (0 : Int))) (IntKind.wrap .i64 (x1 + (1 : Int))) z2 l3))
 (none))
 (some [(.int .i64 (x0))]) := by kernel_rfl
def qsa (x0 x1 x2 : Int) (z3 : Bool) (l4 : List Int) : St := ⟨fill 17 [(3, (.int .i64 (x0))), (6, (.sl 0 none)), (7, (.int .i64 (x1))), (8, (.int .i64 (x2)))], [], [(.arr false (z3) (.ints .i64 (l4)))]⟩
theorem qih (k : Nat) (az : Bool) (a : List Int) : go (k + 1) impl_sum [(.arr false (az) (.ints .i64 (a)))] =
 lp k impl_sum [] [] 3 k (qsa (0 : Int) (nI (List.length a)) (0 : Int) az a) := by kernel_rfl
theorem qmg (k n : Nat) (fu : List (Nat × Nat)) (x0 x1 x2 : Int) (z3 : Bool) (l4 : List Int) : lp k impl_sum [] fu 3 (n + 1) (qsa x0 x1 x2 z3 l4) =
 cond (decide (x2 < x1))
 (cond (decide ((0 : Int) ≤ x2) && decide (x2 < nI (List.length l4)))
 (lp k impl_sum [] fu 3 n (qsa (IntKind.wrap .i64 (x0 + List.getD l4 (Int.toNat x2) (0 : Int))) x1 (IntKind.wrap .i64 (x2 + (1 : Int))) z3 l4))
 (none))
 (some [(.int .i64 (x0))]) := by kernel_rfl
def qsd (x0 x1 : Int) (z2 : Bool) (l3 : List Int) : St := ⟨fill 19 [(0, (.sl 0 none)), (1, (.fn impl_State_hasCells_1 [])), (7, (.int .i64 (x0))), (8, (.int .i64 (x1)))], [], [(.arr false (z2) (.ints .i64 (l3)))]⟩
theorem qiq (k : Nat) (v0 : Bool) (v1 : List Int) : go (k + 1) slices_IndexFunc_int_int [(.arr false (v0) (.ints .i64 (v1))), (.fn impl_State_hasCells_1 [])] =
 lp k slices_IndexFunc_int_int [] [] 2 k (qsd (nI (List.length v1)) (0 : Int) v0 v1) := by kernel_rfl
theorem qmj (k n : Nat) (fu : List (Nat × Nat)) (x0 x1 : Int) (z2 : Bool) (l3 : List Int) : lp k slices_IndexFunc_int_int [] fu 2 (n + 1) (qsd x0 x1 z2 l3) =
 cond (decide (x1 < x0))
 (cond (decide ((0 : Int) ≤ x1) && decide (x1 < nI (List.length l3)))
 ((go k impl_State_hasCells_1 [(.int .i64 (List.getD l3 (Int.toNat x1) (0 : Int)))]).bind fun r0 =>
 cond (bit (nth r0 0))
 (some [(.int .i64 (x1))])
 (lp k slices_IndexFunc_int_int [] fu 2 n (qsd x0 (IntKind.wrap .i64 (x1 + (1 : Int))) z2 l3)))
 (none))
 (some [(.int .i64 ((-1 : Int)))]) := by kernel_rfl
theorem qin (k : Nat) (v0 : Bool) (v1 : List Int) : go (k + 1) slices_ContainsFunc_int_int [(.arr false (v0) (.ints .i64 (v1))), (.fn impl_State_hasCells_1 [])] =
 (go k slices_IndexFunc_int_int [(.arr false (v0) (.ints .i64 (v1))), (.fn impl_State_hasCells_1 [])]).bind fun r0 =>
 some [(.bool (decide ((0 : Int) ≤ D.toInt (nth r0 0))))] := by kernel_rfl
theorem qjl (k : Nat) (a0 : Int) (a1z : Bool) (a1 : List (Int × Int × Int)) : go (k + 1) spec_l04Copy [(.agg [(.int .i64 (a0)), (.arr false (a1z) (.r3 (a1)))])] =
 cond (decide (List.length ([] ++ a1) ≤ bigLen))
 (some [(.agg [(.int .i64 (a0)), (.arr true (false && decide (List.length ([] ++ a1) = 0)) (.r3 ([] ++ a1)))])])
 (none) := by kernel_rfl
theorem qjw (k : Nat) (a0 : Int) (a1z : Bool) (a1 : List (Int × Int × Int)) (a2z : Bool) (a2 : List Int) (a3z : Bool) (a3 : List Int) (a4z : Bool) (a4 : List Int) : go (k + 1) spec_l07Copy [(.agg [(.int .i64 (a0)), (.arr false (a1z) (.r3 (a1))), (.arr false (a2z) (.ints .i64 (a2))), (.arr false (a3z) (.ints .i64 (a3))), (.arr false (a4z) (.ints .i64 (a4)))])] =
 (go k spec_l04Copy [(.agg [(.int .i64 (a0)), (.arr false (a1z) (.r3 (a1)))])]).bind fun r0 =>
 cond (decide (List.length ([] ++ a2) ≤ bigLen))
 (cond (decide (List.length ([] ++ a3) ≤ bigLen))
 (cond (decide (List.length ([] ++ a4) ≤ bigLen))
 (some [(.agg [(.int .i64 (D.toInt (D.cell 0 (nth r0 0)))), (.arr true (D.nil (D.cell 1 (nth r0 0))) (.r3 (D.r3 (D.cell 1 (nth r0 0))))), (.arr true (false && decide (List.length ([] ++ a2) = 0)) (.ints .i64 ([] ++ a2))), (.arr true (false && decide (List.length ([] ++ a3) = 0)) (.ints .i64 ([] ++ a3))), (.arr true (false && decide (List.length ([] ++ a4) = 0)) (.ints .i64 ([] ++ a4)))])])
 (none))
 (none))
 (none) := by kernel_rfl
theorem qh7 (k : Nat) (a0 : Int) (a1z : Bool) (a1 : List (Int × Int × Int)) : go (k + 1) impl_copyMesh [(.agg [(.int .i64 (a0)), (.arr false (a1z) (.r3 (a1)))])] =
 (go k slices_Clone_impl_Id_impl_Id [(.arr false (a1z) (.r3 (a1)))]).bind fun r0 =>
 some [(.agg [(.int .i64 (a0)), (.arr true (D.nil (nth r0 0)) (.r3 (D.r3 (nth r0 0))))])] := by kernel_rfl
theorem qh8 (k : Nat) (a0 : Int) (a1z : Bool) (a1 : List (Int × Int × Int)) (a2z : Bool) (a2 : List Int) (a3z : Bool) (a3 : List Int) (a4z : Bool) (a4 : List Int) : go (k + 1) impl_copyState [(.agg [(.int .i64 (a0)), (.arr false (a1z) (.r3 (a1))), (.arr false (a2z) (.ints .i64 (a2))), (.arr false (a3z) (.ints .i64 (a3))), (.arr false (a4z) (.ints .i64 (a4)))])] =
 (go k impl_copyMesh [(.agg [(.int .i64 (a0)), (.arr false (a1z) (.r3 (a1)))])]).bind fun r0 =>
 (go k slices_Clone_int_int [(.arr false (a2z) (.ints .i64 (a2)))]).bind fun r1 =>
 (go k slices_Clone_int_int [(.arr false (a3z) (.ints .i64 (a3)))]).bind fun r2 =>
 (go k slices_Clone_int_int [(.arr false (a4z) (.ints .i64 (a4)))]).bind fun r3 =>
 some [(.agg [(.int .i64 (D.toInt (D.cell 0 (nth r0 0)))), (.arr true (D.nil (D.cell 1 (nth r0 0))) (.r3 (D.r3 (D.cell 1 (nth r0 0))))), (.arr true (D.nil (nth r1 0)) (.ints .i64 (D.ints (nth r1 0)))), (.arr true (D.nil (nth r2 0)) (.ints .i64 (D.ints (nth r2 0)))), (.arr true (D.nil (nth r3 0)) (.ints .i64 (D.ints (nth r3 0))))])] := by kernel_rfl
theorem qim (k : Nat) (az : Bool) (a : List Int) : go (k + 1) slices_Clone_int_int [(.arr false (az) (.ints .i64 (a)))] =
 cond (az)
 (some [(.arr true (true) (.ints .i64 ([])))])
 (cond (decide (List.length ([] ++ a) ≤ bigLen))
 (some [(.arr true (false && decide (List.length ([] ++ a) = 0)) (.ints .i64 ([] ++ a)))])
 (none)) := by kernel_rfl
theorem qil (k : Nat) (az : Bool) (a : List (Int × Int × Int)) : go (k + 1) slices_Clone_impl_Id_impl_Id [(.arr false (az) (.r3 (a)))] =
 cond (az)
 (some [(.arr true (true) (.r3 ([])))])
 (cond (decide (List.length ([] ++ a) ≤ bigLen))
 (some [(.arr true (false && decide (List.length ([] ++ a) = 0)) (.r3 ([] ++ a)))])
 (none)) := by kernel_rfl
def qsc (x0 x1 : Int) (z2 : Bool) (l3 : List Int) (z4 : Bool) (l5 : List Int) : St := ⟨fill 26 [(0, (.sl 0 none)), (1, (.sl 1 none)), (12, (.int .i64 (x0))), (13, (.int .i64 (x1)))], [], [(.arr false (z2) (.ints .i64 (l3))), (.arr false (z4) (.ints .i64 (l5)))]⟩
theorem qip (k : Nat) (az : Bool) (a : List Int) (bz : Bool) (b : List Int) : go (k + 1) slices_Equal_int_int [(.arr false (az) (.ints .i64 (a))), (.arr false (bz) (.ints .i64 (b)))] =
 cond (!decide (nI (List.length a) = nI (List.length b)))
 (some [(.bool (false))])
 (lp k slices_Equal_int_int [] [] 4 k (qsc (nI (List.length a)) (0 : Int) az a bz b)) := by kernel_rfl
theorem qmi (k n : Nat) (fu : List (Nat × Nat)) (x0 x1 : Int) (z2 : Bool) (l3 : List Int) (z4 : Bool) (l5 : List Int) : lp k slices_Equal_int_int [] fu 4 (n + 1) (qsc x0 x1 z2 l3 z4 l5) =
 cond (decide (x1 < x0))
 (cond (decide ((0 : Int) ≤ x1) && decide (x1 < nI (List.length l3)))
 (cond (decide ((0 : Int) ≤ x1) && decide (x1 < nI (List.length l5)))
 (cond (!decide (List.getD l3 (Int.toNat x1) (0 : Int) = List.getD l5 (Int.toNat x1) (0 : Int)))
 (some [(.bool (false))])
 (lp k slices_Equal_int_int [] fu 4 n (qsc x0 (IntKind.wrap .i64 (x1 + (1 : Int))) z2 l3 z4 l5)))
 (none))
 (none))
 (some [(.bool (true))]) := by kernel_rfl
end Go.Proofs.YtoldpdhhfmlckaaGreat
end
section
namespace Go.Proofs.YtoldpdhhfmlckaaGreat
open Go.Ev
theorem qgb {α : Type} (a : Bool) (x y : α) : cond (!a) x y = cond a y x := by cases a <;> rfl
theorem qf9 {α : Type} (a b : Bool) (x y : α) : cond a (cond b x y) y = cond (a && b) x y := by cases a <;> rfl
abbrev qnj (l : List Cell) (i : Nat) : Int := (l.getD i zz3).2.1
def qab (l : List Cell) : Prop := ∀ i, 0 ≤ qnj l i ∧ qnj l i ≤ 4
theorem qpt : ∀ (l : List Cell) (r p : Int), qpm r p l = true → ∀ i, 0 ≤ qnj l i ∧ qnj l i ≤ 4
  | [], r, p, h, i => by simp [qnj]
  | x :: l, r, p, h, i => by
    simp only [qpm, Bool.and_eq_true] at h
    cases i with
    | zero => have := lev0 (qlc h.1).2.2.1; simpa [qnj] using this
    | succ i => have := qpt l r _ h.2.2 i; simpa [qnj] using this
def qu7 (l : List Cell) : Nat → Nat → Int
  | 0, _ => -1
  | n + 1, i => if 1 < qnj l i - qnj l (i + 1) ∨ qnj l i - qnj l (i + 1) < -1 then (i : Int) else qu7 l n (i + 1)
def unb (l : List Cell) : Int := qu7 l (l.length - 1) 0
theorem qb4 (k : Nat) (hk : 2000000 ≤ k) (a : Int) (h : -9223372036854775807 ≤ a) (h' : a ≤ 9223372036854775807) : go (k + 1) impl_absolute [(.int .i64 (a))] = some [.int .i64 (max (0 - a) a)] := by
  rw [qh5]; simp (disch := omega) only [qvt, imax]
theorem qoz (k : Nat) (hk : 2000000 ≤ k) (fu : List (Nat × Nat)) (z : Bool) (l : List Cell) (r : Int) (hl : (l.length : Int) ≤ 1048576) (hv : qab l) : ∀ (n i : Nat), i ≤ l.length → l.length - 1 - i < n →
    lp k spec_l05First [] fu 2 (n) (qsq (i : Int) z l r) = some [.int .i64 (qu7 l (l.length - 1 - i) i)]
  | 0, i, hi, hn => by omega
  | n + 1, i, hi, hn => by
    rw [qmw]
    by_cases h : i + 1 < l.length
    · have e := qoz k hk fu z l r hl hv n (i + 1) (by omega) (by omega)
      have h1 := hv i; have h2 := hv (i + 1)
      simp only [qnj] at h1 h2
      simp (disch := omega) only [qfg, qvt, nI, dT, Bool.and_true, Int.toNat_natCast, e, qgc]
      rw [show l.length - 1 - i = (l.length - 1 - (i + 1)) + 1 by omega, qu7]
      simp only [qnj]
      by_cases g : 1 < (l.getD i zz3).2.1 - (l.getD (i + 1) zz3).2.1
      · simp (disch := omega) only [dT, dF, qga, qgc]; rw [if_pos (Or.inl g)]
      · by_cases g2 : (l.getD i zz3).2.1 - (l.getD (i + 1) zz3).2.1 < -1
        · simp (disch := omega) only [dF, dT, qgc, qga]; rw [if_pos (Or.inr g2)]
        · simp (disch := omega) only [dF, qga]; rw [if_neg (not_or.2 ⟨g, g2⟩)]
    · simp (disch := omega) only [qfg, qvt, nI, dF, dT, Bool.true_and, Bool.and_false, Int.toNat_natCast, qga]
      rw [show l.length - 1 - i = 0 by omega]; rfl
theorem qem (k : Nat) (hk : 2000000 ≤ k) (a0 : Int) (a1z : Bool) (a1 : List (Int × Int × Int)) (hl : (a1.length : Int) ≤ 1048576) (hv : qab a1) : go (k + 1) spec_l05First [(.agg [(.int .i64 (a0)), (.arr false (a1z) (.r3 (a1)))])] = some [.int .i64 (unb a1)] := by
  rw [qjr]
  exact qoz k hk [] a1z a1 a0 hl hv _ 0 (by omega) (by omega)
theorem qoc (k : Nat) (hk : 2000000 ≤ k) (fu : List (Nat × Nat)) (z : Bool) (l : List Cell) (r : Int) (hl : (l.length : Int) ≤ 1048576) (hv : qab l) : ∀ (n i : Nat), i ≤ l.length → l.length - 1 - i < n →
    lp (k + 1) impl_Mesh_unbalanced [] fu 2 (n) (qrt ((l.length : Int) - 1) (i : Int) z l r) = some [.int .i64 (qu7 l (l.length - 1 - i) i)]
  | 0, i, hi, hn => by omega
  | n + 1, i, hi, hn => by
    rw [qlz]
    by_cases h : i + 1 < l.length
    · have e := qoc k hk fu z l r hl hv n (i + 1) (by omega) (by omega)
      have h1 := hv i; have h2 := hv (i + 1)
      simp only [qnj] at h1 h2
      simp (disch := omega) only [dT, nI, Bool.and_true, qfg, qvt, Int.toNat_natCast, qb4, e, qa6, nth0, qu2, qgc]
      rw [show l.length - 1 - i = (l.length - 1 - (i + 1)) + 1 by omega, qu7]
      simp only [qnj]
      by_cases g : 1 < (l.getD i zz3).2.1 - (l.getD (i + 1) zz3).2.1
      · simp (disch := omega) only [dT, qgc]; rw [if_pos (Or.inl g)]
      · by_cases g2 : (l.getD i zz3).2.1 - (l.getD (i + 1) zz3).2.1 < -1
        · simp (disch := omega) only [dT, qgc]; rw [if_pos (Or.inr g2)]
        · simp (disch := omega) only [dF, qga]; rw [if_neg (not_or.2 ⟨g, g2⟩)]
    · simp (disch := omega) only [dF, dT, nI, Bool.true_and, qfg, qvt, Bool.and_false, Int.toNat_natCast, qga]
      rw [show l.length - 1 - i = 0 by omega]; rfl
theorem qc7 (k : Nat) (hk : 2000000 ≤ k) (a0 : Int) (a1z : Bool) (a1 : List (Int × Int × Int)) (hl : (a1.length : Int) ≤ 1048576) (hv : qab a1) : go (k + 2) impl_Mesh_unbalanced [(.agg [(.int .i64 (a0)), (.arr false (a1z) (.r3 (a1)))])] = some [.int .i64 (unb a1)] := by
  rw [qg8]
  simp (disch := omega) only [nI, qvt]
  exact qoc k hk [] a1z a1 a0 hl hv _ 0 (by omega) (by omega)
def qa1 (r : Int) (l : List Cell) : Bool := qpm r 0 l && decide (unb l < 0)
theorem qdt (k : Nat) (hk : 2000000 ≤ k) (a0 : Int) (a1z : Bool) (a1 : List (Int × Int × Int)) (hl : (a1.length : Int) ≤ 1048576) : go (k + 6) spec_IsBalanced [(.agg [(.int .i64 (a0)), (.arr false (a1z) (.r3 (a1)))])] = some [.bool (qa1 a0 a1)] := by
  rw [qi1]
  simp (disch := omega) only [qdy, bit, qa6, nth0, qu1]
  unfold qa1
  cases h : qpm a0 0 a1
  · rfl
  · have hv : qab a1 := qpt _ _ _ h
    simp (disch := omega) only [qgc, Bool.true_and]
    rw [qem _ (by omega) _ _ _ hl hv]; simp (disch := omega) only [qa6, nth0, qu2]
theorem qbm (k : Nat) (hk : 2000000 ≤ k) (a0 : Int) (a1z : Bool) (a1 : List (Int × Int × Int)) (hl : (a1.length : Int) ≤ 1048576) : go (k + 7) impl_IsBalanced [(.agg [(.int .i64 (a0)), (.arr false (a1z) (.r3 (a1)))])] = some [.bool (qa1 a0 a1)] := by
  rw [qgv]
  simp (disch := omega) only [qbp, bit, qa6, nth0, qu1]
  unfold qa1
  cases h : qpm a0 0 a1
  · rfl
  · have hv : qab a1 := qpt _ _ _ h
    rw [qgc, qc7 _ (by omega) _ _ _ hl hv]; simp (disch := omega) only [qa6, nth0, qu2, Bool.true_and]
def isum : List Int → Int
  | [] => 0
  | x :: l => x + isum l
theorem qlm {B : Int} : ∀ (l : List Int), (∀ x ∈ l, 0 ≤ x ∧ x ≤ B) → 0 ≤ isum l ∧ isum l ≤ B * l.length
  | [], h => by simp [isum]
  | x :: l, h => by
    have := qlm l fun y hy => h y (by simp [hy])
    have h2 := h x (by simp)
    simp only [isum, List.length_cons, Int.natCast_add, Int.natCast_one, Int.mul_add, Int.mul_one]; omega
theorem qll {B : Int} (hB : 0 ≤ B) : ∀ (l : List Int) (i : Nat), (∀ x ∈ l, 0 ≤ x ∧ x ≤ B) → 0 ≤ isum (l.drop i) ∧ isum (l.drop i) ≤ isum l
  | [], i, h => by simp [isum]
  | x :: l, 0, h => by have := qlm (x :: l) h; simp only [List.drop_zero]; omega
  | x :: l, i + 1, h => by
    have := qll hB l i fun y hy => h y (by simp [hy])
    have h2 := h x (by simp)
    simp only [isum, List.drop_succ_cons]; omega
theorem qo2 (k : Nat) (hk : 2000000 ≤ k) (fu : List (Nat × Nat)) (z : Bool) (l : List Int) (hl : (l.length : Int) ≤ 1048576) (hb : ∀ x ∈ l, 0 ≤ x ∧ x ≤ 1000000000000) : ∀ (n i : Nat) (s : Int), i ≤ l.length → l.length - i < n → s + isum (l.drop i) = isum l → 0 ≤ s →
    lp k spec_l07Sum [] fu 3 (n) (qst s (i : Int) z l) = some [.int .i64 (isum l)]
  | 0, i, s, hi, hn, hs, h0 => by omega
  | n + 1, i, s, hi, hn, hs, h0 => by
    rw [qmz]
    by_cases h : i < l.length
    · rw [qgl h 0] at hs
      simp only [isum] at hs
      have h1 := qlm l hb
      have h2 := qll (by omega) l (i + 1) hb
      have h3 := hb _ (qk1 h 0)
      simp (disch := omega) only [nI, dT, Bool.and_true, Int.toNat_natCast, qvt, qfg, qgc]
      exact qo2 k hk fu z l hl hb n (i + 1) _ (by omega) (by omega) (by omega) (by omega)
    · rw [List.drop_of_length_le (by omega)] at hs
      simp only [isum] at hs
      simp (disch := omega) only [nI, dF, dT, Bool.and_false, Int.toNat_natCast, qfg, qvt, qga]
      rw [show s = isum l by omega]
theorem qet (k : Nat) (hk : 2000000 ≤ k) (az : Bool) (a : List Int) (hl : (a.length : Int) ≤ 1048576) (hb : ∀ x ∈ a, 0 ≤ x ∧ x ≤ 1000000000000) : go (k + 1) spec_l07Sum [(.arr false (az) (.ints .i64 (a)))] = some [.int .i64 (isum a)] := by
  rw [qjy]
  exact qo2 k hk [] az a hl hb _ 0 0 (by omega) (by omega) (by simp) (by omega)
theorem qob (k : Nat) (hk : 2000000 ≤ k) (fu : List (Nat × Nat)) (z : Bool) (l : List Int) (hl : (l.length : Int) ≤ 1048576) (hb : ∀ x ∈ l, 0 ≤ x ∧ x ≤ 1000000000000) : ∀ (n i : Nat) (s : Int), i ≤ l.length → l.length - i < n → s + isum (l.drop i) = isum l → 0 ≤ s →
    lp k impl_sum [] fu 3 (n) (qsa s (l.length : Int) (i : Int) z l) = some [.int .i64 (isum l)]
  | 0, i, s, hi, hn, hs, h0 => by omega
  | n + 1, i, s, hi, hn, hs, h0 => by
    rw [qmg]
    by_cases h : i < l.length
    · rw [qgl h 0] at hs
      simp only [isum] at hs
      have h1 := qlm l hb
      have h2 := qll (by omega) l (i + 1) hb
      have h3 := hb _ (qk1 h 0)
      simp (disch := omega) only [dT, nI, Bool.and_true, Int.toNat_natCast, qvt, qfg, qgc]
      exact qob k hk fu z l hl hb n (i + 1) _ (by omega) (by omega) (by omega) (by omega)
    · rw [List.drop_of_length_le (by omega)] at hs
      simp only [isum] at hs
      simp (disch := omega) only [dF, dT, nI, Bool.and_false, Int.toNat_natCast, qfg, qvt, qga]
      rw [show s = isum l by omega]
theorem qc4 (k : Nat) (hk : 2000000 ≤ k) (az : Bool) (a : List Int) (hl : (a.length : Int) ≤ 1048576) (hb : ∀ x ∈ a, 0 ≤ x ∧ x ≤ 1000000000000) : go (k + 1) impl_sum [(.arr false (az) (.ints .i64 (a)))] = some [.int .i64 (isum a)] := by
  rw [qih]
  exact qob k hk [] az a hl hb _ 0 0 (by omega) (by omega) (by simp) (by omega)
def qpc : List Int → List Int → Bool
  | m :: ms, t :: ts => inR m 0 10000000 && (inR t 0 (1000 * m) && qpc ms ts)
  | _, _ => true
theorem qpe : ∀ (ms ts : List Int), ms.length = ts.length → qpc ms ts = true → (∀ x ∈ ms, 0 ≤ x ∧ x ≤ 10000000) ∧ (∀ x ∈ ts, 0 ≤ x ∧ x ≤ 10000000000)
  | [], ts, hl, h => by cases ts <;> simp_all
  | m :: ms, [], hl, h => by simp at hl
  | m :: ms, t :: ts, hl, h => by
    simp only [qpc, Bool.and_eq_true, qle] at h
    have := qpe ms ts (by simpa using hl) h.2.2
    refine ⟨fun x hx => ?_, fun x hx => ?_⟩
    · rcases List.mem_cons.1 hx with rfl | hx
      · exact h.1
      · exact this.1 x hx
    · rcases List.mem_cons.1 hx with rfl | hx
      · omega
      · exact this.2 x hx
theorem qpd : ∀ (ms ts : List Int), ms.length = ts.length → qpc ms ts = true → ∀ i, 0 ≤ ms.getD i 0 ∧ ms.getD i 0 ≤ 10000000 ∧ 0 ≤ ts.getD i 0 ∧ ts.getD i 0 ≤ 1000 * ms.getD i 0
  | [], ts, hl, h, i => by cases ts <;> simp_all
  | m :: ms, [], hl, h, i => by simp at hl
  | m :: ms, t :: ts, hl, h, i => by
    simp only [qpc, Bool.and_eq_true, qle] at h
    cases i with
    | zero => simp; omega
    | succ i => have := qpd ms ts (by simpa using hl) h.2.2 i; simpa using this
def qa3 : List Int → Bool
  | [] => true
  | b :: l => inR b 0 1000000 && qa3 l
theorem qa4 : ∀ (l : List Int), qa3 l = true → ∀ x ∈ l, 0 ≤ x ∧ x ≤ 1000000
  | [], h, x, hx => by cases hx
  | b :: l, h, x, hx => by
    simp only [qa3, Bool.and_eq_true, qle] at h
    rcases List.mem_cons.1 hx with rfl | hx
    · exact h.1
    · exact qa4 l h.2 x hx
def stOk (r : Int) (l : List Cell) (m t b : List Int) : Bool :=
  qa1 r l && (decide (m.length = l.length) && (decide (t.length = l.length) && (decide ((b.length : Int) = r) && (qpc m t && (qa3 b && decide (isum m ≤ 10000000))))))
theorem qot (k : Nat) (hk : 2000000 ≤ k) (fu : List (Nat × Nat)) (r : Int) (z1 z2 z3 z4 : Bool) (l : List Cell) (m t b : List Int) (hm : (m.length : Int) ≤ 1048576) (hb : (b.length : Int) ≤ 1048576) (hx : ∀ x ∈ m, 0 ≤ x ∧ x ≤ 10000000) : ∀ (n i : Nat), i ≤ b.length → b.length - i < n →
    lp (k + 6) spec_StateOk [] fu 9 (n) (qsn (i : Int) z1 l z2 m z3 t z4 b r) = some [.bool (qa3 (b.drop i) && decide (isum m ≤ 10000000))]
  | 0, i, hi, hn => by omega
  | n + 1, i, hi, hn => by
    rw [qmt]
    by_cases h : i < b.length
    · rw [qgl h 0]
      have e := qot k hk fu r z1 z2 z3 z4 l m t b hm hb hx n (i + 1) (by omega) (by omega)
      simp (disch := omega) only [nI, dT, Bool.and_true, Int.toNat_natCast, qee, bit, qfg, qvt, e, qgd, qa6, nth0, qu1, qgc, qa3, Bool.and_assoc]
    · rw [List.drop_of_length_le (by omega)]
      have hx' : ∀ x ∈ m, 0 ≤ x ∧ x ≤ 1000000000000 := fun x hh => by have := hx x hh; omega
      rw [show decide ((i : Int) < nI b.length) = false by apply dF; simp only [nI]; omega, qga, qet _ (by omega) _ _ hm hx']
      simp (disch := omega) only [qa6, nth0, qu2, qa3, Bool.true_and]
theorem qos (k : Nat) (hk : 2000000 ≤ k) (fu : List (Nat × Nat)) (r : Int) (z1 z2 z3 z4 : Bool) (l : List Cell) (m t b : List Int) (hm : (m.length : Int) ≤ 1048576) (ht : t.length = m.length) : ∀ (n i : Nat), i ≤ m.length → m.length - i < n →
    lp (k + 6) spec_StateOk [] fu 4 (n) (qsm (i : Int) z1 l z2 m z3 t z4 b r) = cond (qpc (m.drop i) (t.drop i)) (lp (k + 6) spec_StateOk [] fu 9 (k + 6) (qsn 0 z1 l z2 m z3 t z4 b r)) (some [.bool false])
  | 0, i, hi, hn => by omega
  | n + 1, i, hi, hn => by
    rw [qms]
    by_cases h : i < m.length
    · rw [qgl h 0, qgl (l := t) (by omega : i < t.length) 0]
      have e := qos k hk fu r z1 z2 z3 z4 l m t b hm ht n (i + 1) (by omega) (by omega)
      by_cases h1 : inR (m.getD i 0) 0 10000000 = true
      · have h2 := qle.1 h1
        simp (disch := omega) only [nI, dT, Bool.and_true, Int.toNat_natCast, qee, h1, bit, qvt, qfg, e, qgb, qf9, qa6, nth0, qu1, qgc, Bool.true_and, qpc]
      · have h1 : inR (m.getD i 0) 0 10000000 = false := by simpa using h1
        simp (disch := omega) only [nI, dT, Bool.and_true, Int.toNat_natCast, qee, h1, bit, qfg, qvt, qa6, nth0, qu1, qgc, Bool.not_false, qpc, Bool.false_and, qga]
    · rw [List.drop_of_length_le (by omega), List.drop_of_length_le (by omega)]
      simp (disch := omega) only [nI, dF, dT, Bool.and_false, Int.toNat_natCast, bit, qfg, qvt, qga, qpc, qgc]
theorem qd3 (k : Nat) (hk : 2000000 ≤ k) (a0 : Int) (a1z : Bool) (a1 : List (Int × Int × Int)) (a2z : Bool) (a2 : List Int) (a3z : Bool) (a3 : List Int) (a4z : Bool) (a4 : List Int) (hl : (a1.length : Int) ≤ 1048576) (hb : (a4.length : Int) ≤ 1048576) : go (k + 7) spec_StateOk [(.agg [(.int .i64 (a0)), (.arr false (a1z) (.r3 (a1))), (.arr false (a2z) (.ints .i64 (a2))), (.arr false (a3z) (.ints .i64 (a3))), (.arr false (a4z) (.ints .i64 (a4)))])] = some [.bool (stOk a0 a1 a2 a3 a4)] := by
  rw [qjd]
  simp (disch := omega) only [qdt, bit, nI, qa6, nth0, qu1]
  unfold stOk
  cases qa1 a0 a1
  · rfl
  by_cases h1 : a2.length = a1.length
  case neg => simp (disch := omega) only [Bool.not_true, dF, Bool.not_false, qgc, qga, Bool.false_and, Bool.and_false]
  by_cases h2 : a3.length = a1.length
  case neg => simp (disch := omega) only [Bool.not_true, dT, dF, Bool.not_false, qgc, qga, Bool.false_and, Bool.and_false]
  by_cases h3 : (a4.length : Int) = a0
  case neg => simp (disch := omega) only [Bool.not_true, dT, dF, Bool.not_false, qgc, qga, Bool.false_and, Bool.and_false]
  simp (disch := omega) only [Bool.not_true, dT, qga, Bool.true_and]
  refine Eq.trans (qos k hk [] a0 a1z a2z a3z a4z a1 a2 a3 a4 (by omega) (by omega) _ 0 (by omega) (by omega)) ?_
  simp only [List.drop_zero]
  cases h4 : qpc a2 a3
  · rfl
  · have hx := (qpe a2 a3 (by omega) h4).1
    have e := qot k hk [] a0 a1z a2z a3z a4z a1 a2 a3 a4 (by omega) hb hx (k + 6) 0 (by omega) (by omega)
    simp only [List.drop_zero] at e
    simp only [qgc, Bool.true_and, dT (h1), dT (h2), dT (h3), decide_true]
    exact e
theorem qcl (k : Nat) (hk : 2000000 ≤ k) (a : Int) : go (k + 2) impl_isBed [(.int .i64 (a))] = some [.bool (inR a 0 1000000)] := by
  rw [qic]; simp (disch := omega) only [qc8, bit, qa6, nth0, qu1]
theorem qck (k : Nat) (hk : 2000000 ≤ k) (a : Int) : go (k + 3) impl_State_hasCells_1 [(.int .i64 (a))] = some [.bool (!inR a 0 1000000)] := by
  rw [qhp]; simp (disch := omega) only [qcl, bit, qa6, nth0, qu1]
theorem qod (k : Nat) (hk : 2000000 ≤ k) (fu : List (Nat × Nat)) (z : Bool) (l : List Int) (hl : (l.length : Int) ≤ 1048576) : ∀ (n i : Nat), i ≤ l.length → l.length - i < n →
    ∃ j : Int, lp (k + 3) slices_IndexFunc_int_int [] fu 2 (n) (qsd (l.length : Int) (i : Int) z l) = some [.int .i64 j] ∧ decide (0 ≤ j) = !qa3 (l.drop i)
  | 0, i, hi, hn => by omega
  | n + 1, i, hi, hn => by
    rw [qmj]
    by_cases h : i < l.length
    · rw [qgl h 0]
      obtain ⟨j, e1, e2⟩ := qod k hk fu z l hl n (i + 1) (by omega) (by omega)
      simp (disch := omega) only [dT, nI, Bool.and_true, Int.toNat_natCast, qck, bit, qfg, qvt, e1, qa6, nth0, qu1, qgc, qa3]
      cases inR (l.getD i 0) 0 1000000
      · exact ⟨i, rfl, by rw [dT (by omega)]; rfl⟩
      · exact ⟨j, rfl, by rw [e2]; rfl⟩
    · rw [List.drop_of_length_le (by omega)]
      simp (disch := omega) only [dF, dT, nI, Bool.and_false, Int.toNat_natCast, bit, qfg, qvt, qga, qa3, Bool.not_true]
      exact ⟨-1, rfl, rfl⟩
theorem qbf (k : Nat) (hk : 2000000 ≤ k) (z : Bool) (l : List Int) (hl : (l.length : Int) ≤ 1048576) : go (k + 5) slices_ContainsFunc_int_int [.arr false z (.ints .i64 l), .fn impl_State_hasCells_1 []] = some [.bool (!qa3 l)] := by
  rw [qin, qiq]
  obtain ⟨j, e1, e2⟩ := qod k hk [] z l hl (k + 3) 0 (by omega) (by omega)
  have e1' := e1
  simp only [nI] at *
  rw [show ((0 : Nat) : Int) = 0 from rfl] at e1'
  rw [e1']
  simp (disch := omega) only [qa6, nth0, qu2]
  rw [show decide ((0 : Int) ≤ j) = !qa3 l from e2]
theorem qnx (k : Nat) (hk : 2000000 ≤ k) (fu : List (Nat × Nat)) (r : Int) (z1 z2 z3 z4 : Bool) (l : List Cell) (m t b : List Int) (hm : (m.length : Int) ≤ 1048576) (ht : t.length = m.length) (s : List D)
    (hs : qpc m t = true → go (k + 5) impl_sum [.arr false z2 (.ints .i64 m)] = some [.int .i64 (isum m)]) (P : Bool) : ∀ (n i : Nat), i ≤ m.length → m.length - i < n → (qpc (m.drop i) (t.drop i) = true → qpc m t = true) →
    lp (k + 5) impl_State_hasCells [] fu 5 (n) (qr0 (m.length : Int) (i : Int) z1 l z2 m z3 t z4 b r) = some [.bool (qpc (m.drop i) (t.drop i) && decide (isum m ≤ 10000000))]
  | 0, i, hi, hn, hq => by omega
  | n + 1, i, hi, hn, hq => by
    rw [ql6]
    by_cases h : i < m.length
    · rw [qgl h 0, qgl (l := t) (by omega : i < t.length) 0] at hq ⊢
      by_cases h1 : inR (m.getD i 0) 0 10000000 = true
      · have h2 := qle.1 h1
        by_cases h3 : inR (t.getD i 0) 0 (1000 * m.getD i 0) = true
        · have e := qnx k hk fu r z1 z2 z3 z4 l m t b hm ht s hs P n (i + 1) (by omega) (by omega) (fun hh => hq (by simp only [qpc, h1, h3, hh, Bool.and_self]))
          simp (disch := omega) only [dT, nI, Bool.and_true, Int.toNat_natCast, qc8, h1, bit, qvt, h3, qfg, e, qa6, nth0, qu1, Bool.not_true, qga, qgc, qpc, Bool.true_and]
        · have h3 : inR (t.getD i 0) 0 (1000 * m.getD i 0) = false := by simpa using h3
          simp (disch := omega) only [dT, nI, Bool.and_true, Int.toNat_natCast, qc8, h1, bit, qvt, h3, qfg, qa6, nth0, qu1, Bool.not_false, qgc, Bool.not_true, qga, qpc, Bool.false_and, Bool.and_false]
      · have h1 : inR (m.getD i 0) 0 10000000 = false := by simpa using h1
        simp (disch := omega) only [dT, nI, Bool.and_true, Int.toNat_natCast, qc8, h1, bit, qfg, qvt, qa6, nth0, qu1, qgc, Bool.not_false, qpc, Bool.false_and]
    · rw [List.drop_of_length_le (by omega), List.drop_of_length_le (by omega)] at hq ⊢
      have e := hs (hq rfl)
      simp (disch := omega) only [dF, dT, nI, Bool.and_false, Int.toNat_natCast, bit, qfg, qvt, qga, e, qa6, nth0, qu2, qpc, Bool.true_and]
theorem qcj (k : Nat) (hk : 2000000 ≤ k) (a0 : Int) (a1z : Bool) (a1 : List (Int × Int × Int)) (a2z : Bool) (a2 : List Int) (a3z : Bool) (a3 : List Int) (a4z : Bool) (a4 : List Int) (hl : (a1.length : Int) ≤ 1048576) (hb : (a4.length : Int) ≤ 1048576) : go (k + 6) impl_State_hasCells [(.agg [(.int .i64 (a0)), (.arr false (a1z) (.r3 (a1))), (.arr false (a2z) (.ints .i64 (a2))), (.arr false (a3z) (.ints .i64 (a3))), (.arr false (a4z) (.ints .i64 (a4)))])] = some [.bool (decide (a2.length = a1.length) && (decide (a3.length = a1.length) && (decide ((a4.length : Int) = a0) && (qpc a2 a3 && (qa3 a4 && decide (isum a2 ≤ 10000000))))))] := by
  rw [qho]
  by_cases h1 : a2.length = a1.length
  case neg => simp (disch := omega) only [nI, dF, Bool.not_false, bit, qgc, Bool.false_and]
  by_cases h2 : a3.length = a1.length
  case neg => simp (disch := omega) only [nI, dT, Bool.not_true, dF, Bool.not_false, bit, qgc, qga, Bool.false_and, Bool.and_false]
  by_cases h3 : (a4.length : Int) = a0
  case neg => simp (disch := omega) only [nI, dT, Bool.not_true, dF, Bool.not_false, bit, qgc, qga, Bool.false_and, Bool.and_false]
  simp (disch := omega) only [nI, dT, Bool.not_true, qbf, bit, qa6, nth0, qu1, qga, Bool.true_and]
  cases h5 : qa3 a4
  · cases qpc a2 a3 <;> rfl
  have e := qnx k hk [] a0 a1z a2z a3z a4z a1 a2 a3 a4 (by omega) (by omega) [] (fun hm => by
    have hx := (qpe a2 a3 (by omega) hm).1
    exact qc4 _ (by omega) _ _ (by omega) (fun x hh => by have := hx x hh; omega)) true (k + 5) 0 (by omega) (by omega) (fun h => h)
  simp only [List.drop_zero] at e
  simp only [Bool.not_true, qga, Bool.true_and]
  exact e
theorem qbz (k : Nat) (hk : 2000000 ≤ k) (a0 : Int) (a1z : Bool) (a1 : List (Int × Int × Int)) (a2z : Bool) (a2 : List Int) (a3z : Bool) (a3 : List Int) (a4z : Bool) (a4 : List Int) (hl : (a1.length : Int) ≤ 1048576) (hb : (a4.length : Int) ≤ 1048576) : go (k + 8) impl_StateOk [(.agg [(.int .i64 (a0)), (.arr false (a1z) (.r3 (a1))), (.arr false (a2z) (.ints .i64 (a2))), (.arr false (a3z) (.ints .i64 (a3))), (.arr false (a4z) (.ints .i64 (a4)))])] = some [.bool (stOk a0 a1 a2 a3 a4)] := by
  rw [qhh]
  simp (disch := omega) only [qbm, bit, qcj, qa6, nth0, qu1]
  unfold stOk
  cases qa1 a0 a1 <;> rfl
end Go.Proofs.YtoldpdhhfmlckaaGreat
end
section
namespace Go.Proofs.YtoldpdhhfmlckaaGreat
open Go.Ev
theorem qj5 (k : Nat) (a0 : Int) (a1z : Bool) (a1 : List (Int × Int × Int)) (a2z : Bool) (a2 : List Int) (a3z : Bool) (a3 : List Int) (a4z : Bool) (a4 : List Int) (b : Int) : go (k + 1) spec_l09Surface [(.agg [(.int .i64 (a0)), (.arr false (a1z) (.r3 (a1))), (.arr false (a2z) (.ints .i64 (a2))), (.arr false (a3z) (.ints .i64 (a3))), (.arr false (a4z) (.ints .i64 (a4)))]), (.int .i64 (b))] =
 cond (decide ((0 : Int) ≤ b) && decide (b < nI (List.length a1)))
 (cond (decide ((0 : Int) ≤ Prod.fst (List.getD a1 (Int.toNat b) zz3)) && decide (Prod.fst (List.getD a1 (Int.toNat b) zz3) < nI (List.length a4)))
 (cond (decide ((0 : Int) ≤ b) && decide (b < nI (List.length a2)))
 (cond (decide ((0 : Int) ≤ IntKind.wrap IntKind.u64 (Prod.fst (Prod.snd (List.getD a1 (Int.toNat b) zz3)))))
 (some [(.int .i64 (IntKind.wrap .i64 (List.getD a4 (Int.toNat (Prod.fst (List.getD a1 (Int.toNat b) zz3))) (0 : Int) + IntKind.wrap .i64 (List.getD a2 (Int.toNat b) (0 : Int) * (2 : Int) ^ shiftN .i64 (IntKind.wrap IntKind.u64 (Prod.fst (Prod.snd (List.getD a1 (Int.toNat b) zz3))))))))])
 (none))
 (none))
 (none))
 (none) := by kernel_rfl
theorem qh1 (k : Nat) (a0 : Int) (a1z : Bool) (a1 : List (Int × Int × Int)) (a2z : Bool) (a2 : List Int) (a3z : Bool) (a3 : List Int) (a4z : Bool) (a4 : List Int) (b : Int) : go (k + 1) impl_State_surface [(.agg [(.int .i64 (a0)), (.arr false (a1z) (.r3 (a1))), (.arr false (a2z) (.ints .i64 (a2))), (.arr false (a3z) (.ints .i64 (a3))), (.arr false (a4z) (.ints .i64 (a4)))]), (.int .i64 (b))] =
 cond (decide ((0 : Int) ≤ b) && decide (b < nI (List.length a1)))
 (cond (decide ((0 : Int) ≤ Prod.fst (List.getD a1 (Int.toNat b) zz3)) && decide (Prod.fst (List.getD a1 (Int.toNat b) zz3) < nI (List.length a4)))
 (cond (decide ((0 : Int) ≤ b) && decide (b < nI (List.length a2)))
 (cond (decide ((0 : Int) ≤ Prod.fst (Prod.snd (List.getD a1 (Int.toNat b) zz3))))
 (some [(.int .i64 (IntKind.wrap .i64 (List.getD a4 (Int.toNat (Prod.fst (List.getD a1 (Int.toNat b) zz3))) (0 : Int) + IntKind.wrap .i64 (List.getD a2 (Int.toNat b) (0 : Int) * (2 : Int) ^ shiftN .i64 (Prod.fst (Prod.snd (List.getD a1 (Int.toNat b) zz3)))))))])
 (none))
 (none))
 (none))
 (none) := by kernel_rfl
theorem qj3 (k : Nat) (a b : Int) : go (k + 1) spec_l09Gap [(.int .i64 (a)), (.int .i64 (b))] =
 cond (decide (b < a))
 (some [(.int .i64 (IntKind.wrap .i64 (a - b)))])
 (some [(.int .i64 (IntKind.wrap .i64 (b - a)))]) := by kernel_rfl

end Go.Proofs.YtoldpdhhfmlckaaGreat
end
section
namespace Go.Proofs.YtoldpdhhfmlckaaGreat
open Go.Ev
theorem qvm {l : Int} (h : inR l 0 4 = true) : 1 ≤ qvl l ∧ qvl l ≤ 16 := by
  rcases lev h with rfl | rfl | rfl | rfl | rfl <;> decide
theorem qvk {x : Cell} (h : idOk x.1 x.2.1 x.2.2 = true) : qt0 x.1 x.2.1 x.2.2 = x.1 * 16 + x.2.2 * qvl x.2.1 ∧ 0 ≤ x.2.2 * qvl x.2.1 ∧ 1 ≤ qvl x.2.1 := by
  have := qlc h
  exact ⟨by simp [qt0, h], (iw h).1, (qvm this.2.2.1).1⟩
theorem qpr : ∀ (l : List Cell) (r p : Int), qpm r p l = true → 1 ≤ r ∧ r ≤ 8 ∧ p + l.length ≤ 16 * r ∧ (∀ i, i < l.length → 0 ≤ (l.getD i zz3).1 ∧ (l.getD i zz3).1 < r ∧ idOk (l.getD i zz3).1 (l.getD i zz3).2.1 (l.getD i zz3).2.2 = true) ∧ (l = [] → p = 16 * r)
  | [], r, p, h => by
    simp only [qpm, Bool.and_eq_true, qle, decide_eq_true_eq] at h
    simp; omega
  | x :: l, r, p, h => by
    simp only [qpm, Bool.and_eq_true, decide_eq_true_eq] at h
    obtain ⟨h1, h2, h3⟩ := h
    have w := qvk h1
    have ih := qpr l r _ h3
    have ds := qlc h1
    refine ⟨ih.1, ih.2.1, by simp only [List.length_cons]; omega, fun i hi => ?_, by simp⟩
    cases i with
    | zero => simp only [List.getD_cons_zero]; refine ⟨by omega, by omega, h1⟩
    | succ i => simp only [List.getD_cons_succ]; exact ih.2.2.2.1 i (by simpa using hi)
theorem qps {l : List Cell} {r : Int} (h : qpm r 0 l = true) : 1 ≤ l.length ∧ l.length ≤ 128 := by
  have f := qpr l r 0 h
  cases l with
  | nil => have := f.2.2.2.2 rfl; omega
  | cons x l => simp only [List.length_cons] at f ⊢; omega
structure StF (r : Int) (l : List Cell) (m t b : List Int) : Prop where
  mesh : qpm r 0 l = true
  bal : unb l < 0
  ml : m.length = l.length
  tl : t.length = l.length
  bl : (b.length : Int) = r
  mt : qpc m t = true
  bed : qa3 b = true
  sum : isum m ≤ 10000000
theorem stF {r : Int} {l : List Cell} {m t b : List Int} : stOk r l m t b = true ↔ StF r l m t b := by
  unfold stOk qa1
  simp only [Bool.and_eq_true, decide_eq_true_eq]
  exact ⟨fun h => ⟨h.1.1, h.1.2, h.2.1, h.2.2.1, h.2.2.2.1, h.2.2.2.2.1, h.2.2.2.2.2.1, h.2.2.2.2.2.2⟩, fun h => ⟨⟨h.mesh, h.bal⟩, h.ml, h.tl, h.bl, h.mt, h.bed, h.sum⟩⟩
theorem shp {l : Int} (h : inR l 0 4 = true) : (2 : Int) ^ shiftN .i64 l = pow2 l := by
  rcases lev h with rfl | rfl | rfl | rfl | rfl <;> simp [sh0, sh1, sh2, sh3, sh4, p20, p21, p22, p23, p24]
theorem mulp {m l : Int} (h : inR l 0 4 = true) (h0 : 0 ≤ m) : m ≤ m * pow2 l ∧ m * pow2 l ≤ 16 * m := by
  rcases lev h with rfl | rfl | rfl | rfl | rfl <;> simp only [p20, p21, p22, p23, p24] <;> omega
section
variable {r : Int} {l : List Cell} {m t b : List Int}
theorem StF.len (F : StF r l m t b) : 1 ≤ l.length ∧ l.length ≤ 128 := qps F.mesh
theorem StF.rr (F : StF r l m t b) : 1 ≤ r ∧ r ≤ 8 := ⟨(qpr l r 0 F.mesh).1, (qpr l r 0 F.mesh).2.1⟩
theorem StF.lev (F : StF r l m t b) (i : Nat) : inR (l.getD i zz3).2.1 0 4 = true := by
  have := qpt l r 0 F.mesh i
  simp only [qnj] at this
  rw [qle]; exact this
theorem StF.root (F : StF r l m t b) {i : Nat} (h : i < l.length) : 0 ≤ (l.getD i zz3).1 ∧ (l.getD i zz3).1 < r := ⟨((qpr l r 0 F.mesh).2.2.2.1 i h).1, ((qpr l r 0 F.mesh).2.2.2.1 i h).2.1⟩
theorem StF.at (F : StF r l m t b) (i : Nat) : 0 ≤ m.getD i 0 ∧ m.getD i 0 ≤ 10000000 ∧ 0 ≤ t.getD i 0 ∧ t.getD i 0 ≤ 1000 * m.getD i 0 := qpd m t (by rw [F.ml, F.tl]) F.mt i
theorem StF.bedAt (F : StF r l m t b) (i : Nat) : 0 ≤ b.getD i 0 ∧ b.getD i 0 ≤ 1000000 := by
  by_cases h : i < b.length
  · exact qa4 b F.bed _ (qk1 h 0)
  · rw [qk0 (by omega)]; omega
theorem StF.mmem (F : StF r l m t b) : ∀ x ∈ m, 0 ≤ x ∧ x ≤ 1000000000000 := fun x hx => by have := (qpe m t (by rw [F.ml, F.tl]) F.mt).1 x hx; omega
theorem StF.tmem (F : StF r l m t b) : ∀ x ∈ t, 0 ≤ x ∧ x ≤ 1000000000000 := fun x hx => by have := (qpe m t (by rw [F.ml, F.tl]) F.mt).2 x hx; omega
theorem StF.msum (F : StF r l m t b) : 0 ≤ isum m ∧ isum m ≤ 10000000 := ⟨(qlm m F.mmem).1, F.sum⟩
theorem StF.tsum (F : StF r l m t b) : 0 ≤ isum t ∧ isum t ≤ 128000000000000 := by
  have h := qlm t F.tmem
  have := F.len; have := F.tl
  refine ⟨h.1, ?_⟩
  have : (t.length : Int) ≤ 128 := by omega
  calc isum t ≤ 1000000000000 * (t.length : Int) := h.2
    _ ≤ 1000000000000 * 128 := Int.mul_le_mul_of_nonneg_left this (by omega)
end
def surf (l : List Cell) (m b : List Int) (i : Nat) : Int := b.getD (l.getD i zz3).1.toNat 0 + m.getD i 0 * pow2 (l.getD i zz3).2.1
theorem quh {r : Int} {l : List Cell} {m t b : List Int} (F : StF r l m t b) (i : Nat) : 0 ≤ surf l m b i ∧ surf l m b i ≤ 161000000 := by
  have h1 := F.bedAt (l.getD i zz3).1.toNat
  have h2 := F.at i
  have h3 := mulp (F.lev i) h2.1
  unfold surf; omega
theorem qez (k : Nat) (hk : 2000000 ≤ k) (r : Int) (z1 z2 z3 z4 : Bool) (l : List Cell) (m t b : List Int) (F : StF r l m t b) (i : Nat) (hi : i < l.length) :
    go (k + 1) spec_l09Surface [.agg [.int .i64 r, .arr false z1 (.r3 l), .arr false z2 (.ints .i64 m), .arr false z3 (.ints .i64 t), .arr false z4 (.ints .i64 b)], .int .i64 (i : Int)] = some [.int .i64 (surf l m b i)] := by
  rw [qj5]
  have h1 := F.root hi; have h2 := F.ml; have h3 := F.bl; have h4 := F.lev i; have h5 := lev0 h4; have h6 := F.at i; have h7 := quh F i; have h8 := mulp h4 h6.1; have h9 := F.len
  unfold surf at h7 ⊢
  simp (disch := omega) only [dT, nI, Bool.and_true, Int.toNat_natCast, qvu, shp h4, qvt, qgc]
theorem qc5 (k : Nat) (hk : 2000000 ≤ k) (r : Int) (z1 z2 z3 z4 : Bool) (l : List Cell) (m t b : List Int) (F : StF r l m t b) (i : Nat) (hi : i < l.length) :
    go (k + 1) impl_State_surface [.agg [.int .i64 r, .arr false z1 (.r3 l), .arr false z2 (.ints .i64 m), .arr false z3 (.ints .i64 t), .arr false z4 (.ints .i64 b)], .int .i64 (i : Int)] = some [.int .i64 (surf l m b i)] := by
  rw [qh1]
  have h1 := F.root hi; have h2 := F.ml; have h3 := F.bl; have h4 := F.lev i; have h5 := lev0 h4; have h6 := F.at i; have h7 := quh F i; have h8 := mulp h4 h6.1; have h9 := F.len
  unfold surf at h7 ⊢
  simp (disch := omega) only [dT, nI, Bool.and_true, Int.toNat_natCast, shp h4, qvt, qgc]
def gap (a b : Int) : Int := if b < a then a - b else b - a
theorem qex (k : Nat) (hk : 2000000 ≤ k) (a : Int) (b : Int) (ha : -1000000000000 ≤ a ∧ a ≤ 1000000000000) (hb : -1000000000000 ≤ b ∧ b ≤ 1000000000000) : go (k + 1) spec_l09Gap [(.int .i64 (a)), (.int .i64 (b))] = some [.int .i64 (gap a b)] := by
  rw [qj3]
  unfold gap
  by_cases h : b < a
  · simp (disch := omega) only [dT, qvt, qgc]; rw [if_pos h]
  · simp (disch := omega) only [dF, qvt, qga]; rw [if_neg h]
end Go.Proofs.YtoldpdhhfmlckaaGreat
end
section
namespace Go.Proofs.YtoldpdhhfmlckaaGreat
open Go.Ev
def qlh (t lv : Int) : Bool := inR lv 0 4 && (decide (0 ≤ t) && decide (Int.tmod t (qvl lv) = 0))
theorem qvp {l : Int} (h : inR l 0 4 = true) : 0 < qvl l := by
  rcases lev h with rfl | rfl | rfl | rfl | rfl <;> decide
theorem qvo {l : Int} (h : inR l 0 4 = false) : qvl l = 0 := by simp [qvl, h]
theorem qds (k : Nat) (hk : 2000000 ≤ k) (a : Int) (b : Int) : go (k + 3) spec_IsActive [(.int .i64 (a)), (.int .i64 (b))] = some [.bool (qlh a b)] := by
  rw [qi0]
  simp (disch := omega) only [qd4, qa6, nth0, qu2]
  unfold qlh
  cases h : inR b 0 4
  · rw [qvo h]; cases decide ((0 : Int) ≤ a) <;> simp
  · have := qvp h
    simp (disch := omega) only [dT, dF, Bool.not_false, qgc, Bool.true_and]
    cases decide ((0 : Int) ≤ a) <;> simp
theorem qbl (k : Nat) (hk : 2000000 ≤ k) (a : Int) (b : Int) : go (k + 4) impl_IsActive [(.int .i64 (a)), (.int .i64 (b))] = some [.bool (qlh a b)] := by
  rw [qgu]
  simp (disch := omega) only [qcm, bit, qb0, qa6, nth0, qu2, qu1]
  unfold qlh
  cases h : inR b 0 4
  · simp
  · have := qvp h
    simp (disch := omega) only [dF, Bool.not_false, qgc, Bool.true_and]
    cases decide ((0 : Int) ≤ a) <;> simp
def qkq (l : List Cell) (i : Nat) : Int := max (qnj l (i + 1)) (qnj l i)
theorem qel (k : Nat) (hk : 2000000 ≤ k) (a0 : Int) (a1z : Bool) (a1 : List Cell) (i : Nat) (hi : i + 1 < a1.length) (hl : (a1.length : Int) ≤ 1048576) : go (k + 1) spec_l05Face [.agg [.int .i64 a0, .arr false a1z (.r3 a1)], .int .i64 (i : Int)] = some [.int .i64 (qkq a1 i)] := by
  rw [qjq]
  simp (disch := omega) only [dT, nI, Bool.and_true, qfg, qvt, Int.toNat_natCast, imax, qgc]
  rfl
theorem qcg (k : Nat) (hk : 2000000 ≤ k) (a0 : Int) (a1z : Bool) (a1 : List Cell) (i : Nat) (hi : i + 1 < a1.length) (hl : (a1.length : Int) ≤ 1048576) : go (k + 1) impl_Mesh_faceLevel [.agg [.int .i64 a0, .arr false a1z (.r3 a1)], .int .i64 (i : Int)] = some [.int .i64 (qkq a1 i)] := by
  rw [qg2]
  simp (disch := omega) only [dT, nI, Bool.and_true, qfg, qvt, Int.toNat_natCast, imax, qgc]
  rfl
def qao (t : Int) (l : List Cell) (i : Nat) : Bool := decide (i + 1 < l.length) && qlh t (qkq l i)
end Go.Proofs.YtoldpdhhfmlckaaGreat
end
section
namespace Go.Proofs.YtoldpdhhfmlckaaGreat
open Go.Ev
theorem qeg (k : Nat) (hk : 2000000 ≤ k) (a0 : Int) (a1z : Bool) (a1 : List (Int × Int × Int)) (h1 : (a1.length : Int) ≤ 1048576) : go (k + 1) spec_l04Copy [(.agg [(.int .i64 (a0)), (.arr false (a1z) (.r3 (a1)))])] = some [.agg [.int .i64 a0, .arr true false (.r3 a1)]] := by
  rw [qjl]
  simp (disch := omega) only [qp2, big0, dT, Bool.false_and, qgc]
theorem qer (k : Nat) (hk : 2000000 ≤ k) (a0 : Int) (a1z : Bool) (a1 : List (Int × Int × Int)) (a2z : Bool) (a2 : List Int) (a3z : Bool) (a3 : List Int) (a4z : Bool) (a4 : List Int) (h1 : (a1.length : Int) ≤ 1048576) (h2 : (a2.length : Int) ≤ 1048576) (h3 : (a3.length : Int) ≤ 1048576) (h4 : (a4.length : Int) ≤ 1048576) : go (k + 2) spec_l07Copy [(.agg [(.int .i64 (a0)), (.arr false (a1z) (.r3 (a1))), (.arr false (a2z) (.ints .i64 (a2))), (.arr false (a3z) (.ints .i64 (a3))), (.arr false (a4z) (.ints .i64 (a4)))])] = some [.agg [.int .i64 a0, .arr true false (.r3 a1), .arr true false (.ints .i64 a2), .arr true false (.ints .i64 a3), .arr true false (.ints .i64 a4)]] := by
  rw [qjw]
  simp (disch := omega) only [qeg, qp2, big0, dT, Bool.false_and, qgc, qa6, nth0, qfi, qu2, qfj, qp3, qqu]
theorem qdd (k : Nat) (hk : 2000000 ≤ k) (a : List Int) (hl : (a.length : Int) ≤ 1048576) : go (k + 1) slices_Clone_int_int [.arr false false (.ints .i64 a)] = some [.arr true false (.ints .i64 a)] := by
  rw [qim]
  simp (disch := omega) only [qp2, big0, dT, Bool.false_and, qgc, qga]
theorem qdc (k : Nat) (hk : 2000000 ≤ k) (a : List Cell) (hl : (a.length : Int) ≤ 1048576) : go (k + 1) slices_Clone_impl_Id_impl_Id [.arr false false (.r3 a)] = some [.arr true false (.r3 a)] := by
  rw [qil]
  simp (disch := omega) only [qp2, big0, dT, Bool.false_and, qgc, qga]
theorem qca (k : Nat) (hk : 2000000 ≤ k) (a0 : Int) (a1 : List Cell) (h1 : (a1.length : Int) ≤ 1048576) : go (k + 2) impl_copyMesh [.agg [.int .i64 a0, .arr false false (.r3 a1)]] = some [.agg [.int .i64 a0, .arr true false (.r3 a1)]] := by
  rw [qh7]
  simp (disch := omega) only [qdc, qa6, nth0, qp3, qqu]
theorem qcb (k : Nat) (hk : 2000000 ≤ k) (a0 : Int) (a1 : List Cell) (a2 a3 a4 : List Int) (h1 : (a1.length : Int) ≤ 1048576) (h2 : (a2.length : Int) ≤ 1048576) (h3 : (a3.length : Int) ≤ 1048576) (h4 : (a4.length : Int) ≤ 1048576) :
    go (k + 3) impl_copyState [.agg [.int .i64 a0, .arr false false (.r3 a1), .arr false false (.ints .i64 a2), .arr false false (.ints .i64 a3), .arr false false (.ints .i64 a4)]] = some [.agg [.int .i64 a0, .arr true false (.r3 a1), .arr true false (.ints .i64 a2), .arr true false (.ints .i64 a3), .arr true false (.ints .i64 a4)]] := by
  rw [qh8]
  simp (disch := omega) only [qca, qdd, qa6, nth0, qp3, qlg, qfi, qu2, qfj, qqu]
end Go.Proofs.YtoldpdhhfmlckaaGreat
end
section
namespace Go.Proofs.YtoldpdhhfmlckaaGreat
open Go.Ev
theorem qit (k : Nat) (a0 a1 a2 : Int) : go (k + 1) spec_BorderOk [(.agg [(.int .i64 (a0)), (.int .i64 (a1)), (.int .i64 (a2))])] =
 (go k spec_l01In [(.int .i64 (a0)), (.int .i64 (0 : Int)), (.int .i64 ((10000 : Int)))]).bind fun r0 =>
 cond (bit (nth r0 0))
 ((go k spec_l01In [(.int .i64 (a1)), (.int .i64 (0 : Int)), (.int .i64 ((1000 : Int)))]).bind fun r1 =>
 cond (bit (nth r1 0))
 ((go k spec_l01In [(.int .i64 (a2)), (.int .i64 (0 : Int)), (.int .i64 ((250 : Int)))]).bind fun r2 =>
 some [(.bool (bit (nth r2 0)))])
 (some [(.bool (false))]))
 (some [(.bool (false))]) := by kernel_rfl
theorem qgq (k : Nat) (a0 a1 a2 : Int) : go (k + 1) impl_BorderOk [(.agg [(.int .i64 (a0)), (.int .i64 (a1)), (.int .i64 (a2))])] =
 (go k impl_within [(.int .i64 (a0)), (.int .i64 (0 : Int)), (.int .i64 ((10000 : Int)))]).bind fun r0 =>
 cond (bit (nth r0 0))
 ((go k impl_within [(.int .i64 (a1)), (.int .i64 (0 : Int)), (.int .i64 ((1000 : Int)))]).bind fun r1 =>
 cond (bit (nth r1 0))
 ((go k impl_within [(.int .i64 (a2)), (.int .i64 (0 : Int)), (.int .i64 ((250 : Int)))]).bind fun r2 =>
 some [(.bool (bit (nth r2 0)))])
 (some [(.bool (false))]))
 (some [(.bool (false))]) := by kernel_rfl
theorem qie (k : Nat) (a : Int) : go (k + 1) impl_isRain [(.int .i64 (a))] =
 (go k impl_within [(.int .i64 (a)), (.int .i64 (0 : Int)), (.int .i64 ((10000 : Int)))]).bind fun r0 =>
 some [(.bool (bit (nth r0 0)))] := by kernel_rfl
theorem qif (k : Nat) (a : Int) : go (k + 1) impl_isRate [(.int .i64 (a))] =
 (go k impl_within [(.int .i64 (a)), (.int .i64 (0 : Int)), (.int .i64 ((1000 : Int)))]).bind fun r0 =>
 some [(.bool (bit (nth r0 0)))] := by kernel_rfl
theorem qi9 (k : Nat) (a0 a1 a2 a3 a4 a5 a6 a7 a8 : Int) : go (k + 1) spec_PlanOk [(.agg [(.int .i64 (a0)), (.int .i64 (a1)), (.int .i64 (a2)), (.int .i64 (a3)), (.int .i64 (a4)), (.int .i64 (a5)), (.int .i64 (a6)), (.int .i64 (a7)), (.int .i64 (a8))])] =
 (go k spec_BorderOk [(.agg [(.int .i64 (a0)), (.int .i64 (a1)), (.int .i64 (a2))])]).bind fun r0 =>
 cond (bit (nth r0 0))
 ((go k spec_l01In [(.int .i64 (a3)), (.int .i64 (0 : Int)), (.int .i64 ((10000 : Int)))]).bind fun r1 =>
 cond (bit (nth r1 0))
 ((go k spec_l01In [(.int .i64 (a4)), (.int .i64 (0 : Int)), (.int .i64 ((10000 : Int)))]).bind fun r2 =>
 cond (bit (nth r2 0))
 ((go k spec_l01In [(.int .i64 (a5)), (.int .i64 (0 : Int)), (.int .i64 ((1000 : Int)))]).bind fun r3 =>
 cond (bit (nth r3 0))
 ((go k spec_l01In [(.int .i64 (a6)), (.int .i64 (0 : Int)), (.int .i64 ((1000000 : Int)))]).bind fun r4 =>
 cond (bit (nth r4 0))
 ((go k spec_l01In [(.int .i64 (a7)), (.int .i64 (0 : Int)), (.int .i64 ((1000000 : Int)))]).bind fun r5 =>
 cond (bit (nth r5 0))
 ((go k spec_l01In [(.int .i64 (a8)), (.int .i64 (0 : Int)), (.int .i64 ((100 : Int)))]).bind fun r6 =>
 some [(.bool (bit (nth r6 0)))])
 (some [(.bool (false))]))
 (some [(.bool (false))]))
 (some [(.bool (false))]))
 (some [(.bool (false))]))
 (some [(.bool (false))]))
 (some [(.bool (false))]) := by kernel_rfl
theorem qhb (k : Nat) (a0 a1 a2 a3 a4 a5 a6 a7 a8 : Int) : go (k + 1) impl_PlanOk [(.agg [(.int .i64 (a0)), (.int .i64 (a1)), (.int .i64 (a2)), (.int .i64 (a3)), (.int .i64 (a4)), (.int .i64 (a5)), (.int .i64 (a6)), (.int .i64 (a7)), (.int .i64 (a8))])] =
 (go k impl_BorderOk [(.agg [(.int .i64 (a0)), (.int .i64 (a1)), (.int .i64 (a2))])]).bind fun r0 =>
 cond (bit (nth r0 0))
 ((go k impl_isRain [(.int .i64 (a3))]).bind fun r1 =>
 cond (bit (nth r1 0))
 ((go k impl_isRain [(.int .i64 (a4))]).bind fun r2 =>
 cond (bit (nth r2 0))
 ((go k impl_isRate [(.int .i64 (a5))]).bind fun r3 =>
 cond (bit (nth r3 0))
 ((go k impl_within [(.int .i64 (a6)), (.int .i64 (0 : Int)), (.int .i64 ((1000000 : Int)))]).bind fun r4 =>
 cond (bit (nth r4 0))
 ((go k impl_within [(.int .i64 (a7)), (.int .i64 (0 : Int)), (.int .i64 ((1000000 : Int)))]).bind fun r5 =>
 cond (bit (nth r5 0))
 ((go k impl_within [(.int .i64 (a8)), (.int .i64 (0 : Int)), (.int .i64 ((100 : Int)))]).bind fun r6 =>
 some [(.bool (bit (nth r6 0)))])
 (some [(.bool (false))]))
 (some [(.bool (false))]))
 (some [(.bool (false))]))
 (some [(.bool (false))]))
 (some [(.bool (false))]))
 (some [(.bool (false))]) := by kernel_rfl
theorem qki (k : Nat) (a : Int) : go (k + 1) spec_l36Amount [(.int .i64 (a))] =
 (go k spec_l01In [(.int .i64 (a)), (.int .i64 (0 : Int)), (.int .i64 ((1000000000000000 : Int)))]).bind fun r0 =>
 some [(.bool (bit (nth r0 0)))] := by kernel_rfl
theorem qig (k : Nat) (a0 a1 a2 a3 : Int) : go (k + 1) impl_ledgerOk [(.agg [(.int .i64 (a0)), (.int .i64 (a1)), (.int .i64 (a2)), (.int .i64 (a3))])] =
 (go k impl_within [(.int .i64 (a0)), (.int .i64 (0 : Int)), (.int .i64 ((1000000000000000 : Int)))]).bind fun r0 =>
 cond (bit (nth r0 0))
 ((go k impl_within [(.int .i64 (a1)), (.int .i64 (0 : Int)), (.int .i64 ((1000000000000000 : Int)))]).bind fun r1 =>
 cond (bit (nth r1 0))
 ((go k impl_within [(.int .i64 (a2)), (.int .i64 (0 : Int)), (.int .i64 ((1000000000000000 : Int)))]).bind fun r2 =>
 cond (bit (nth r2 0))
 ((go k impl_within [(.int .i64 (a3)), (.int .i64 (0 : Int)), (.int .i64 ((1000000000000000 : Int)))]).bind fun r3 =>
 some [(.bool (bit (nth r3 0)))])
 (some [(.bool (false))]))
 (some [(.bool (false))]))
 (some [(.bool (false))]) := by kernel_rfl
theorem qjf (k : Nat) (a0 : Int) (a1z : Bool) (a1 : List (Int × Int × Int)) (a2z : Bool) (a2 : List Int) (a3z : Bool) (a3 : List Int) (a4z : Bool) (a4 : List Int) (b0 b1 b2 b3 b4 b5 b6 b7 b8 : Int) : go (k + 1) spec_WorldNew [(.agg [(.int .i64 (a0)), (.arr false (a1z) (.r3 (a1))), (.arr false (a2z) (.ints .i64 (a2))), (.arr false (a3z) (.ints .i64 (a3))), (.arr false (a4z) (.ints .i64 (a4)))]), (.agg [(.int .i64 (b0)), (.int .i64 (b1)), (.int .i64 (b2)), (.int .i64 (b3)), (.int .i64 (b4)), (.int .i64 (b5)), (.int .i64 (b6)), (.int .i64 (b7)), (.int .i64 (b8))])] =
 (go k spec_StateOk [(.agg [(.int .i64 (a0)), (.arr false (a1z) (.r3 (a1))), (.arr false (a2z) (.ints .i64 (a2))), (.arr false (a3z) (.ints .i64 (a3))), (.arr false (a4z) (.ints .i64 (a4)))])]).bind fun r0 =>
 cond (!bit (nth r0 0))
 (some [(.agg [(.int .i64 (0 : Int)), (.arr true (true) (.r3 ([]))), (.arr true (true) (.ints .i64 ([]))), (.arr true (true) (.ints .i64 ([]))), (.arr true (true) (.ints .i64 ([]))), (.int .i64 (0 : Int)), (.int .i64 (0 : Int)), (.int .i64 (0 : Int)), (.int .i64 (0 : Int)), (.int .i64 (0 : Int)), (.int .i64 (0 : Int)), (.int .i64 (0 : Int)), (.int .i64 (0 : Int)), (.int .i64 (0 : Int)), (.int .i64 (0 : Int)), (.int .i64 (0 : Int)), (.int .i64 (0 : Int)), (.int .i64 (0 : Int)), (.int .i64 (0 : Int)), (.int .i64 (0 : Int)), (.int .i64 (0 : Int))]), (.bool (false))])
 ((go k spec_PlanOk [(.agg [(.int .i64 (b0)), (.int .i64 (b1)), (.int .i64 (b2)), (.int .i64 (b3)), (.int .i64 (b4)), (.int .i64 (b5)), (.int .i64 (b6)), (.int .i64 (b7)), (.int .i64 (b8))])]).bind fun r1 =>
 cond (!bit (nth r1 0))
 (some [(.agg [(.int .i64 (0 : Int)), (.arr true (true) (.r3 ([]))), (.arr true (true) (.ints .i64 ([]))), (.arr true (true) (.ints .i64 ([]))), (.arr true (true) (.ints .i64 ([]))), (.int .i64 (0 : Int)), (.int .i64 (0 : Int)), (.int .i64 (0 : Int)), (.int .i64 (0 : Int)), (.int .i64 (0 : Int)), (.int .i64 (0 : Int)), (.int .i64 (0 : Int)), (.int .i64 (0 : Int)), (.int .i64 (0 : Int)), (.int .i64 (0 : Int)), (.int .i64 (0 : Int)), (.int .i64 (0 : Int)), (.int .i64 (0 : Int)), (.int .i64 (0 : Int)), (.int .i64 (0 : Int)), (.int .i64 (0 : Int))]), (.bool (false))])
 ((go k spec_l07Copy [(.agg [(.int .i64 (a0)), (.arr false (a1z) (.r3 (a1))), (.arr false (a2z) (.ints .i64 (a2))), (.arr false (a3z) (.ints .i64 (a3))), (.arr false (a4z) (.ints .i64 (a4)))])]).bind fun r2 =>
 (go k spec_l07Sum [(.arr false (a2z) (.ints .i64 (a2)))]).bind fun r3 =>
 (go k spec_l07Sum [(.arr false (a3z) (.ints .i64 (a3)))]).bind fun r4 =>
 some [(.agg [(.int .i64 (D.toInt (D.cell 0 (nth r2 0)))), (.arr true (D.nil (D.cell 1 (nth r2 0))) (.r3 (D.r3 (D.cell 1 (nth r2 0))))), (.arr true (D.nil (D.cell 2 (nth r2 0))) (.ints .i64 (D.ints (D.cell 2 (nth r2 0))))), (.arr true (D.nil (D.cell 3 (nth r2 0))) (.ints .i64 (D.ints (D.cell 3 (nth r2 0))))), (.arr true (D.nil (D.cell 4 (nth r2 0))) (.ints .i64 (D.ints (D.cell 4 (nth r2 0))))), (.int .i64 (b0)), (.int .i64 (b1)), (.int .i64 (b2)), (.int .i64 (b3)), (.int .i64 (b4)), (.int .i64 (b5)), (.int .i64 (b6)), (.int .i64 (b7)), (.int .i64 (b8)), (.int .i64 (0 : Int)), (.int .i64 (0 : Int)), (.int .i64 (0 : Int)), (.int .i64 (0 : Int)), (.int .i64 (0 : Int)), (.int .i64 (D.toInt (nth r3 0))), (.int .i64 (D.toInt (nth r4 0)))]), (.bool (true))])) := by kernel_rfl

end Go.Proofs.YtoldpdhhfmlckaaGreat
end
section
namespace Go.Proofs.YtoldpdhhfmlckaaGreat
open Go.Ev
def qbc (a b c : Int) : Bool := inR a 0 10000 && (inR b 0 1000 && inR c 0 250)
theorem qdk (k : Nat) (hk : 2000000 ≤ k) (a0 : Int) (a1 : Int) (a2 : Int) : go (k + 2) spec_BorderOk [(.agg [(.int .i64 (a0)), (.int .i64 (a1)), (.int .i64 (a2))])] = some [.bool (qbc a0 a1 a2)] := by
  rw [qit]
  simp (disch := omega) only [qee, bit, qa6, nth0, qu1, qge]
  rfl
theorem qbh (k : Nat) (hk : 2000000 ≤ k) (a0 : Int) (a1 : Int) (a2 : Int) : go (k + 2) impl_BorderOk [(.agg [(.int .i64 (a0)), (.int .i64 (a1)), (.int .i64 (a2))])] = some [.bool (qbc a0 a1 a2)] := by
  rw [qgq]
  simp (disch := omega) only [qc8, bit, qa6, nth0, qu1, qge]
  rfl
theorem qcn (k : Nat) (hk : 2000000 ≤ k) (a : Int) : go (k + 2) impl_isRain [(.int .i64 (a))] = some [.bool (inR a 0 10000)] := by
  rw [qie]
  simp (disch := omega) only [qc8, bit, qa6, nth0, qu1]
theorem qco (k : Nat) (hk : 2000000 ≤ k) (a : Int) : go (k + 2) impl_isRate [(.int .i64 (a))] = some [.bool (inR a 0 1000)] := by
  rw [qif]
  simp (disch := omega) only [qc8, bit, qa6, nth0, qu1]
def qqo (a0 a1 a2 a3 a4 a5 a6 a7 a8 : Int) : Bool := qbc a0 a1 a2 && (inR a3 0 10000 && (inR a4 0 10000 && (inR a5 0 1000 && (inR a6 0 1000000 && (inR a7 0 1000000 && inR a8 0 100)))))
theorem qdz (k : Nat) (hk : 2000000 ≤ k) (a0 : Int) (a1 : Int) (a2 : Int) (a3 : Int) (a4 : Int) (a5 : Int) (a6 : Int) (a7 : Int) (a8 : Int) : go (k + 3) spec_PlanOk [(.agg [(.int .i64 (a0)), (.int .i64 (a1)), (.int .i64 (a2)), (.int .i64 (a3)), (.int .i64 (a4)), (.int .i64 (a5)), (.int .i64 (a6)), (.int .i64 (a7)), (.int .i64 (a8))])] = some [.bool (qqo a0 a1 a2 a3 a4 a5 a6 a7 a8)] := by
  rw [qi9]
  simp (disch := omega) only [qdk, bit, qee, qa6, nth0, qu1, qge]
  rfl
theorem qbt (k : Nat) (hk : 2000000 ≤ k) (a0 : Int) (a1 : Int) (a2 : Int) (a3 : Int) (a4 : Int) (a5 : Int) (a6 : Int) (a7 : Int) (a8 : Int) : go (k + 3) impl_PlanOk [(.agg [(.int .i64 (a0)), (.int .i64 (a1)), (.int .i64 (a2)), (.int .i64 (a3)), (.int .i64 (a4)), (.int .i64 (a5)), (.int .i64 (a6)), (.int .i64 (a7)), (.int .i64 (a8))])] = some [.bool (qqo a0 a1 a2 a3 a4 a5 a6 a7 a8)] := by
  rw [qhb]
  simp (disch := omega) only [qbh, bit, qcn, qco, qc8, qa6, nth0, qu1, qge]
  rfl
def qkm : D := .agg [.int .i64 0, .arr true true (.r3 []), .arr true true (.ints .i64 []), .arr true true (.ints .i64 []), .arr true true (.ints .i64 []), .int .i64 0, .int .i64 0, .int .i64 0, .int .i64 0, .int .i64 0, .int .i64 0, .int .i64 0, .int .i64 0, .int .i64 0, .int .i64 0, .int .i64 0, .int .i64 0, .int .i64 0, .int .i64 0, .int .i64 0, .int .i64 0]
def newW (r : Int) (l : List Cell) (m t b : List Int) (b0 b1 b2 b3 b4 b5 b6 b7 b8 : Int) : D := .agg [.int .i64 r, .arr true false (.r3 l), .arr true false (.ints .i64 m), .arr true false (.ints .i64 t), .arr true false (.ints .i64 b), .int .i64 b0, .int .i64 b1, .int .i64 b2, .int .i64 b3, .int .i64 b4, .int .i64 b5, .int .i64 b6, .int .i64 b7, .int .i64 b8, .int .i64 0, .int .i64 0, .int .i64 0, .int .i64 0, .int .i64 0, .int .i64 (isum m), .int .i64 (isum t)]
theorem qd6 (k : Nat) (hk : 2000000 ≤ k) (a0 : Int) (a1 : List Cell) (a2 a3 a4 : List Int) (b0 b1 b2 b3 b4 b5 b6 b7 b8 : Int) (h1 : (a1.length : Int) ≤ 1048576) (h4 : (a4.length : Int) ≤ 1048576) :
    go (k + 8) spec_WorldNew [.agg [.int .i64 a0, .arr false false (.r3 a1), .arr false false (.ints .i64 a2), .arr false false (.ints .i64 a3), .arr false false (.ints .i64 a4)], .agg [.int .i64 b0, .int .i64 b1, .int .i64 b2, .int .i64 b3, .int .i64 b4, .int .i64 b5, .int .i64 b6, .int .i64 b7, .int .i64 b8]] =
    cond (stOk a0 a1 a2 a3 a4 && qqo b0 b1 b2 b3 b4 b5 b6 b7 b8) (some [newW a0 a1 a2 a3 a4 b0 b1 b2 b3 b4 b5 b6 b7 b8, .bool true]) (some [qkm, .bool false]) := by
  rw [qjf]
  simp (disch := omega) only [qd3, bit, qdz, qa6, nth0, qu1]
  cases g : stOk a0 a1 a2 a3 a4
  · rfl
  cases g2 : qqo b0 b1 b2 b3 b4 b5 b6 b7 b8
  · rfl
  have F := stF.1 g
  have := F.len; have := F.ml; have := F.tl; have := F.bl; have := F.rr
  simp only [Bool.not_true, qga]
  rw [qet _ (by omega) _ _ (by omega) F.mmem, qet _ (by omega) _ _ (by omega) F.tmem]
  simp (disch := omega) only [qer, qa6, nth0, qu2, qfi, qfj, qp3, qqu, qfu, qlg, qfw, qfx, Bool.and_true, qgc]
  rfl
end Go.Proofs.YtoldpdhhfmlckaaGreat
end
section
namespace Go.Proofs.YtoldpdhhfmlckaaGreat
open Go.Ev
theorem qjg (k : Nat) (a0 : Int) (a1z : Bool) (a1 : List (Int × Int × Int)) (a2z : Bool) (a2 : List Int) (a3z : Bool) (a3 : List Int) (a4z : Bool) (a4 : List Int) (a5 a6 a7 a8 a9 a10 a11 a12 a13 a14 a15 a16 a17 a18 a19 a20 : Int) : go (k + 1) spec_WorldOk [(.agg [(.int .i64 (a0)), (.arr false (a1z) (.r3 (a1))), (.arr false (a2z) (.ints .i64 (a2))), (.arr false (a3z) (.ints .i64 (a3))), (.arr false (a4z) (.ints .i64 (a4))), (.int .i64 (a5)), (.int .i64 (a6)), (.int .i64 (a7)), (.int .i64 (a8)), (.int .i64 (a9)), (.int .i64 (a10)), (.int .i64 (a11)), (.int .i64 (a12)), (.int .i64 (a13)), (.int .i64 (a14)), (.int .i64 (a15)), (.int .i64 (a16)), (.int .i64 (a17)), (.int .i64 (a18)), (.int .i64 (a19)), (.int .i64 (a20))])] =
 (go k spec_StateOk [(.agg [(.int .i64 (a0)), (.arr false (a1z) (.r3 (a1))), (.arr false (a2z) (.ints .i64 (a2))), (.arr false (a3z) (.ints .i64 (a3))), (.arr false (a4z) (.ints .i64 (a4)))])]).bind fun r0 =>
 cond (!bit (nth r0 0))
 (some [(.bool (false))])
 ((go k spec_PlanOk [(.agg [(.int .i64 (a5)), (.int .i64 (a6)), (.int .i64 (a7)), (.int .i64 (a8)), (.int .i64 (a9)), (.int .i64 (a10)), (.int .i64 (a11)), (.int .i64 (a12)), (.int .i64 (a13))])]).bind fun r1 =>
 cond (!bit (nth r1 0))
 (some [(.bool (false))])
 ((go k spec_l01In [(.int .i64 (a14)), (.int .i64 (0 : Int)), (.int .i64 ((100000 : Int)))]).bind fun r2 =>
 cond (!bit (nth r2 0))
 (some [(.bool (false))])
 ((go k spec_l36Amount [(.int .i64 (a15))]).bind fun r3 =>
 cond (!bit (nth r3 0))
 (some [(.bool (false))])
 ((go k spec_l36Amount [(.int .i64 (a16))]).bind fun r4 =>
 cond (!bit (nth r4 0))
 (some [(.bool (false))])
 ((go k spec_l36Amount [(.int .i64 (a17))]).bind fun r5 =>
 cond (!bit (nth r5 0))
 (some [(.bool (false))])
 ((go k spec_l36Amount [(.int .i64 (a18))]).bind fun r6 =>
 cond (!bit (nth r6 0))
 (some [(.bool (false))])
 ((go k spec_l07Sum [(.arr false (a2z) (.ints .i64 (a2)))]).bind fun r7 =>
 cond (decide (IntKind.wrap .i64 (IntKind.wrap .i64 (D.toInt (nth r7 0) - a15) + a16) = a19))
 ((go k spec_l07Sum [(.arr false (a3z) (.ints .i64 (a3)))]).bind fun r8 =>
 some [(.bool (decide (IntKind.wrap .i64 (IntKind.wrap .i64 (D.toInt (nth r8 0) - a17) + a18) = a20)))])
 (some [(.bool (false))])))))))) := by kernel_rfl
theorem qh4 (k : Nat) (a0 : Int) (a1z : Bool) (a1 : List (Int × Int × Int)) (a2z : Bool) (a2 : List Int) (a3z : Bool) (a3 : List Int) (a4z : Bool) (a4 : List Int) (a5 a6 a7 a8 a9 a10 a11 a12 a13 a14 a15 a16 a17 a18 a19 a20 : Int) : go (k + 1) impl_WorldOk [(.agg [(.int .i64 (a0)), (.arr false (a1z) (.r3 (a1))), (.arr false (a2z) (.ints .i64 (a2))), (.arr false (a3z) (.ints .i64 (a3))), (.arr false (a4z) (.ints .i64 (a4))), (.int .i64 (a5)), (.int .i64 (a6)), (.int .i64 (a7)), (.int .i64 (a8)), (.int .i64 (a9)), (.int .i64 (a10)), (.int .i64 (a11)), (.int .i64 (a12)), (.int .i64 (a13)), (.int .i64 (a14)), (.int .i64 (a15)), (.int .i64 (a16)), (.int .i64 (a17)), (.int .i64 (a18)), (.int .i64 (a19)), (.int .i64 (a20))])] =
 (go k impl_StateOk [(.agg [(.int .i64 (a0)), (.arr false (a1z) (.r3 (a1))), (.arr false (a2z) (.ints .i64 (a2))), (.arr false (a3z) (.ints .i64 (a3))), (.arr false (a4z) (.ints .i64 (a4)))])]).bind fun r0 =>
 cond (bit (nth r0 0))
 ((go k impl_PlanOk [(.agg [(.int .i64 (a5)), (.int .i64 (a6)), (.int .i64 (a7)), (.int .i64 (a8)), (.int .i64 (a9)), (.int .i64 (a10)), (.int .i64 (a11)), (.int .i64 (a12)), (.int .i64 (a13))])]).bind fun r1 =>
 cond (bit (nth r1 0))
 ((go k impl_within [(.int .i64 (a14)), (.int .i64 (0 : Int)), (.int .i64 ((100000 : Int)))]).bind fun r2 =>
 cond (bit (nth r2 0))
 ((go k impl_ledgerOk [(.agg [(.int .i64 (a15)), (.int .i64 (a16)), (.int .i64 (a17)), (.int .i64 (a18))])]).bind fun r3 =>
 cond (bit (nth r3 0))
 ((go k impl_sum [(.arr false (a2z) (.ints .i64 (a2)))]).bind fun r4 =>
 cond (decide (a19 = IntKind.wrap .i64 (IntKind.wrap .i64 (D.toInt (nth r4 0) - a15) + a16)))
 ((go k impl_sum [(.arr false (a3z) (.ints .i64 (a3)))]).bind fun r5 =>
 some [(.bool (decide (a20 = IntKind.wrap .i64 (IntKind.wrap .i64 (D.toInt (nth r5 0) - a17) + a18))))])
 (some [(.bool (false))]))
 (some [(.bool (false))]))
 (some [(.bool (false))]))
 (some [(.bool (false))]))
 (some [(.bool (false))]) := by kernel_rfl

end Go.Proofs.YtoldpdhhfmlckaaGreat
end
section
namespace Go.Proofs.YtoldpdhhfmlckaaGreat
open Go.Ev
def qnh (a b c d : Int) : Bool := inR a 0 1000000000000000 && (inR b 0 1000000000000000 && (inR c 0 1000000000000000 && inR d 0 1000000000000000))
theorem qe7 (k : Nat) (hk : 2000000 ≤ k) (a : Int) : go (k + 2) spec_l36Amount [(.int .i64 (a))] = some [.bool (inR a 0 1000000000000000)] := by
  rw [qki]
  simp (disch := omega) only [qee, bit, qa6, nth0, qu1]
theorem qcq (k : Nat) (hk : 2000000 ≤ k) (a0 : Int) (a1 : Int) (a2 : Int) (a3 : Int) : go (k + 2) impl_ledgerOk [(.agg [(.int .i64 (a0)), (.int .i64 (a1)), (.int .i64 (a2)), (.int .i64 (a3))])] = some [.bool (qnh a0 a1 a2 a3)] := by
  rw [qig]
  simp (disch := omega) only [qc8, bit, qa6, nth0, qu1, qge]
  rfl
def qvr (a0 : Int) (a1 : List Cell) (a2 a3 a4 : List Int) (b0 b1 b2 b3 b4 b5 b6 b7 b8 s c0 c1 c2 c3 f g : Int) : Bool :=
  stOk a0 a1 a2 a3 a4 && (qqo b0 b1 b2 b3 b4 b5 b6 b7 b8 && (inR s 0 100000 && (qnh c0 c1 c2 c3 && (decide (isum a2 - c0 + c1 = f) && decide (isum a3 - c2 + c3 = g)))))
theorem qld {a m : Int} (h : inR a 0 m = true) : 0 ≤ a ∧ a ≤ m := by
  simp only [inR, Bool.and_eq_true, decide_eq_true_eq] at h
  omega
theorem qgj (a b : Int) : decide (a = b) = decide (b = a) := decide_eq_decide.2 eq_comm
theorem qd8 (k : Nat) (hk : 2000000 ≤ k) (a0 : Int) (a1z : Bool) (a1 : List (Int × Int × Int)) (a2z : Bool) (a2 : List Int) (a3z : Bool) (a3 : List Int) (a4z : Bool) (a4 : List Int) (a5 : Int) (a6 : Int) (a7 : Int) (a8 : Int) (a9 : Int) (a10 : Int) (a11 : Int) (a12 : Int) (a13 : Int) (a14 : Int) (a15 : Int) (a16 : Int) (a17 : Int) (a18 : Int) (a19 : Int) (a20 : Int) (h1 : (a1.length : Int) ≤ 1048576) (h4 : (a4.length : Int) ≤ 1048576) :
    go (k + 8) spec_WorldOk [(.agg [(.int .i64 (a0)), (.arr false (a1z) (.r3 (a1))), (.arr false (a2z) (.ints .i64 (a2))), (.arr false (a3z) (.ints .i64 (a3))), (.arr false (a4z) (.ints .i64 (a4))), (.int .i64 (a5)), (.int .i64 (a6)), (.int .i64 (a7)), (.int .i64 (a8)), (.int .i64 (a9)), (.int .i64 (a10)), (.int .i64 (a11)), (.int .i64 (a12)), (.int .i64 (a13)), (.int .i64 (a14)), (.int .i64 (a15)), (.int .i64 (a16)), (.int .i64 (a17)), (.int .i64 (a18)), (.int .i64 (a19)), (.int .i64 (a20))])] = some [.bool (qvr a0 a1 a2 a3 a4 a5 a6 a7 a8 a9 a10 a11 a12 a13 a14 a15 a16 a17 a18 a19 a20)] := by
  rw [qjg]
  simp (disch := omega) only [qd3, bit, qdz, qee, qe7, qa6, nth0, qu1]
  simp only [qvr, qnh]
  cases g : stOk a0 a1 a2 a3 a4
  · rfl
  cases g2 : qqo a5 a6 a7 a8 a9 a10 a11 a12 a13
  · rfl
  cases g3 : inR a14 0 100000
  · rfl
  cases g4 : inR a15 0 1000000000000000
  · rfl
  cases g5 : inR a16 0 1000000000000000
  · rfl
  cases g6 : inR a17 0 1000000000000000
  · rfl
  cases g7 : inR a18 0 1000000000000000
  · rfl
  have F := stF.1 g
  have := F.len; have := F.ml; have := F.tl; have := F.bl; have := F.rr
  have b4 := qld g4; have b5 := qld g5; have b6 := qld g6; have b7 := qld g7
  have s1 := qlm _ F.mmem; have s2 := qlm _ F.tmem
  simp only [Bool.not_true, qga, Bool.true_and]
  rw [qet _ (by omega) _ _ (by omega) F.mmem, qet _ (by omega) _ _ (by omega) F.tmem]
  simp (disch := omega) only [qa6, nth0, qu2, qvt, qge]
theorem qb2 (k : Nat) (hk : 2000000 ≤ k) (a0 : Int) (a1z : Bool) (a1 : List (Int × Int × Int)) (a2z : Bool) (a2 : List Int) (a3z : Bool) (a3 : List Int) (a4z : Bool) (a4 : List Int) (a5 : Int) (a6 : Int) (a7 : Int) (a8 : Int) (a9 : Int) (a10 : Int) (a11 : Int) (a12 : Int) (a13 : Int) (a14 : Int) (a15 : Int) (a16 : Int) (a17 : Int) (a18 : Int) (a19 : Int) (a20 : Int) (h1 : (a1.length : Int) ≤ 1048576) (h4 : (a4.length : Int) ≤ 1048576) :
    go (k + 9) impl_WorldOk [(.agg [(.int .i64 (a0)), (.arr false (a1z) (.r3 (a1))), (.arr false (a2z) (.ints .i64 (a2))), (.arr false (a3z) (.ints .i64 (a3))), (.arr false (a4z) (.ints .i64 (a4))), (.int .i64 (a5)), (.int .i64 (a6)), (.int .i64 (a7)), (.int .i64 (a8)), (.int .i64 (a9)), (.int .i64 (a10)), (.int .i64 (a11)), (.int .i64 (a12)), (.int .i64 (a13)), (.int .i64 (a14)), (.int .i64 (a15)), (.int .i64 (a16)), (.int .i64 (a17)), (.int .i64 (a18)), (.int .i64 (a19)), (.int .i64 (a20))])] = some [.bool (qvr a0 a1 a2 a3 a4 a5 a6 a7 a8 a9 a10 a11 a12 a13 a14 a15 a16 a17 a18 a19 a20)] := by
  rw [qh4]
  simp (disch := omega) only [qbz, bit, qbt, qc8, qcq, qa6, nth0, qu1]
  simp only [qvr]
  cases g : stOk a0 a1 a2 a3 a4
  · rfl
  cases g2 : qqo a5 a6 a7 a8 a9 a10 a11 a12 a13
  · rfl
  cases g3 : inR a14 0 100000
  · rfl
  cases g4 : qnh a15 a16 a17 a18
  · rfl
  have F := stF.1 g
  have := F.len; have := F.ml; have := F.tl; have := F.bl; have := F.rr
  have g4' := g4
  simp only [qnh, Bool.and_eq_true] at g4'
  obtain ⟨i1, i2, i3, i4⟩ := g4'
  have b4 := qld i1; have b5 := qld i2; have b6 := qld i3; have b7 := qld i4
  have s1 := qlm _ F.mmem; have s2 := qlm _ F.tmem
  simp only [qgc, Bool.true_and]
  rw [qc4 _ (by omega) _ _ (by omega) F.mmem, qc4 _ (by omega) _ _ (by omega) F.tmem]
  simp (disch := omega) only [qa6, nth0, qu2, qvt, qge]
  rw [qgj a19, qgj a20]
end Go.Proofs.YtoldpdhhfmlckaaGreat
end
section
namespace Go.Proofs.YtoldpdhhfmlckaaGreat
open Go.Ev
theorem qgm {α : Type} {l l' : List α} {i : Nat} (h : i < l.length) (h' : i < l'.length) (d : α) : l.drop i = l'.drop i ↔ l.getD i d = l'.getD i d ∧ l.drop (i + 1) = l'.drop (i + 1) := by
  rw [qgl h d, qgl h' d]; simp
theorem qoi (k : Nat) (hk : 2000000 ≤ k) (fu : List (Nat × Nat)) (z z' : Bool) (l l' : List Int) (hl : (l.length : Int) ≤ 1048576) (he : l'.length = l.length) : ∀ (n i : Nat), i ≤ l.length → l.length - i < n →
    lp k slices_Equal_int_int [] fu 4 (n) (qsc (l.length : Int) (i : Int) z l z' l') = some [.bool (decide (l.drop i = l'.drop i))]
  | 0, i, hi, hn => by omega
  | n + 1, i, hi, hn => by
    rw [qmi]
    by_cases h : i < l.length
    · have e := qoi k hk fu z z' l l' hl he n (i + 1) (by omega) (by omega)
      by_cases g : l.getD i 0 = l'.getD i 0
      · simp (disch := omega) only [dT, nI, Bool.and_true, Int.toNat_natCast, Bool.not_true, qfg, qvt, e, qga, qgc]
        exact congrArg (fun b => some [D.bool b]) (by simp only [qgm h (by omega : i < l'.length) 0, g, true_and])
      · simp (disch := omega) only [dT, nI, Bool.and_true, Int.toNat_natCast, dF, Bool.not_false, qfg, qvt, e, qgc]
        exact congrArg (fun b => some [D.bool b]) (by rw [dF]; rw [qgm h (by omega : i < l'.length) 0]; exact fun hh => g hh.1)
    · simp (disch := omega) only [dF, dT, nI, Bool.and_false, Int.toNat_natCast, qfg, qvt, qga]
      rw [List.drop_of_length_le (by omega), List.drop_of_length_le (by omega)]; rfl
theorem qni {α : Type} {l l' : List α} (h : ¬ l.length = l'.length) : ¬ l = l' := fun e => h (by rw [e])
theorem qdf (k : Nat) (hk : 2000000 ≤ k) (az : Bool) (a : List Int) (bz : Bool) (b : List Int) (hl : (a.length : Int) ≤ 1048576) : go (k + 1) slices_Equal_int_int [(.arr false (az) (.ints .i64 (a))), (.arr false (bz) (.ints .i64 (b)))] = some [.bool (decide (a = b))] := by
  rw [qip]
  by_cases h : a.length = b.length
  · simp (disch := omega) only [nI, dT, Bool.not_true, qga]
    have e := qoi k hk [] az bz a b hl (by omega) (k + 0) 0 (by omega) (by omega)
    simp only [List.drop_zero] at e; exact e
  · simp (disch := omega) only [nI, dF, Bool.not_false, qgc]
    rw [dF (qni h)]
theorem qf3 (x y : Cell) : (decide (x.1 = y.1) && (decide (x.2.1 = y.2.1) && decide (x.2.2 = y.2.2))) = decide (x = y) := by
  obtain ⟨a, b, c⟩ := x; obtain ⟨a', b', c'⟩ := y
  rw [Bool.eq_iff_iff]; simp
theorem qoh (k : Nat) (hk : 2000000 ≤ k) (fu : List (Nat × Nat)) (z z' : Bool) (l l' : List Cell) (hl : (l.length : Int) ≤ 1048576) (he : l'.length = l.length) : ∀ (n i : Nat), i ≤ l.length → l.length - i < n →
    lp k slices_Equal_impl_Id_impl_Id [] fu 4 (n) (qsb (l.length : Int) (i : Int) z l z' l') = some [.bool (decide (l.drop i = l'.drop i))]
  | 0, i, hi, hn => by omega
  | n + 1, i, hi, hn => by
    rw [qmh]
    by_cases h : i < l.length
    · have e := qoh k hk fu z z' l l' hl he n (i + 1) (by omega) (by omega)
      by_cases g : l.getD i zz3 = l'.getD i zz3
      · simp (disch := omega) only [dT, nI, Bool.and_true, Int.toNat_natCast, g, dTT, Bool.not_true, qfg, qvt, e, qga, qgc]
        exact congrArg (fun b => some [D.bool b]) (by simp only [qgm h (by omega : i < l'.length) zz3, g, true_and])
      · simp (disch := omega) only [dT, nI, Bool.and_true, Int.toNat_natCast, qf3, dF, Bool.not_false, qfg, qvt, e, qgc]
        exact congrArg (fun b => some [D.bool b]) (by rw [dF]; rw [qgm h (by omega : i < l'.length) zz3]; exact fun hh => g hh.1)
    · simp (disch := omega) only [dF, dT, nI, Bool.and_false, Int.toNat_natCast, Bool.and_true, qfg, qvt, qga]
      rw [List.drop_of_length_le (by omega), List.drop_of_length_le (by omega)]; rfl
theorem qde (k : Nat) (hk : 2000000 ≤ k) (az : Bool) (a : List (Int × Int × Int)) (bz : Bool) (b : List (Int × Int × Int)) (hl : (a.length : Int) ≤ 1048576) : go (k + 1) slices_Equal_impl_Id_impl_Id [(.arr false (az) (.r3 (a))), (.arr false (bz) (.r3 (b)))] = some [.bool (decide (a = b))] := by
  rw [qio]
  by_cases h : a.length = b.length
  · simp (disch := omega) only [nI, dT, Bool.not_true, qga]
    have e := qoh k hk [] az bz a b hl (by omega) (k + 0) 0 (by omega) (by omega)
    simp only [List.drop_zero] at e; exact e
  · simp (disch := omega) only [nI, dF, Bool.not_false, qgc]
    rw [dF (qni h)]
def qs7 (r r' : Int) (l l' : List Cell) : Bool := decide (r = r') && decide (l = l')
theorem qbu (k : Nat) (hk : 2000000 ≤ k) (a0 : Int) (a1z : Bool) (a1 : List (Int × Int × Int)) (b0 : Int) (b1z : Bool) (b1 : List (Int × Int × Int)) (hl : (a1.length : Int) ≤ 1048576) : go (k + 2) impl_SameMesh [(.agg [(.int .i64 (a0)), (.arr false (a1z) (.r3 (a1)))]), (.agg [(.int .i64 (b0)), (.arr false (b1z) (.r3 (b1)))])] = some [.bool (qs7 a0 b0 a1 b1)] := by
  rw [qhc]
  simp (disch := omega) only [qde, bit, qa6, nth0, qu1]
  unfold qs7
  cases decide (a0 = b0) <;> rfl
end Go.Proofs.YtoldpdhhfmlckaaGreat
end
section
namespace Go.Proofs.YtoldpdhhfmlckaaGreat
open Go.Ev
def qsj (x0 x1 : Int) (z2 : Bool) (l3 : List (Int × Int × Int)) (x4 : Int) : St := ⟨fill 36 [(1, (.int .i64 (x0))), (2, (.ptr 1 (0) (0))), (5, (.int .i64 (x1)))], [], [(.arr false (z2) (.r3 (l3))), (.box true [(.int .i64 (x4)), (.sl 0 none)])]⟩
theorem qi3 (k : Nat) (a0 : Int) (a1z : Bool) (a1 : List (Int × Int × Int)) (b : Int) : go (k + 1) spec_LeafAt [(.agg [(.int .i64 (a0)), (.arr false (a1z) (.r3 (a1)))]), (.int .i64 (b))] =
 lp k spec_LeafAt [] [] 2 k (qsj b (0 : Int) a1z a1 a0) := by kernel_rfl
theorem qmp (k n : Nat) (fu : List (Nat × Nat)) (x0 x1 : Int) (z2 : Bool) (l3 : List (Int × Int × Int)) (x4 : Int) : lp k spec_LeafAt [] fu 2 (n + 1) (qsj x0 x1 z2 l3 x4) =
 cond (decide (x1 < nI (List.length l3)))
 ((go k spec_MeshOk [(.agg [(.int .i64 (x4)), (.arr false (z2) (.r3 (l3)))])]).bind fun r0 =>
 cond (bit (nth r0 0))
 (cond (decide ((0 : Int) ≤ x1) && decide (x1 < nI (List.length l3)))
 ((go k spec_StartOf [(.agg [(.int .i64 (Prod.fst (List.getD l3 (Int.toNat x1) zz3))), (.int .i64 (Prod.fst (Prod.snd (List.getD l3 (Int.toNat x1) zz3)))), (.int .i64 (Prod.snd (Prod.snd (List.getD l3 (Int.toNat x1) zz3))))])]).bind fun r1 =>
 cond (decide (D.toInt (nth r1 0) ≤ x0))
 (cond (decide ((0 : Int) ≤ x1) && decide (x1 < nI (List.length l3)))
 ((go k spec_l04End [(.agg [(.int .i64 (Prod.fst (List.getD l3 (Int.toNat x1) zz3))), (.int .i64 (Prod.fst (Prod.snd (List.getD l3 (Int.toNat x1) zz3)))), (.int .i64 (Prod.snd (Prod.snd (List.getD l3 (Int.toNat x1) zz3))))])]).bind fun r2 =>
 cond (decide (x0 < D.toInt (nth r2 0)))
 (some [(.int .i64 (x1))])
 (lp k spec_LeafAt [] fu 2 n (qsj x0 (IntKind.wrap .i64 (x1 + (1 : Int))) z2 l3 x4)))
 (none))
 (lp k spec_LeafAt [] fu 2 n (qsj x0 (IntKind.wrap .i64 (x1 + (1 : Int))) z2 l3 x4)))
 (none))
 (some [(.int .i64 ((-1 : Int)))]))
 (some [(.int .i64 ((-1 : Int)))]) := by kernel_rfl
end Go.Proofs.YtoldpdhhfmlckaaGreat
end
section
namespace Go.Proofs.YtoldpdhhfmlckaaGreat
open Go.Ev
abbrev cst (x : Cell) : Int := qt0 x.1 x.2.1 x.2.2
def qne (pos : Int) (l : List Cell) : Nat → Nat → Int
  | 0, _ => -1
  | n + 1, i => cond (decide (cst (l.getD i zz3) ≤ pos) && decide (pos < cst (l.getD i zz3) + qvl (l.getD i zz3).2.1)) (i : Int) (qne pos l n (i + 1))
theorem qnf (pos : Int) (l : List Cell) : ∀ (n i : Nat), -1 ≤ qne pos l n i ∧ qne pos l n i < ((i + n : Nat) : Int) ∧ (0 ≤ qne pos l n i → (i : Int) ≤ qne pos l n i)
  | 0, i => by simp [qne]; omega
  | n + 1, i => by
    have := qnf pos l n (i + 1)
    unfold qne
    cases (decide (cst (l.getD i zz3) ≤ pos) && decide (pos < cst (l.getD i zz3) + qvl (l.getD i zz3).2.1))
    · simp only [qga]; omega
    · simp only [qgc]; omega
def qnb (r : Int) (l : List Cell) (pos : Int) : Int := cond (qpm r 0 l) (qne pos l l.length 0) (-1)
theorem qnc (r : Int) (l : List Cell) (pos : Int) : -1 ≤ qnb r l pos ∧ qnb r l pos < l.length := by
  unfold qnb
  cases qpm r 0 l
  · simp; omega
  · have := qnf pos l l.length 0; simp only [qgc]; omega
theorem qoo (k : Nat) (hk : 2000000 ≤ k) (fu : List (Nat × Nat)) (z : Bool) (r : Int) (l : List Cell) (pos : Int) (hl : (l.length : Int) ≤ 1048576) (hm : qpm r 0 l = true) : ∀ (n i : Nat), i ≤ l.length → l.length - i < n →
    lp (k + 5) spec_LeafAt [] fu 2 (n) (qsj pos (i : Int) z l r) = some [.int .i64 (qne pos l (l.length - i) i)]
  | 0, i, hi, hn => by omega
  | n + 1, i, hi, hn => by
    rw [qmp]
    by_cases h : i < l.length
    · have e := qoo k hk fu z r l pos hl hm n (i + 1) (by omega) (by omega)
      rw [show l.length - i = (l.length - (i + 1)) + 1 by omega, qne]
      simp (disch := omega) only [nI, dT, qdy, hm, bit, Bool.and_true, Int.toNat_natCast, qd2, qeh, qfg, qvt, e, qa6, nth0, qu2, qgc, qu1, cst]
      cases decide (qt0 (l.getD i zz3).1 (l.getD i zz3).2.1 (l.getD i zz3).2.2 ≤ pos) <;> cases decide (pos < qt0 (l.getD i zz3).1 (l.getD i zz3).2.1 (l.getD i zz3).2.2 + qvl (l.getD i zz3).2.1) <;> rfl
    · simp (disch := omega) only [nI, dF, bit, dT, Bool.and_false, Int.toNat_natCast, qfg, qvt, qga]
      rw [show l.length - i = 0 by omega]; rfl
theorem qdu (k : Nat) (hk : 2000000 ≤ k) (a0 : Int) (a1z : Bool) (a1 : List (Int × Int × Int)) (b : Int) (hl : (a1.length : Int) ≤ 1048576) : go (k + 6) spec_LeafAt [(.agg [(.int .i64 (a0)), (.arr false (a1z) (.r3 (a1)))]), (.int .i64 (b))] = some [.int .i64 (qnb a0 a1 b)] := by
  rw [qi3]
  unfold qnb
  cases hm : qpm a0 0 a1
  · rw [show k + 5 = (k + 5 - 1) + 1 by omega]
    rw [show lp (k + 5 - 1 + 1) = lp (k + 5) by rw [show k + 5 - 1 + 1 = k + 5 by omega], qmp]
    by_cases h0 : 0 < a1.length
    · simp (disch := omega) only [nI, dT, qdy, hm, bit, Bool.and_true, qvt, qgc, qa6, nth0, qu1, qga]
    · simp (disch := omega) only [nI, dF, bit, dT, Bool.and_false, qvt, qga]
  exact qoo k hk [] a1z a0 a1 b hl hm _ 0 (by omega) (by omega)
end Go.Proofs.YtoldpdhhfmlckaaGreat
end
section
namespace Go.Proofs.YtoldpdhhfmlckaaGreat
open Go.Ev
def okp : Int → List Cell → Bool
  | _, [] => true
  | p, x :: l => idOk x.1 x.2.1 x.2.2 && (decide (qt0 x.1 x.2.1 x.2.2 = p) && okp (p + qvl x.2.1) l)
def endp : Int → List Cell → Int
  | p, [] => p
  | p, x :: l => endp (p + qvl x.2.1) l
theorem qpn : ∀ (l : List Cell) (r p : Int), qpm r p l = (okp p l && (inR r 1 8 && decide (endp p l = r * 16)))
  | [], r, p => rfl
  | x :: l, r, p => by
    simp only [qpm, okp, endp]
    by_cases h : qt0 x.1 x.2.1 x.2.2 = p
    · rw [h, qpn l r]; simp only [Bool.and_assoc]; rfl
    · rw [dF h]; simp
theorem qpo {l : List Cell} {r p : Int} : qpm r p l = true ↔ okp p l = true ∧ (1 ≤ r ∧ r ≤ 8) ∧ endp p l = r * 16 := by
  rw [qpn]; simp only [Bool.and_eq_true, qle, decide_eq_true_eq]
theorem qp8 {x : Cell} {l : List Cell} {p : Int} : okp p (x :: l) = true ↔ idOk x.1 x.2.1 x.2.2 = true ∧ qt0 x.1 x.2.1 x.2.2 = p ∧ okp (p + qvl x.2.1) l = true := by
  simp only [okp, Bool.and_eq_true, decide_eq_true_eq]
theorem qkp (x : Cell) (l : List Cell) (p : Int) : endp p (x :: l) = endp (p + qvl x.2.1) l := rfl
theorem qp7 : ∀ (a b : List Cell) (p : Int), okp p (a ++ b) = (okp p a && okp (endp p a) b)
  | [], b, p => by simp [okp, endp]
  | x :: a, b, p => by simp only [List.cons_append, okp, endp, qp7 a b, Bool.and_assoc]
theorem qko : ∀ (a b : List Cell) (p : Int), endp p (a ++ b) = endp (endp p a) b
  | [], b, p => by simp [endp]
  | x :: a, b, p => by simp only [List.cons_append, endp, qko a b]
theorem qu8 (l : List Cell) : ∀ n i, (qu7 l n i < 0 ↔ ∀ j, i ≤ j → j < i + n → ¬ (1 < qnj l j - qnj l (j + 1) ∨ qnj l j - qnj l (j + 1) < -1)) ∧ (0 ≤ qu7 l n i → ∃ j : Nat, qu7 l n i = j ∧ i ≤ j ∧ j < i + n ∧ (1 < qnj l j - qnj l (j + 1) ∨ qnj l j - qnj l (j + 1) < -1))
  | 0, i => by refine ⟨⟨fun _ j h1 h2 => by omega, fun _ => by simp [qu7]⟩, fun h => by simp [qu7] at h⟩
  | n + 1, i => by
    have ih := qu8 l n (i + 1)
    unfold qu7
    by_cases g : 1 < qnj l i - qnj l (i + 1) ∨ qnj l i - qnj l (i + 1) < -1
    · rw [if_pos g]
      refine ⟨⟨fun h => by omega, fun h => absurd g (h i (Nat.le_refl _) (by omega))⟩, fun _ => ⟨i, rfl, Nat.le_refl _, by omega, g⟩⟩
    · rw [if_neg g]
      refine ⟨⟨fun h j h1 h2 => ?_, fun h => ih.1.2 fun j h1 h2 => h j (by omega) (by omega)⟩, fun h => ?_⟩
      · by_cases e : j = i
        · subst e; exact g
        · exact ih.1.1 h j (by omega) (by omega)
      · obtain ⟨j, e, h1, h2, h3⟩ := ih.2 h
        exact ⟨j, e, by omega, by omega, h3⟩
theorem qva (l : List Cell) : unb l < 0 ↔ ∀ j, j + 1 < l.length → -1 ≤ qnj l j - qnj l (j + 1) ∧ qnj l j - qnj l (j + 1) ≤ 1 := by
  unfold unb
  rw [(qu8 l _ _).1]
  refine ⟨fun h j hj => ?_, fun h j _ hj => ?_⟩
  · have := h j (by omega) (by omega); omega
  · have := h j (by omega); omega
theorem qu9 {l : List Cell} (h : 0 ≤ unb l) : ∃ j : Nat, unb l = j ∧ j + 1 < l.length ∧ (1 < qnj l j - qnj l (j + 1) ∨ qnj l j - qnj l (j + 1) < -1) := by
  unfold unb at *
  obtain ⟨j, e, h1, h2, h3⟩ := (qu8 l _ _).2 h
  exact ⟨j, e, by omega, h3⟩
end Go.Proofs.YtoldpdhhfmlckaaGreat
end
section
namespace Go.Proofs.YtoldpdhhfmlckaaGreat
open Go.Ev
theorem w0 : qvl 0 = 16 := by decide
theorem w1_ : qvl 1 = 8 := by decide
theorem w2_ : qvl 2 = 4 := by decide
theorem w3_ : qvl 3 = 2 := by decide
theorem w4_ : qvl 4 = 1 := by decide
theorem qlb {r l i : Int} : idOk r l i = true ↔ (0 ≤ r ∧ r ≤ 7) ∧ (0 ≤ l ∧ l ≤ 4) ∧ 0 ≤ i ∧ i < pow2 l := by
  simp only [idOk, Bool.and_eq_true, qle, decide_eq_true_eq]
theorem qt2 {r l i : Int} (h : idOk r l i = true) : qt0 r l i = r * 16 + i * qvl l := by simp [qt0, h]
abbrev ch0 (x : Cell) : Cell := (x.1, x.2.1 + 1, 2 * x.2.2)
abbrev ch1 (x : Cell) : Cell := (x.1, x.2.1 + 1, 2 * x.2.2 + 1)
theorem qf4 {r l i : Int} (h : idOk r l i = true) (hl : l < 4) : idOk r (l + 1) (2 * i) = true ∧ idOk r (l + 1) (2 * i + 1) = true ∧ qt0 r (l + 1) (2 * i) = qt0 r l i ∧ qt0 r (l + 1) (2 * i + 1) = qt0 r l i + qvl (l + 1) ∧ qvl (l + 1) + qvl (l + 1) = qvl l := by
  have h' := qlb.1 h
  rcases lev (qle.2 h'.2.1) with rfl | rfl | rfl | rfl | rfl
  · have p := h'.2.2; simp only [p20] at p
    have a : idOk r 1 (2 * i) = true := qlb.2 ⟨h'.1, by omega, by rw [p21]; omega⟩
    have b : idOk r 1 (2 * i + 1) = true := qlb.2 ⟨h'.1, by omega, by rw [p21]; omega⟩
    refine ⟨a, b, ?_, ?_, rfl⟩
    · show qt0 r 1 (2 * i) = _; rw [qt2 a, qt2 h, w0, w1_]; omega
    · show qt0 r 1 (2 * i + 1) = _ + qvl 1; rw [qt2 b, qt2 h, w0, w1_]; omega
  · have p := h'.2.2; simp only [p21] at p
    have a : idOk r 2 (2 * i) = true := qlb.2 ⟨h'.1, by omega, by rw [p22]; omega⟩
    have b : idOk r 2 (2 * i + 1) = true := qlb.2 ⟨h'.1, by omega, by rw [p22]; omega⟩
    refine ⟨a, b, ?_, ?_, rfl⟩
    · show qt0 r 2 (2 * i) = _; rw [qt2 a, qt2 h, w1_, w2_]; omega
    · show qt0 r 2 (2 * i + 1) = _ + qvl 2; rw [qt2 b, qt2 h, w1_, w2_]; omega
  · have p := h'.2.2; simp only [p22] at p
    have a : idOk r 3 (2 * i) = true := qlb.2 ⟨h'.1, by omega, by rw [p23]; omega⟩
    have b : idOk r 3 (2 * i + 1) = true := qlb.2 ⟨h'.1, by omega, by rw [p23]; omega⟩
    refine ⟨a, b, ?_, ?_, rfl⟩
    · show qt0 r 3 (2 * i) = _; rw [qt2 a, qt2 h, w2_, w3_]; omega
    · show qt0 r 3 (2 * i + 1) = _ + qvl 3; rw [qt2 b, qt2 h, w2_, w3_]; omega
  · have p := h'.2.2; simp only [p23] at p
    have a : idOk r 4 (2 * i) = true := qlb.2 ⟨h'.1, by omega, by rw [p24]; omega⟩
    have b : idOk r 4 (2 * i + 1) = true := qlb.2 ⟨h'.1, by omega, by rw [p24]; omega⟩
    refine ⟨a, b, ?_, ?_, rfl⟩
    · show qt0 r 4 (2 * i) = _; rw [qt2 a, qt2 h, w3_, w4_]; omega
    · show qt0 r 4 (2 * i + 1) = _ + qvl 4; rw [qt2 b, qt2 h, w3_, w4_]; omega
  · omega
def qtr (l : List Cell) (i : Nat) : List Cell := l.take i ++ ch0 (l.getD i zz3) :: ch1 (l.getD i zz3) :: l.drop (i + 1)
theorem qts {l : List Cell} {i : Nat} (h : i < l.length) : (qtr l i).length = l.length + 1 := by
  simp only [qtr, List.length_append, List.length_take, List.length_cons, List.length_drop]; omega
theorem qgf {α : Type} {l : List α} {i : Nat} (h : i < l.length) (d : α) : l = l.take i ++ l.getD i d :: l.drop (i + 1) := by
  rw [← qgl h d, List.take_append_drop]
theorem qtu {l : List Cell} {r p : Int} {i : Nat} (h : qpm r p l = true) (hi : i < l.length) (hl : (l.getD i zz3).2.1 < 4) : qpm r p (qtr l i) = true := by
  rw [qpo] at *
  have e := qgf hi zz3
  have h1 := h
  rw [e, qp7, qko] at h1
  unfold qtr
  rw [qp7, qko]
  simp only [qp8, qkp, Bool.and_eq_true] at h1 ⊢
  have c := qf4 h1.1.2.1 hl
  refine ⟨⟨h1.1.1, c.1, ?_, c.2.1, ?_, ?_⟩, h1.2.1, ?_⟩
  · rw [c.2.2.1]; exact h1.1.2.2.1
  · rw [c.2.2.2.1, h1.1.2.2.1]
  · rw [Int.add_assoc, c.2.2.2.2]; exact h1.1.2.2.2
  · rw [Int.add_assoc, c.2.2.2.2]; exact h1.2.2
def qf7 (l : List Cell) (i : Nat) : Nat := if qnj l (i + 1) < qnj l i then i + 1 else i
theorem qf8 {l : List Cell} {r p : Int} {i : Nat} (h : qpm r p l = true) (hi : i + 1 < l.length) (hu : 1 < qnj l i - qnj l (i + 1) ∨ qnj l i - qnj l (i + 1) < -1) : qf7 l i < l.length ∧ qnj l (qf7 l i) < 4 := by
  have h1 := qpt _ _ _ h i; have h2 := qpt _ _ _ h (i + 1)
  unfold qf7
  by_cases g : qnj l (i + 1) < qnj l i
  · rw [if_pos g]; exact ⟨hi, by omega⟩
  · rw [if_neg g]; exact ⟨by omega, by omega⟩
def balN : Nat → List Cell → List Cell
  | 0, l => l
  | n + 1, l => if unb l < 0 then l else balN n (qtr l (qf7 l (unb l).toNat))
theorem qa0 : ∀ (n : Nat) (l : List Cell) (r : Int), qpm r 0 l = true → 129 ≤ n + l.length → qpm r 0 (balN n l) = true ∧ unb (balN n l) < 0
  | 0, l, r, h, hn => by have := qps h; omega
  | n + 1, l, r, h, hn => by
    unfold balN
    by_cases g : unb l < 0
    · rw [if_pos g]; exact ⟨h, g⟩
    · rw [if_neg g]
      obtain ⟨j, e, h1, h2⟩ := qu9 (by omega : 0 ≤ unb l)
      have c := qf8 h h1 h2
      rw [e, Int.toNat_natCast]
      exact qa0 n _ r (qtu h c.1 c.2) (by rw [qts c.1]; omega)
def bal (l : List Cell) : List Cell := balN (129 - l.length) l
theorem qa2 {l : List Cell} {r : Int} (h : qpm r 0 l = true) : qpm r 0 (bal l) = true ∧ unb (bal l) < 0 := qa0 _ l r h (by have := qps h; omega)
abbrev par (x : Cell) : Cell := (x.1, x.2.1 - 1, x.2.2 / 2)
def sib (a b : Cell) : Bool := idOk a.1 a.2.1 a.2.2 && (idOk b.1 b.2.1 b.2.2 && (decide (a.1 = b.1) && (decide (a.2.1 = b.2.1) && (decide (a.2.2 % 2 = 0) && decide (b.2.2 = a.2.2 + 1)))))
theorem qqi {r l i : Int} (h : idOk r l i = true) (h' : idOk r l (i + 1) = true) (he : i % 2 = 0) : 1 ≤ l ∧ idOk r (l - 1) (i / 2) = true ∧ qt0 r (l - 1) (i / 2) = qt0 r l i ∧ qt0 r l (i + 1) = qt0 r l i + qvl l ∧ qvl l + qvl l = qvl (l - 1) := by
  have a := qlb.1 h; have b := qlb.1 h'
  have hl : 1 ≤ l := by
    rcases Int.lt_or_le l 1 with g | g
    · have : l = 0 := by omega
      subst this; rw [p20] at b; omega
    · exact g
  have q : l - 1 + 1 = l := by omega
  have hi : 2 * (i / 2) = i := by omega
  have p0 : idOk r (l - 1) (i / 2) = true := by
    rcases lev (qle.2 a.2.1) with rfl | rfl | rfl | rfl | rfl
    · omega
    · rw [p21] at b; exact qlb.2 ⟨a.1, by omega, by rw [show (1 : Int) - 1 = 0 from rfl, p20]; omega⟩
    · rw [p22] at b; exact qlb.2 ⟨a.1, by omega, by rw [show (2 : Int) - 1 = 1 from rfl, p21]; omega⟩
    · rw [p23] at b; exact qlb.2 ⟨a.1, by omega, by rw [show (3 : Int) - 1 = 2 from rfl, p22]; omega⟩
    · rw [p24] at b; exact qlb.2 ⟨a.1, by omega, by rw [show (4 : Int) - 1 = 3 from rfl, p23]; omega⟩
  have c := qf4 p0 (by omega)
  rw [q, hi] at c
  exact ⟨hl, p0, c.2.2.1.symm, by rw [c.2.2.2.1, c.2.2.1], c.2.2.2.2⟩
def qpi (l : List Cell) (i : Nat) : List Cell := l.take i ++ par (l.getD i zz3) :: l.drop (i + 2)
theorem qpj {l : List Cell} {i : Nat} (h : i + 1 < l.length) : (qpi l i).length + 1 = l.length := by
  simp only [qpi, List.length_append, List.length_take, List.length_cons, List.length_drop]; omega
theorem qpk {l : List Cell} {r p : Int} {i : Nat} (h : qpm r p l = true) (hi : i + 1 < l.length) (hs : sib (l.getD i zz3) (l.getD (i + 1) zz3) = true) : qpm r p (qpi l i) = true := by
  rw [qpo] at *
  have e := qgf (by omega : i < l.length) zz3
  rw [qgl hi zz3] at e
  have h1 := h
  rw [e, qp7, qko] at h1
  unfold qpi
  rw [qp7, qko]
  simp only [sib, Bool.and_eq_true, decide_eq_true_eq] at hs
  simp only [qp8, qkp, Bool.and_eq_true] at h1 ⊢
  obtain ⟨s1, s2, s3, s4, s5, s6⟩ := hs
  have s2' := s2
  rw [← s3, ← s4, s6] at s2'
  have c := qqi s1 s2' s5
  have e2 : qvl (l.getD (i + 1) zz3).2.1 = qvl (l.getD i zz3).2.1 := by rw [s4]
  rw [e2] at h1
  refine ⟨⟨h1.1.1, c.2.1, ?_, ?_⟩, h1.2.1, ?_⟩
  · rw [c.2.2.1]; exact h1.1.2.2.1
  · rw [← c.2.2.2.2, ← Int.add_assoc]; exact h1.1.2.2.2.2.2
  · rw [← c.2.2.2.2, ← Int.add_assoc]; exact h1.2.2
end Go.Proofs.YtoldpdhhfmlckaaGreat
end
section
namespace Go.Proofs.YtoldpdhhfmlckaaGreat
open Go.Ev
theorem qkj (k : Nat) (a0 : Int) (a1z : Bool) (a1 : List (Int × Int × Int)) (a2z : Bool) (a2 : List Int) (a3z : Bool) (a3 : List Int) (a4z : Bool) (a4 : List Int) (a5 a6 a7 a8 a9 a10 a11 a12 a13 a14 a15 a16 a17 a18 a19 a20 : Int) : go (k + 1) spec_l36Copy [(.agg [(.int .i64 (a0)), (.arr false (a1z) (.r3 (a1))), (.arr false (a2z) (.ints .i64 (a2))), (.arr false (a3z) (.ints .i64 (a3))), (.arr false (a4z) (.ints .i64 (a4))), (.int .i64 (a5)), (.int .i64 (a6)), (.int .i64 (a7)), (.int .i64 (a8)), (.int .i64 (a9)), (.int .i64 (a10)), (.int .i64 (a11)), (.int .i64 (a12)), (.int .i64 (a13)), (.int .i64 (a14)), (.int .i64 (a15)), (.int .i64 (a16)), (.int .i64 (a17)), (.int .i64 (a18)), (.int .i64 (a19)), (.int .i64 (a20))])] =
 (go k spec_l07Copy [(.agg [(.int .i64 (a0)), (.arr false (a1z) (.r3 (a1))), (.arr false (a2z) (.ints .i64 (a2))), (.arr false (a3z) (.ints .i64 (a3))), (.arr false (a4z) (.ints .i64 (a4)))])]).bind fun r0 =>
 some [(.agg [(.int .i64 (D.toInt (D.cell 0 (nth r0 0)))), (.arr true (D.nil (D.cell 1 (nth r0 0))) (.r3 (D.r3 (D.cell 1 (nth r0 0))))), (.arr true (D.nil (D.cell 2 (nth r0 0))) (.ints .i64 (D.ints (D.cell 2 (nth r0 0))))), (.arr true (D.nil (D.cell 3 (nth r0 0))) (.ints .i64 (D.ints (D.cell 3 (nth r0 0))))), (.arr true (D.nil (D.cell 4 (nth r0 0))) (.ints .i64 (D.ints (D.cell 4 (nth r0 0))))), (.int .i64 (a5)), (.int .i64 (a6)), (.int .i64 (a7)), (.int .i64 (a8)), (.int .i64 (a9)), (.int .i64 (a10)), (.int .i64 (a11)), (.int .i64 (a12)), (.int .i64 (a13)), (.int .i64 (a14)), (.int .i64 (a15)), (.int .i64 (a16)), (.int .i64 (a17)), (.int .i64 (a18)), (.int .i64 (a19)), (.int .i64 (a20))])] := by kernel_rfl
theorem qh9 (k : Nat) (a0 : Int) (a1z : Bool) (a1 : List (Int × Int × Int)) (a2z : Bool) (a2 : List Int) (a3z : Bool) (a3 : List Int) (a4z : Bool) (a4 : List Int) (a5 a6 a7 a8 a9 a10 a11 a12 a13 a14 a15 a16 a17 a18 a19 a20 : Int) : go (k + 1) impl_copyWorld [(.agg [(.int .i64 (a0)), (.arr false (a1z) (.r3 (a1))), (.arr false (a2z) (.ints .i64 (a2))), (.arr false (a3z) (.ints .i64 (a3))), (.arr false (a4z) (.ints .i64 (a4))), (.int .i64 (a5)), (.int .i64 (a6)), (.int .i64 (a7)), (.int .i64 (a8)), (.int .i64 (a9)), (.int .i64 (a10)), (.int .i64 (a11)), (.int .i64 (a12)), (.int .i64 (a13)), (.int .i64 (a14)), (.int .i64 (a15)), (.int .i64 (a16)), (.int .i64 (a17)), (.int .i64 (a18)), (.int .i64 (a19)), (.int .i64 (a20))])] =
 (go k impl_copyState [(.agg [(.int .i64 (a0)), (.arr false (a1z) (.r3 (a1))), (.arr false (a2z) (.ints .i64 (a2))), (.arr false (a3z) (.ints .i64 (a3))), (.arr false (a4z) (.ints .i64 (a4)))])]).bind fun r0 =>
 some [(.agg [(.int .i64 (D.toInt (D.cell 0 (nth r0 0)))), (.arr true (D.nil (D.cell 1 (nth r0 0))) (.r3 (D.r3 (D.cell 1 (nth r0 0))))), (.arr true (D.nil (D.cell 2 (nth r0 0))) (.ints .i64 (D.ints (D.cell 2 (nth r0 0))))), (.arr true (D.nil (D.cell 3 (nth r0 0))) (.ints .i64 (D.ints (D.cell 3 (nth r0 0))))), (.arr true (D.nil (D.cell 4 (nth r0 0))) (.ints .i64 (D.ints (D.cell 4 (nth r0 0))))), (.int .i64 (a5)), (.int .i64 (a6)), (.int .i64 (a7)), (.int .i64 (a8)), (.int .i64 (a9)), (.int .i64 (a10)), (.int .i64 (a11)), (.int .i64 (a12)), (.int .i64 (a13)), (.int .i64 (a14)), (.int .i64 (a15)), (.int .i64 (a16)), (.int .i64 (a17)), (.int .i64 (a18)), (.int .i64 (a19)), (.int .i64 (a20))])] := by kernel_rfl
theorem qi6 (k : Nat) (a0 a1 a2 a3 b0 b1 b2 b3 : Int) : go (k + 1) spec_LedgerAdd [(.agg [(.int .i64 (a0)), (.int .i64 (a1)), (.int .i64 (a2)), (.int .i64 (a3))]), (.agg [(.int .i64 (b0)), (.int .i64 (b1)), (.int .i64 (b2)), (.int .i64 (b3))])] =
 some [(.agg [(.int .i64 (IntKind.wrap .i64 (a0 + b0))), (.int .i64 (IntKind.wrap .i64 (a1 + b1))), (.int .i64 (IntKind.wrap .i64 (a2 + b2))), (.int .i64 (IntKind.wrap .i64 (a3 + b3)))])] := by kernel_rfl
theorem qiy (k : Nat) (a0 : Int) (a1z : Bool) (a1 : List (Int × Int × Int)) (a2z : Bool) (a2 : List Int) (a3z : Bool) (a3 : List Int) (a4z : Bool) (a4 : List Int) (a5 a6 a7 a8 a9 a10 a11 a12 a13 a14 a15 a16 a17 a18 a19 a20 b c d : Int) : go (k + 1) spec_Drop [(.agg [(.int .i64 (a0)), (.arr false (a1z) (.r3 (a1))), (.arr false (a2z) (.ints .i64 (a2))), (.arr false (a3z) (.ints .i64 (a3))), (.arr false (a4z) (.ints .i64 (a4))), (.int .i64 (a5)), (.int .i64 (a6)), (.int .i64 (a7)), (.int .i64 (a8)), (.int .i64 (a9)), (.int .i64 (a10)), (.int .i64 (a11)), (.int .i64 (a12)), (.int .i64 (a13)), (.int .i64 (a14)), (.int .i64 (a15)), (.int .i64 (a16)), (.int .i64 (a17)), (.int .i64 (a18)), (.int .i64 (a19)), (.int .i64 (a20))]), (.int .i64 (b)), (.int .i64 (c)), (.int .i64 (d))] =
 (go k spec_l36Copy [(.agg [(.int .i64 (a0)), (.arr false (a1z) (.r3 (a1))), (.arr false (a2z) (.ints .i64 (a2))), (.arr false (a3z) (.ints .i64 (a3))), (.arr false (a4z) (.ints .i64 (a4))), (.int .i64 (a5)), (.int .i64 (a6)), (.int .i64 (a7)), (.int .i64 (a8)), (.int .i64 (a9)), (.int .i64 (a10)), (.int .i64 (a11)), (.int .i64 (a12)), (.int .i64 (a13)), (.int .i64 (a14)), (.int .i64 (a15)), (.int .i64 (a16)), (.int .i64 (a17)), (.int .i64 (a18)), (.int .i64 (a19)), (.int .i64 (a20))])]).bind fun r0 =>
 (go k spec_WorldOk [(.agg [(.int .i64 (a0)), (.arr false (a1z) (.r3 (a1))), (.arr false (a2z) (.ints .i64 (a2))), (.arr false (a3z) (.ints .i64 (a3))), (.arr false (a4z) (.ints .i64 (a4))), (.int .i64 (a5)), (.int .i64 (a6)), (.int .i64 (a7)), (.int .i64 (a8)), (.int .i64 (a9)), (.int .i64 (a10)), (.int .i64 (a11)), (.int .i64 (a12)), (.int .i64 (a13)), (.int .i64 (a14)), (.int .i64 (a15)), (.int .i64 (a16)), (.int .i64 (a17)), (.int .i64 (a18)), (.int .i64 (a19)), (.int .i64 (a20))])]).bind fun r1 =>
 cond (!bit (nth r1 0))
 (some [(.agg [(.int .i64 (D.toInt (D.cell 0 (nth r0 0)))), (.arr true (D.nil (D.cell 1 (nth r0 0))) (.r3 (D.r3 (D.cell 1 (nth r0 0))))), (.arr true (D.nil (D.cell 2 (nth r0 0))) (.ints .i64 (D.ints (D.cell 2 (nth r0 0))))), (.arr true (D.nil (D.cell 3 (nth r0 0))) (.ints .i64 (D.ints (D.cell 3 (nth r0 0))))), (.arr true (D.nil (D.cell 4 (nth r0 0))) (.ints .i64 (D.ints (D.cell 4 (nth r0 0))))), (.int .i64 (D.toInt (D.cell 5 (nth r0 0)))), (.int .i64 (D.toInt (D.cell 6 (nth r0 0)))), (.int .i64 (D.toInt (D.cell 7 (nth r0 0)))), (.int .i64 (D.toInt (D.cell 8 (nth r0 0)))), (.int .i64 (D.toInt (D.cell 9 (nth r0 0)))), (.int .i64 (D.toInt (D.cell 10 (nth r0 0)))), (.int .i64 (D.toInt (D.cell 11 (nth r0 0)))), (.int .i64 (D.toInt (D.cell (12 : Nat) (nth r0 0)))), (.int .i64 (D.toInt (D.cell (13 : Nat) (nth r0 0)))), (.int .i64 (D.toInt (D.cell (14 : Nat) (nth r0 0)))), (.int .i64 (D.toInt (D.cell (15 : Nat) (nth r0 0)))), (.int .i64 (D.toInt (D.cell (16 : Nat) (nth r0 0)))), (.int .i64 (D.toInt (D.cell (17 : Nat) (nth r0 0)))), (.int .i64 (D.toInt (D.cell (18 : Nat) (nth r0 0)))), (.int .i64 (D.toInt (D.cell (19 : Nat) (nth r0 0)))), (.int .i64 (D.toInt (D.cell (20 : Nat) (nth r0 0))))]), (.bool (false))])
 ((go k spec_l01In [(.int .i64 (c)), (.int .i64 ((1 : Int))), (.int .i64 ((10000 : Int)))]).bind fun r2 =>
 cond (!bit (nth r2 0))
 (some [(.agg [(.int .i64 (D.toInt (D.cell 0 (nth r0 0)))), (.arr true (D.nil (D.cell 1 (nth r0 0))) (.r3 (D.r3 (D.cell 1 (nth r0 0))))), (.arr true (D.nil (D.cell 2 (nth r0 0))) (.ints .i64 (D.ints (D.cell 2 (nth r0 0))))), (.arr true (D.nil (D.cell 3 (nth r0 0))) (.ints .i64 (D.ints (D.cell 3 (nth r0 0))))), (.arr true (D.nil (D.cell 4 (nth r0 0))) (.ints .i64 (D.ints (D.cell 4 (nth r0 0))))), (.int .i64 (D.toInt (D.cell 5 (nth r0 0)))), (.int .i64 (D.toInt (D.cell 6 (nth r0 0)))), (.int .i64 (D.toInt (D.cell 7 (nth r0 0)))), (.int .i64 (D.toInt (D.cell 8 (nth r0 0)))), (.int .i64 (D.toInt (D.cell 9 (nth r0 0)))), (.int .i64 (D.toInt (D.cell 10 (nth r0 0)))), (.int .i64 (D.toInt (D.cell 11 (nth r0 0)))), (.int .i64 (D.toInt (D.cell (12 : Nat) (nth r0 0)))), (.int .i64 (D.toInt (D.cell (13 : Nat) (nth r0 0)))), (.int .i64 (D.toInt (D.cell (14 : Nat) (nth r0 0)))), (.int .i64 (D.toInt (D.cell (15 : Nat) (nth r0 0)))), (.int .i64 (D.toInt (D.cell (16 : Nat) (nth r0 0)))), (.int .i64 (D.toInt (D.cell (17 : Nat) (nth r0 0)))), (.int .i64 (D.toInt (D.cell (18 : Nat) (nth r0 0)))), (.int .i64 (D.toInt (D.cell (19 : Nat) (nth r0 0)))), (.int .i64 (D.toInt (D.cell (20 : Nat) (nth r0 0))))]), (.bool (false))])
 ((go k spec_l01In [(.int .i64 (d)), (.int .i64 (0 : Int)), (.int .i64 ((1000 : Int)))]).bind fun r3 =>
 cond (!bit (nth r3 0))
 (some [(.agg [(.int .i64 (D.toInt (D.cell 0 (nth r0 0)))), (.arr true (D.nil (D.cell 1 (nth r0 0))) (.r3 (D.r3 (D.cell 1 (nth r0 0))))), (.arr true (D.nil (D.cell 2 (nth r0 0))) (.ints .i64 (D.ints (D.cell 2 (nth r0 0))))), (.arr true (D.nil (D.cell 3 (nth r0 0))) (.ints .i64 (D.ints (D.cell 3 (nth r0 0))))), (.arr true (D.nil (D.cell 4 (nth r0 0))) (.ints .i64 (D.ints (D.cell 4 (nth r0 0))))), (.int .i64 (D.toInt (D.cell 5 (nth r0 0)))), (.int .i64 (D.toInt (D.cell 6 (nth r0 0)))), (.int .i64 (D.toInt (D.cell 7 (nth r0 0)))), (.int .i64 (D.toInt (D.cell 8 (nth r0 0)))), (.int .i64 (D.toInt (D.cell 9 (nth r0 0)))), (.int .i64 (D.toInt (D.cell 10 (nth r0 0)))), (.int .i64 (D.toInt (D.cell 11 (nth r0 0)))), (.int .i64 (D.toInt (D.cell (12 : Nat) (nth r0 0)))), (.int .i64 (D.toInt (D.cell (13 : Nat) (nth r0 0)))), (.int .i64 (D.toInt (D.cell (14 : Nat) (nth r0 0)))), (.int .i64 (D.toInt (D.cell (15 : Nat) (nth r0 0)))), (.int .i64 (D.toInt (D.cell (16 : Nat) (nth r0 0)))), (.int .i64 (D.toInt (D.cell (17 : Nat) (nth r0 0)))), (.int .i64 (D.toInt (D.cell (18 : Nat) (nth r0 0)))), (.int .i64 (D.toInt (D.cell (19 : Nat) (nth r0 0)))), (.int .i64 (D.toInt (D.cell (20 : Nat) (nth r0 0))))]), (.bool (false))])
 ((go k spec_l07Sum [(.arr false (a2z) (.ints .i64 (a2)))]).bind fun r4 =>
 cond (decide ((10000000 : Int) < IntKind.wrap .i64 (D.toInt (nth r4 0) + c)))
 (some [(.agg [(.int .i64 (D.toInt (D.cell 0 (nth r0 0)))), (.arr true (D.nil (D.cell 1 (nth r0 0))) (.r3 (D.r3 (D.cell 1 (nth r0 0))))), (.arr true (D.nil (D.cell 2 (nth r0 0))) (.ints .i64 (D.ints (D.cell 2 (nth r0 0))))), (.arr true (D.nil (D.cell 3 (nth r0 0))) (.ints .i64 (D.ints (D.cell 3 (nth r0 0))))), (.arr true (D.nil (D.cell 4 (nth r0 0))) (.ints .i64 (D.ints (D.cell 4 (nth r0 0))))), (.int .i64 (D.toInt (D.cell 5 (nth r0 0)))), (.int .i64 (D.toInt (D.cell 6 (nth r0 0)))), (.int .i64 (D.toInt (D.cell 7 (nth r0 0)))), (.int .i64 (D.toInt (D.cell 8 (nth r0 0)))), (.int .i64 (D.toInt (D.cell 9 (nth r0 0)))), (.int .i64 (D.toInt (D.cell 10 (nth r0 0)))), (.int .i64 (D.toInt (D.cell 11 (nth r0 0)))), (.int .i64 (D.toInt (D.cell (12 : Nat) (nth r0 0)))), (.int .i64 (D.toInt (D.cell (13 : Nat) (nth r0 0)))), (.int .i64 (D.toInt (D.cell (14 : Nat) (nth r0 0)))), (.int .i64 (D.toInt (D.cell (15 : Nat) (nth r0 0)))), (.int .i64 (D.toInt (D.cell (16 : Nat) (nth r0 0)))), (.int .i64 (D.toInt (D.cell (17 : Nat) (nth r0 0)))), (.int .i64 (D.toInt (D.cell (18 : Nat) (nth r0 0)))), (.int .i64 (D.toInt (D.cell (19 : Nat) (nth r0 0)))), (.int .i64 (D.toInt (D.cell (20 : Nat) (nth r0 0))))]), (.bool (false))])
 ((go k spec_LeafAt [(.agg [(.int .i64 (a0)), (.arr false (a1z) (.r3 (a1)))]), (.int .i64 (b))]).bind fun r5 =>
 cond (decide (D.toInt (nth r5 0) < (0 : Int)))
 (some [(.agg [(.int .i64 (D.toInt (D.cell 0 (nth r0 0)))), (.arr true (D.nil (D.cell 1 (nth r0 0))) (.r3 (D.r3 (D.cell 1 (nth r0 0))))), (.arr true (D.nil (D.cell 2 (nth r0 0))) (.ints .i64 (D.ints (D.cell 2 (nth r0 0))))), (.arr true (D.nil (D.cell 3 (nth r0 0))) (.ints .i64 (D.ints (D.cell 3 (nth r0 0))))), (.arr true (D.nil (D.cell 4 (nth r0 0))) (.ints .i64 (D.ints (D.cell 4 (nth r0 0))))), (.int .i64 (D.toInt (D.cell 5 (nth r0 0)))), (.int .i64 (D.toInt (D.cell 6 (nth r0 0)))), (.int .i64 (D.toInt (D.cell 7 (nth r0 0)))), (.int .i64 (D.toInt (D.cell 8 (nth r0 0)))), (.int .i64 (D.toInt (D.cell 9 (nth r0 0)))), (.int .i64 (D.toInt (D.cell 10 (nth r0 0)))), (.int .i64 (D.toInt (D.cell 11 (nth r0 0)))), (.int .i64 (D.toInt (D.cell (12 : Nat) (nth r0 0)))), (.int .i64 (D.toInt (D.cell (13 : Nat) (nth r0 0)))), (.int .i64 (D.toInt (D.cell (14 : Nat) (nth r0 0)))), (.int .i64 (D.toInt (D.cell (15 : Nat) (nth r0 0)))), (.int .i64 (D.toInt (D.cell (16 : Nat) (nth r0 0)))), (.int .i64 (D.toInt (D.cell (17 : Nat) (nth r0 0)))), (.int .i64 (D.toInt (D.cell (18 : Nat) (nth r0 0)))), (.int .i64 (D.toInt (D.cell (19 : Nat) (nth r0 0)))), (.int .i64 (D.toInt (D.cell (20 : Nat) (nth r0 0))))]), (.bool (false))])
 (cond (decide ((0 : Int) ≤ D.toInt (nth r5 0)) && decide (D.toInt (nth r5 0) < nI (List.length (D.ints (D.cell 2 (nth r0 0))))))
 (cond (decide ((0 : Int) ≤ D.toInt (nth r5 0)) && decide (D.toInt (nth r5 0) < nI (List.length (D.ints (D.cell 2 (nth r0 0))))))
 (cond (decide ((0 : Int) ≤ D.toInt (nth r5 0)) && decide (D.toInt (nth r5 0) < nI (List.length (D.ints (D.cell 3 (nth r0 0))))))
 (cond (decide ((0 : Int) ≤ D.toInt (nth r5 0)) && decide (D.toInt (nth r5 0) < nI (List.length (D.ints (D.cell 3 (nth r0 0))))))
 ((go k spec_LedgerAdd [(.agg [(.int .i64 (D.toInt (D.cell (15 : Nat) (nth r0 0)))), (.int .i64 (D.toInt (D.cell (16 : Nat) (nth r0 0)))), (.int .i64 (D.toInt (D.cell (17 : Nat) (nth r0 0)))), (.int .i64 (D.toInt (D.cell (18 : Nat) (nth r0 0))))]), (.agg [(.int .i64 (c)), (.int .i64 (0 : Int)), (.int .i64 (IntKind.wrap .i64 (c * d))), (.int .i64 (0 : Int))])]).bind fun r6 =>
 some [(.agg [(.int .i64 (D.toInt (D.cell 0 (nth r0 0)))), (.arr true (D.nil (D.cell 1 (nth r0 0))) (.r3 (D.r3 (D.cell 1 (nth r0 0))))), (.arr true (D.nil (D.cell 2 (nth r0 0))) (.ints .i64 (List.set (D.ints (D.cell 2 (nth r0 0))) (Int.toNat (D.toInt (nth r5 0))) (IntKind.wrap .i64 (List.getD (D.ints (D.cell 2 (nth r0 0))) (Int.toNat (D.toInt (nth r5 0))) (0 : Int) + c))))), (.arr true (D.nil (D.cell 3 (nth r0 0))) (.ints .i64 (List.set (D.ints (D.cell 3 (nth r0 0))) (Int.toNat (D.toInt (nth r5 0))) (IntKind.wrap .i64 (List.getD (D.ints (D.cell 3 (nth r0 0))) (Int.toNat (D.toInt (nth r5 0))) (0 : Int) + IntKind.wrap .i64 (c * d)))))), (.arr true (D.nil (D.cell 4 (nth r0 0))) (.ints .i64 (D.ints (D.cell 4 (nth r0 0))))), (.int .i64 (D.toInt (D.cell 5 (nth r0 0)))), (.int .i64 (D.toInt (D.cell 6 (nth r0 0)))), (.int .i64 (D.toInt (D.cell 7 (nth r0 0)))), (.int .i64 (D.toInt (D.cell 8 (nth r0 0)))), (.int .i64 (D.toInt (D.cell 9 (nth r0 0)))), (.int .i64 (D.toInt (D.cell 10 (nth r0 0)))), (.int .i64 (D.toInt (D.cell 11 (nth r0 0)))), (.int .i64 (D.toInt (D.cell (12 : Nat) (nth r0 0)))), (.int .i64 (D.toInt (D.cell (13 : Nat) (nth r0 0)))), (.int .i64 (D.toInt (D.cell (14 : Nat) (nth r0 0)))), (.int .i64 (D.toInt (D.cell 0 (nth r6 0)))), (.int .i64 (D.toInt (D.cell 1 (nth r6 0)))), (.int .i64 (D.toInt (D.cell 2 (nth r6 0)))), (.int .i64 (D.toInt (D.cell 3 (nth r6 0)))), (.int .i64 (D.toInt (D.cell (19 : Nat) (nth r0 0)))), (.int .i64 (D.toInt (D.cell (20 : Nat) (nth r0 0))))]), (.bool (true))])
 (none))
 (none))
 (none))
 (none)))))) := by kernel_rfl
end Go.Proofs.YtoldpdhhfmlckaaGreat
end
section
namespace Go.Proofs.YtoldpdhhfmlckaaGreat
open Go.Ev
set_option maxRecDepth 20000
theorem qe8 (k : Nat) (hk : 2000000 ≤ k) (a0 : Int) (a1z : Bool) (a1 : List (Int × Int × Int)) (a2z : Bool) (a2 : List Int) (a3z : Bool) (a3 : List Int) (a4z : Bool) (a4 : List Int) (a5 : Int) (a6 : Int) (a7 : Int) (a8 : Int) (a9 : Int) (a10 : Int) (a11 : Int) (a12 : Int) (a13 : Int) (a14 : Int) (a15 : Int) (a16 : Int) (a17 : Int) (a18 : Int) (a19 : Int) (a20 : Int) (h1 : (a1.length : Int) ≤ 1048576) (h2 : (a2.length : Int) ≤ 1048576) (h3 : (a3.length : Int) ≤ 1048576) (h4 : (a4.length : Int) ≤ 1048576) : go (k + 3) spec_l36Copy [(.agg [(.int .i64 (a0)), (.arr false (a1z) (.r3 (a1))), (.arr false (a2z) (.ints .i64 (a2))), (.arr false (a3z) (.ints .i64 (a3))), (.arr false (a4z) (.ints .i64 (a4))), (.int .i64 (a5)), (.int .i64 (a6)), (.int .i64 (a7)), (.int .i64 (a8)), (.int .i64 (a9)), (.int .i64 (a10)), (.int .i64 (a11)), (.int .i64 (a12)), (.int .i64 (a13)), (.int .i64 (a14)), (.int .i64 (a15)), (.int .i64 (a16)), (.int .i64 (a17)), (.int .i64 (a18)), (.int .i64 (a19)), (.int .i64 (a20))])] = some [.agg [.int .i64 (a0), .arr true false (.r3 (a1)), .arr true false (.ints .i64 (a2)), .arr true false (.ints .i64 (a3)), .arr true false (.ints .i64 (a4)), .int .i64 (a5), .int .i64 (a6), .int .i64 (a7), .int .i64 (a8), .int .i64 (a9), .int .i64 (a10), .int .i64 (a11), .int .i64 (a12), .int .i64 (a13), .int .i64 (a14), .int .i64 (a15), .int .i64 (a16), .int .i64 (a17), .int .i64 (a18), .int .i64 (a19), .int .i64 (a20)]] := by
  rw [qkj]
  simp (disch := omega) only [qer, qa6, nth0, qfi, qu2, qfj, qp3, qqu, qfu, qlg, qfw, qfx]
theorem qcc (k : Nat) (hk : 2000000 ≤ k) (a0 : Int) (a1 : List Cell) (a2 a3 a4 : List Int) (a5 a6 a7 a8 a9 a10 a11 a12 a13 a14 a15 a16 a17 a18 a19 a20 : Int) (h1 : (a1.length : Int) ≤ 1048576) (h2 : (a2.length : Int) ≤ 1048576) (h3 : (a3.length : Int) ≤ 1048576) (h4 : (a4.length : Int) ≤ 1048576) : go (k + 4) impl_copyWorld [.agg [.int .i64 (a0), .arr false false (.r3 (a1)), .arr false false (.ints .i64 (a2)), .arr false false (.ints .i64 (a3)), .arr false false (.ints .i64 (a4)), .int .i64 (a5), .int .i64 (a6), .int .i64 (a7), .int .i64 (a8), .int .i64 (a9), .int .i64 (a10), .int .i64 (a11), .int .i64 (a12), .int .i64 (a13), .int .i64 (a14), .int .i64 (a15), .int .i64 (a16), .int .i64 (a17), .int .i64 (a18), .int .i64 (a19), .int .i64 (a20)]] = some [.agg [.int .i64 (a0), .arr true false (.r3 (a1)), .arr true false (.ints .i64 (a2)), .arr true false (.ints .i64 (a3)), .arr true false (.ints .i64 (a4)), .int .i64 (a5), .int .i64 (a6), .int .i64 (a7), .int .i64 (a8), .int .i64 (a9), .int .i64 (a10), .int .i64 (a11), .int .i64 (a12), .int .i64 (a13), .int .i64 (a14), .int .i64 (a15), .int .i64 (a16), .int .i64 (a17), .int .i64 (a18), .int .i64 (a19), .int .i64 (a20)]] := by
  rw [qh9]
  simp (disch := omega) only [qcb, qa6, nth0, qfi, qu2, qfj, qp3, qqu, qfu, qlg, qfw, qfx]
def qgk (a0 : Int) (a1 : List Cell) (a2 a3 a4 : List Int) (a5 a6 a7 a8 a9 a10 a11 a12 a13 a14 a15 a16 a17 a18 a19 a20 pos c d : Int) : Bool :=
  qvr a0 a1 a2 a3 a4 a5 a6 a7 a8 a9 a10 a11 a12 a13 a14 a15 a16 a17 a18 a19 a20 && (inR c 1 10000 && (inR d 0 1000 && (decide (isum a2 + c ≤ 10000000) && decide (0 ≤ qnb a0 a1 pos))))
theorem qvs {a0 : Int} {a1 : List Cell} {a2 a3 a4 : List Int} {a5 a6 a7 a8 a9 a10 a11 a12 a13 a14 a15 a16 a17 a18 a19 a20 : Int} (h : qvr a0 a1 a2 a3 a4 a5 a6 a7 a8 a9 a10 a11 a12 a13 a14 a15 a16 a17 a18 a19 a20 = true) :
    StF a0 a1 a2 a3 a4 ∧ (0 ≤ a15 ∧ a15 ≤ 1000000000000000) ∧ (0 ≤ a16 ∧ a16 ≤ 1000000000000000) ∧ (0 ≤ a17 ∧ a17 ≤ 1000000000000000) ∧ (0 ≤ a18 ∧ a18 ≤ 1000000000000000) := by
  simp only [qvr, qnh, Bool.and_eq_true, qle] at h
  exact ⟨stF.1 h.1, h.2.2.2.1.1, h.2.2.2.1.2.1, h.2.2.2.1.2.2.1, h.2.2.2.1.2.2.2⟩
theorem qpy {c d : Int} (h1 : 1 ≤ c) (h2 : c ≤ 10000) (h3 : 0 ≤ d) (h4 : d ≤ 1000) : 0 ≤ c * d ∧ c * d ≤ 10000000 := by
  refine ⟨Int.mul_nonneg (by omega) h3, ?_⟩
  calc c * d ≤ 10000 * d := Int.mul_le_mul_of_nonneg_right h2 h3
    _ ≤ 10000 * 1000 := Int.mul_le_mul_of_nonneg_left h4 (by omega)
theorem qdp (k : Nat) (hk : 2000000 ≤ k) (a0 : Int) (a1z : Bool) (a1 : List (Int × Int × Int)) (a2z : Bool) (a2 : List Int) (a3z : Bool) (a3 : List Int) (a4z : Bool) (a4 : List Int) (a5 : Int) (a6 : Int) (a7 : Int) (a8 : Int) (a9 : Int) (a10 : Int) (a11 : Int) (a12 : Int) (a13 : Int) (a14 : Int) (a15 : Int) (a16 : Int) (a17 : Int) (a18 : Int) (a19 : Int) (a20 : Int) (b : Int) (c : Int) (d : Int) (h1 : (a1.length : Int) ≤ 1048576) (h2 : (a2.length : Int) ≤ 1048576) (h3 : (a3.length : Int) ≤ 1048576) (h4 : (a4.length : Int) ≤ 1048576) :
    go (k + 9) spec_Drop [(.agg [(.int .i64 (a0)), (.arr false (a1z) (.r3 (a1))), (.arr false (a2z) (.ints .i64 (a2))), (.arr false (a3z) (.ints .i64 (a3))), (.arr false (a4z) (.ints .i64 (a4))), (.int .i64 (a5)), (.int .i64 (a6)), (.int .i64 (a7)), (.int .i64 (a8)), (.int .i64 (a9)), (.int .i64 (a10)), (.int .i64 (a11)), (.int .i64 (a12)), (.int .i64 (a13)), (.int .i64 (a14)), (.int .i64 (a15)), (.int .i64 (a16)), (.int .i64 (a17)), (.int .i64 (a18)), (.int .i64 (a19)), (.int .i64 (a20))]), (.int .i64 (b)), (.int .i64 (c)), (.int .i64 (d))] = cond (qgk a0 a1 a2 a3 a4 a5 a6 a7 a8 a9 a10 a11 a12 a13 a14 a15 a16 a17 a18 a19 a20 b c d) (some [.agg [.int .i64 (a0), .arr true false (.r3 (a1)), .arr true false (.ints .i64 (a2.set (qnb a0 a1 b).toNat (a2.getD (qnb a0 a1 b).toNat 0 + c))), .arr true false (.ints .i64 (a3.set (qnb a0 a1 b).toNat (a3.getD (qnb a0 a1 b).toNat 0 + c * d))), .arr true false (.ints .i64 (a4)), .int .i64 (a5), .int .i64 (a6), .int .i64 (a7), .int .i64 (a8), .int .i64 (a9), .int .i64 (a10), .int .i64 (a11), .int .i64 (a12), .int .i64 (a13), .int .i64 (a14), .int .i64 (a15 + c), .int .i64 (a16), .int .i64 (a17 + c * d), .int .i64 (a18), .int .i64 (a19), .int .i64 (a20)], .bool true]) (some [.agg [.int .i64 (a0), .arr true false (.r3 (a1)), .arr true false (.ints .i64 (a2)), .arr true false (.ints .i64 (a3)), .arr true false (.ints .i64 (a4)), .int .i64 (a5), .int .i64 (a6), .int .i64 (a7), .int .i64 (a8), .int .i64 (a9), .int .i64 (a10), .int .i64 (a11), .int .i64 (a12), .int .i64 (a13), .int .i64 (a14), .int .i64 (a15), .int .i64 (a16), .int .i64 (a17), .int .i64 (a18), .int .i64 (a19), .int .i64 (a20)], .bool false]) := by
  rw [qiy]
  simp (disch := omega) only [qe8, qd8, bit, qee, nI, qa6, nth0, qu1, qfi, qu2, qfj, qp3, qqu, qfu, qlg, qfw, qfx, qfy, qfz, qf0, qf1, qf2, qfk, qfl, qfm, qfn, qfo, qfp, qfq, qfr, qfs, qft, qfv]
  unfold qgk
  cases g1 : qvr a0 a1 a2 a3 a4 a5 a6 a7 a8 a9 a10 a11 a12 a13 a14 a15 a16 a17 a18 a19 a20
  · simp only [Bool.not_false, qgc, qga, Bool.false_and]
  cases g2 : inR c 1 10000
  · simp only [Bool.not_false, Bool.not_true, qgc, qga, Bool.false_and, Bool.true_and]
  cases g3 : inR d 0 1000
  · simp only [Bool.not_false, Bool.not_true, qgc, qga, Bool.false_and, Bool.true_and]
  obtain ⟨F, b1, b2, b3, b4⟩ := qvs g1
  have := F.len; have := F.ml; have := F.tl; have := F.bl; have := F.rr; have sm := F.msum
  have i2 := qle.1 g2; have i3 := qle.1 g3
  have mm := qpy i2.1 i2.2 i3.1 i3.2
  have lf := qnc a0 a1 b
  simp only [Bool.not_true, qga, Bool.true_and]
  rw [qet _ (by omega) _ _ (by omega) F.mmem]
  by_cases q : isum a2 + c ≤ 10000000
  case neg => simp (disch := omega) only [qvt, qa6, nth0, qu2, dT, qgc, dF, Bool.false_and, qga]
  by_cases q2 : 0 ≤ qnb a0 a1 b
  case neg => simp (disch := omega) only [qdu, qvt, qa6, nth0, qu2, dT, dF, Bool.and_true, qga, qgc, Bool.and_false]
  have fa := F.at (qnb a0 a1 b).toNat
  obtain ⟨i, hi⟩ : ∃ i : Nat, qnb a0 a1 b = (i : Int) := ⟨(qnb a0 a1 b).toNat, by omega⟩
  rw [hi] at fa
  rw [Int.toNat_natCast] at fa
  simp (disch := omega) only [qdu, hi, qvt, qi6, Int.add_zero, qa6, nth0, qfi, qu2, qfj, qfu, qfw, dF, dT, Bool.and_true, Int.toNat_natCast, qgc, qga]
end Go.Proofs.YtoldpdhhfmlckaaGreat
end
section
namespace Go.Proofs.YtoldpdhhfmlckaaGreat
open Go.Ev
def tab (L : Nat) (g : Nat → Int) : List Int := (List.range L).map g
theorem qum (L : Nat) (g : Nat → Int) : (tab L g).length = L := by simp [tab]
theorem qul {L : Nat} {g : Nat → Int} {i : Nat} (h : i < L) : (tab L g).getD i 0 = g i := by simp [tab, h]
theorem quk {L : Nat} {g g' : Nat → Int} (h : ∀ j, j < L → g j = g' j) : tab L g = tab L g' := by
  unfold tab
  exact List.map_congr_left fun j hj => h j (by simpa using hj)
theorem qup {L : Nat} {g : Nat → Int} (i : Nat) (v : Int) : (tab L g).set i v = tab L (fun j => if j = i then v else g j) := by
  apply List.ext_getElem
  · simp [tab]
  · intro j h1 h2
    simp only [tab, List.getElem_set, List.getElem_map, List.getElem_range]
    by_cases h : i = j
    · simp [h]
    · rw [if_neg h, if_neg (fun e => h e.symm)]
theorem qun (l : List Int) : l = tab l.length (fun j => l.getD j 0) := by
  apply List.ext_getElem
  · simp [tab]
  · intro j h1 h2
    simp [tab, h1]
theorem qur (L : Nat) : List.replicate L (0 : Int) = tab L (fun _ => 0) := by
  apply List.ext_getElem
  · simp [tab]
  · intro j h1 h2; simp [tab]
theorem quw {x y B : Int} (hy : 0 < y) (h : -B ≤ x) (h' : x ≤ B) : -B ≤ Int.tdiv x y ∧ Int.tdiv x y ≤ B := by
  by_cases hx : 0 ≤ x
  · rw [Int.tdiv_eq_ediv_of_nonneg hx]
    have h1 := Int.ediv_nonneg hx (by omega : 0 ≤ y)
    have h2 := Int.ediv_le_self y hx
    omega
  · obtain ⟨z, rfl⟩ : ∃ z, x = -z := ⟨-x, by omega⟩
    rw [Int.neg_tdiv, Int.tdiv_eq_ediv_of_nonneg (by omega : 0 ≤ z)]
    have h1 := Int.ediv_nonneg (by omega : 0 ≤ z) (by omega : 0 ≤ y)
    have h2 := Int.ediv_le_self y (by omega : 0 ≤ z)
    omega
theorem qpx {x w A : Int} (hx : -A ≤ x) (hx' : x ≤ A) (hw : 0 ≤ w) (hw' : w ≤ 16) : -(16 * A) ≤ x * w ∧ x * w ≤ 16 * A := by
  have hA : 0 ≤ A := by omega
  have h1 : x * w ≤ A * w := Int.mul_le_mul_of_nonneg_right hx' hw
  have h2 : A * w ≤ A * 16 := Int.mul_le_mul_of_nonneg_left hw' hA
  have h3 : (-A) * w ≤ x * w := Int.mul_le_mul_of_nonneg_right hx hw
  have h4 : (-A) * w = -(A * w) := Int.neg_mul A w
  omega
def qtc (t p m : Int) : Int := cond (inR m 1 10000000 && (inR p 0 m && inR t 0 (1000 * m))) (Int.tdiv (t * p) m) 0
theorem qtg {t p m : Int} (hm : inR m 1 10000000 = true) (hp : inR p 0 m = true) (ht : inR t 0 (1000 * m) = true) : 0 ≤ t * p ∧ t * p ≤ 100000000000000000 := by
  rw [qle] at *
  refine ⟨Int.mul_nonneg (by omega) (by omega), ?_⟩
  calc t * p ≤ 10000000000 * p := Int.mul_le_mul_of_nonneg_right (by omega) (by omega)
    _ ≤ 10000000000 * 10000000 := Int.mul_le_mul_of_nonneg_left (by omega) (by omega)
theorem qte (t p m : Int) : 0 ≤ qtc t p m ∧ qtc t p m ≤ 100000000000000000 := by
  unfold qtc
  cases hm : inR m 1 10000000
  · simp
  cases hp : inR p 0 m
  · simp
  cases ht : inR t 0 (1000 * m)
  · simp
  have := qtg hm hp ht
  have hm' := qle.1 hm
  simp only [Bool.and_self, qgc]
  rw [Int.tdiv_eq_ediv_of_nonneg this.1]
  exact ⟨Int.ediv_nonneg this.1 (by omega), Int.le_trans (Int.ediv_le_self m this.1) this.2⟩
theorem qtf {t p m : Int} (ht : 0 ≤ t) (hp : 0 ≤ p) (h : t ≤ 1000 * m) : qtc t p m ≤ 1000 * p := by
  unfold qtc
  cases hh : (inR m 1 10000000 && (inR p 0 m && inR t 0 (1000 * m)))
  · simp only [qga]; omega
  · simp only [Bool.and_eq_true, qle] at hh
    simp only [qgc]
    rw [Int.tdiv_eq_ediv_of_nonneg (Int.mul_nonneg ht hp)]
    apply Int.ediv_le_of_le_mul (by omega)
    calc t * p ≤ (1000 * m) * p := Int.mul_le_mul_of_nonneg_right h hp
      _ = 1000 * p * m := by rw [Int.mul_assoc, Int.mul_assoc, Int.mul_comm m p]
def loOk (t m r l : Int) : Bool := inR m 1 10000000 && (inR t 0 (1000 * m) && (inR r 0 m && inR l 0 (m - r)))
def loA (t m r l : Int) : Int := cond (loOk t m r l) (qtc t r m) 0
def loB (t m r l : Int) : Int := cond (loOk t m r l) (qtc t (r + l) m - qtc t r m) 0
def quo (sa sb la lb : Int) : Int := Int.tdiv ((sa - sb) * qvl (max lb la)) (32 * (qvl la + qvl lb))
def qqh (sa sb ma mb la lb : Int) : Int := max (0 - mb / 4) (min (ma / 4) (quo sa sb la lb))
def fl (l : List Cell) (m b : List Int) (i : Nat) : Int := qqh (surf l m b i) (surf l m b (i + 1)) (m.getD i 0) (m.getD (i + 1) 0) (qnj l i) (qnj l (i + 1))
def ff (t : Int) (l : List Cell) (m b : List Int) (i : Nat) : Int := cond (qao t l i) (fl l m b i) 0
theorem qkr {t : Int} {l : List Cell} {m b : List Int} {i : Nat} (h : l.length ≤ i + 1) : ff t l m b i = 0 := by
  unfold ff qao
  rw [dF (p := i + 1 < l.length) (by omega)]; rfl
theorem qku {r : Int} {l : List Cell} {m t b : List Int} (F : StF r l m t b) (i : Nat) : 0 - m.getD (i + 1) 0 / 4 ≤ fl l m b i ∧ fl l m b i ≤ m.getD i 0 / 4 := by
  have h1 := F.at i; have h2 := F.at (i + 1)
  unfold fl qqh
  omega
theorem qks {r : Int} {l : List Cell} {m t b : List Int} (F : StF r l m t b) (tk : Int) (i : Nat) : 0 - m.getD (i + 1) 0 / 4 ≤ ff tk l m b i ∧ ff tk l m b i ≤ m.getD i 0 / 4 := by
  have h1 := F.at i; have h2 := F.at (i + 1); have h3 := qku F i
  unfold ff
  cases qao tk l i
  · simp only [qga]; omega
  · simp only [qgc]; omega
def rgt (tk : Int) (l : List Cell) (m b : List Int) (i : Nat) : Int := max 0 (ff tk l m b i)
def lft (tk : Int) (l : List Cell) (m b : List Int) (i : Nat) : Int := if 1 ≤ i then max 0 (0 - ff tk l m b (i - 1)) else 0
def outA (tk : Int) (l : List Cell) (m t b : List Int) (i : Nat) : Int := loA (t.getD i 0) (m.getD i 0) (rgt tk l m b i) (lft tk l m b i)
def outB (tk : Int) (l : List Cell) (m t b : List Int) (i : Nat) : Int := loB (t.getD i 0) (m.getD i 0) (rgt tk l m b i) (lft tk l m b i)
def stM (tk : Int) (l : List Cell) (m b : List Int) (j : Nat) : Int := m.getD j 0 - ff tk l m b j + (if 1 ≤ j then ff tk l m b (j - 1) else 0)
def stT (tk : Int) (l : List Cell) (m t b : List Int) (j : Nat) : Int := t.getD j 0 - outA tk l m t b j - outB tk l m t b j + (if 1 ≤ j then outA tk l m t b (j - 1) else 0) + outB tk l m t b (j + 1)
theorem qnm (t m l : Int) : loA t m 0 l = 0 := by
  unfold loA qtc
  cases loOk t m 0 l
  · rfl
  · simp
theorem qnn (t m r : Int) : loB t m r 0 = 0 := by
  unfold loB
  cases loOk t m r 0
  · rfl
  · simp
theorem qqc {tk : Int} {l : List Cell} {m t b : List Int} {i : Nat} (h : rgt tk l m b i = 0) : outA tk l m t b i = 0 := by unfold outA; rw [h, qnm]
theorem qqe {tk : Int} {l : List Cell} {m t b : List Int} {i : Nat} (h : lft tk l m b i = 0) : outB tk l m t b i = 0 := by unfold outB; rw [h, qnn]
theorem qqb (tk : Int) (l : List Cell) (m t b : List Int) (i : Nat) : 0 ≤ outA tk l m t b i ∧ outA tk l m t b i ≤ 100000000000000000 := by
  unfold outA loA
  cases loOk (t.getD i 0) (m.getD i 0) (rgt tk l m b i) (lft tk l m b i)
  · simp
  · exact qte _ _ _
theorem qqd (tk : Int) (l : List Cell) (m t b : List Int) (i : Nat) : -100000000000000000 ≤ outB tk l m t b i ∧ outB tk l m t b i ≤ 100000000000000000 := by
  unfold outB loB
  cases loOk (t.getD i 0) (m.getD i 0) (rgt tk l m b i) (lft tk l m b i)
  · simp
  · have h1 := qte (t.getD i 0) (rgt tk l m b i) (m.getD i 0)
    have h2 := qte (t.getD i 0) (rgt tk l m b i + lft tk l m b i) (m.getD i 0)
    simp only [qgc]; omega
def Tk (tk : Int) (l : List Cell) (m t b : List Int) (k j : Nat) : Int := t.getD j 0 - (if j < k then outA tk l m t b j + outB tk l m t b j else 0) + (if 1 ≤ j ∧ j ≤ k then outA tk l m t b (j - 1) else 0) + (if j + 1 < k then outB tk l m t b (j + 1) else 0)
def upd (G : Nat → Int) (i : Nat) (A B : Int) (j : Nat) : Int := if 1 ≤ i ∧ j = i - 1 then G j + B else if j = i + 1 then G j + A else if j = i then G j - A - B else G j
theorem qve {G : Nat → Int} {i : Nat} {A B : Int} (g : 1 ≤ i) : (fun j => if j = i - 1 then G (i - 1) + B else if j = i + 1 then G (i + 1) + A else if j = i then G i - A - B else G j) = upd G i A B := by
  funext j
  unfold upd
  by_cases q1 : j = i - 1
  · rw [if_pos q1, if_pos ⟨g, q1⟩, q1]
  · rw [if_neg q1, if_neg (show ¬ (1 ≤ i ∧ j = i - 1) from fun hh => q1 hh.2)]
    by_cases q2 : j = i + 1
    · rw [if_pos q2, if_pos q2, q2]
    · rw [if_neg q2, if_neg q2]
      by_cases q3 : j = i
      · rw [if_pos q3, if_pos q3, q3]
      · rw [if_neg q3, if_neg q3]
theorem qvd {G : Nat → Int} {i : Nat} {A B : Int} (hB : B = 0) : (fun j => if j = i + 1 then G (i + 1) + A else if j = i then G i - A - B else G j) = upd G i A B := by
  funext j
  unfold upd
  by_cases q1 : 1 ≤ i ∧ j = i - 1
  · rw [if_pos q1, if_neg (by omega), if_neg (by omega), hB]; omega
  · rw [if_neg q1]
    by_cases q2 : j = i + 1
    · rw [if_pos q2, if_pos q2, q2]
    · rw [if_neg q2, if_neg q2]
      by_cases q3 : j = i
      · rw [if_pos q3, if_pos q3, q3]
      · rw [if_neg q3, if_neg q3]
theorem qvc {G : Nat → Int} {i : Nat} {A B : Int} (g : 1 ≤ i) (hA : A = 0) : (fun j => if j = i - 1 then G (i - 1) + B else if j = i then G i - A - B else G j) = upd G i A B := by
  funext j
  unfold upd
  by_cases q1 : j = i - 1
  · rw [if_pos q1, if_pos ⟨g, q1⟩, q1]
  · rw [if_neg q1, if_neg (show ¬ (1 ≤ i ∧ j = i - 1) from fun hh => q1 hh.2)]
    by_cases q2 : j = i + 1
    · rw [if_pos q2, if_neg (by omega), hA]; omega
    · rw [if_neg q2]
      by_cases q3 : j = i
      · rw [if_pos q3, if_pos q3, q3]
      · rw [if_neg q3, if_neg q3]
theorem qvb {G : Nat → Int} {i : Nat} {A B : Int} (hA : A = 0) (hB : B = 0) : (fun j => if j = i then G i - A - B else G j) = upd G i A B := by
  funext j
  unfold upd
  by_cases q1 : 1 ≤ i ∧ j = i - 1
  · rw [if_pos q1, if_neg (by omega), hB]; omega
  · rw [if_neg q1]
    by_cases q2 : j = i + 1
    · rw [if_pos q2, if_neg (by omega), hA]; omega
    · rw [if_neg q2]
      by_cases q3 : j = i
      · rw [if_pos q3, if_pos q3, q3]
      · rw [if_neg q3, if_neg q3]
theorem qam (tk : Int) (l : List Cell) (m t b : List Int) (i : Nat) (hi : i < l.length) :
    tab l.length (upd (Tk tk l m t b i) i (outA tk l m t b i) (outB tk l m t b i)) = tab l.length (Tk tk l m t b (i + 1)) := quk fun j hj => by
  unfold upd
  by_cases g1 : 1 ≤ i ∧ j = i - 1
  · obtain ⟨g1, rfl⟩ := g1
    rw [if_pos ⟨g1, rfl⟩]
    unfold Tk
    rw [if_pos (show i - 1 < i by omega), if_neg (show ¬ (i - 1 + 1 < i) by omega), if_pos (show i - 1 < i + 1 by omega), if_pos (show i - 1 + 1 < i + 1 by omega), show i - 1 + 1 = i by omega]
    have e2 : (1 ≤ i - 1 ∧ i - 1 ≤ i) = (1 ≤ i - 1 ∧ i - 1 ≤ i + 1) := by rw [eq_iff_iff]; omega
    simp only [e2]; omega
  · rw [if_neg g1]
    by_cases g2 : j = i + 1
    · subst g2
      rw [if_pos rfl]
      unfold Tk
      rw [if_neg (show ¬ (i + 1 < i) by omega), if_neg (show ¬ (1 ≤ i + 1 ∧ i + 1 ≤ i) by omega), if_neg (show ¬ (i + 1 + 1 < i) by omega), if_neg (show ¬ (i + 1 < i + 1) by omega), if_pos (show 1 ≤ i + 1 ∧ i + 1 ≤ i + 1 by omega), if_neg (show ¬ (i + 1 + 1 < i + 1) by omega), Nat.add_sub_cancel]; omega
    · rw [if_neg g2]
      by_cases g3 : j = i
      · subst g3
        rw [if_pos rfl]
        unfold Tk
        rw [if_neg (show ¬ (j < j) by omega), if_neg (show ¬ (j + 1 < j) by omega), if_pos (show j < j + 1 by omega), if_neg (show ¬ (j + 1 < j + 1) by omega)]
        have e2 : (1 ≤ j ∧ j ≤ j) = (1 ≤ j ∧ j ≤ j + 1) := by rw [eq_iff_iff]; omega
        simp only [e2]; omega
      · rw [if_neg g3]
        unfold Tk
        have e1 : (j < i) = (j < i + 1) := by rw [eq_iff_iff]; omega
        have e2 : (1 ≤ j ∧ j ≤ i) = (1 ≤ j ∧ j ≤ i + 1) := by rw [eq_iff_iff]; omega
        have e3 : (j + 1 < i) = (j + 1 < i + 1) := by rw [eq_iff_iff]; omega
        simp only [e1, e2, e3]
theorem qal (tk : Int) (l : List Cell) (m t b : List Int) (hm : m.length = l.length) : tab l.length (Tk tk l m t b l.length) = tab l.length (stT tk l m t b) := quk fun j hj => by
  unfold Tk stT
  rw [if_pos hj]
  have e2 : (1 ≤ j ∧ j ≤ l.length) = (1 ≤ j) := by rw [eq_iff_iff]; omega
  simp only [e2]
  by_cases g : j + 1 < l.length
  · rw [if_pos g]; omega
  · rw [if_neg g]
    have : outB tk l m t b (j + 1) = 0 := by
      apply qqe
      unfold lft
      rw [if_pos (by omega), Nat.add_sub_cancel, qkr (by omega)]; rfl
    omega
theorem qan (tk : Int) (l : List Cell) (m t b : List Int) (ht : t.length = l.length) : t = tab l.length (Tk tk l m t b 0) := by
  have h := qun t
  rw [ht] at h
  refine h.trans (quk fun j hj => ?_)
  unfold Tk
  rw [if_neg (by omega), if_neg (by omega), if_neg (by omega)]; omega
end Go.Proofs.YtoldpdhhfmlckaaGreat
end
section
namespace Go.Proofs.YtoldpdhhfmlckaaGreat
open Go.Ev
theorem qj4 (k : Nat) (a b c d e f : Int) : go (k + 1) spec_l09Pair [(.int .i64 (a)), (.int .i64 (b)), (.int .i64 (c)), (.int .i64 (d)), (.int .i64 (e)), (.int .i64 (f))] =
 (go k spec_WidthOf [(.int .i64 (if f > e then f else e))]).bind fun r0 =>
 (go k spec_WidthOf [(.int .i64 (e))]).bind fun r1 =>
 (go k spec_WidthOf [(.int .i64 (f))]).bind fun r2 =>
 (go k spec_DivTrunc [(.int .i64 (IntKind.wrap .i64 (IntKind.wrap .i64 (a - b) * D.toInt (nth r0 0)))), (.int .i64 (IntKind.wrap .i64 ((32 : Int) * IntKind.wrap .i64 (D.toInt (nth r1 0) + D.toInt (nth r2 0)))))]).bind fun r3 =>
 some [(.int .i64 (if IntKind.wrap .i64 ((0 : Int) - IntKind.wrap .i64 (Int.tdiv d (4 : Int))) > if IntKind.wrap .i64 (Int.tdiv c (4 : Int)) < D.toInt (nth r3 0) then IntKind.wrap .i64 (Int.tdiv c (4 : Int)) else D.toInt (nth r3 0) then IntKind.wrap .i64 ((0 : Int) - IntKind.wrap .i64 (Int.tdiv d (4 : Int))) else if IntKind.wrap .i64 (Int.tdiv c (4 : Int)) < D.toInt (nth r3 0) then IntKind.wrap .i64 (Int.tdiv c (4 : Int)) else D.toInt (nth r3 0)))] := by kernel_rfl
theorem qj2 (k : Nat) (a0 : Int) (a1z : Bool) (a1 : List (Int × Int × Int)) (a2z : Bool) (a2 : List Int) (a3z : Bool) (a3 : List Int) (a4z : Bool) (a4 : List Int) (b : Int) : go (k + 1) spec_l09Flux [(.agg [(.int .i64 (a0)), (.arr false (a1z) (.r3 (a1))), (.arr false (a2z) (.ints .i64 (a2))), (.arr false (a3z) (.ints .i64 (a3))), (.arr false (a4z) (.ints .i64 (a4)))]), (.int .i64 (b))] =
 (go k spec_l09Surface [(.agg [(.int .i64 (a0)), (.arr false (a1z) (.r3 (a1))), (.arr false (a2z) (.ints .i64 (a2))), (.arr false (a3z) (.ints .i64 (a3))), (.arr false (a4z) (.ints .i64 (a4)))]), (.int .i64 (b))]).bind fun r0 =>
 (go k spec_l09Surface [(.agg [(.int .i64 (a0)), (.arr false (a1z) (.r3 (a1))), (.arr false (a2z) (.ints .i64 (a2))), (.arr false (a3z) (.ints .i64 (a3))), (.arr false (a4z) (.ints .i64 (a4)))]), (.int .i64 (IntKind.wrap .i64 (b + (1 : Int))))]).bind fun r1 =>
 cond (decide ((0 : Int) ≤ b) && decide (b < nI (List.length a2)))
 (cond (decide ((0 : Int) ≤ IntKind.wrap .i64 (b + (1 : Int))) && decide (IntKind.wrap .i64 (b + (1 : Int)) < nI (List.length a2)))
 (cond (decide ((0 : Int) ≤ b) && decide (b < nI (List.length a1)))
 (cond (decide ((0 : Int) ≤ IntKind.wrap .i64 (b + (1 : Int))) && decide (IntKind.wrap .i64 (b + (1 : Int)) < nI (List.length a1)))
 ((go k spec_l09Pair [(.int .i64 (D.toInt (nth r0 0))), (.int .i64 (D.toInt (nth r1 0))), (.int .i64 (List.getD a2 (Int.toNat b) (0 : Int))), (.int .i64 (List.getD a2 (Int.toNat (IntKind.wrap .i64 (b + (1 : Int)))) (0 : Int))), (.int .i64 (Prod.fst (Prod.snd (List.getD a1 (Int.toNat b) zz3)))), (.int .i64 (Prod.fst (Prod.snd (List.getD a1 (Int.toNat (IntKind.wrap .i64 (b + (1 : Int)))) zz3))))]).bind fun r2 =>
 some [(.int .i64 (D.toInt (nth r2 0)))])
 (none))
 (none))
 (none))
 (none) := by kernel_rfl
theorem qi5 (k : Nat) (a b c d : Int) : go (k + 1) spec_LeafOut [(.int .i64 (a)), (.int .i64 (b)), (.int .i64 (c)), (.int .i64 (d))] =
 (go k spec_l01In [(.int .i64 (b)), (.int .i64 ((1 : Int))), (.int .i64 ((10000000 : Int)))]).bind fun r0 =>
 cond (!bit (nth r0 0))
 (some [(.int .i64 (0 : Int)), (.int .i64 (0 : Int))])
 ((go k spec_l01In [(.int .i64 (a)), (.int .i64 (0 : Int)), (.int .i64 (IntKind.wrap .i64 ((1000 : Int) * b)))]).bind fun r1 =>
 cond (!bit (nth r1 0))
 (some [(.int .i64 (0 : Int)), (.int .i64 (0 : Int))])
 ((go k spec_l01In [(.int .i64 (c)), (.int .i64 (0 : Int)), (.int .i64 (b))]).bind fun r2 =>
 cond (!bit (nth r2 0))
 (some [(.int .i64 (0 : Int)), (.int .i64 (0 : Int))])
 ((go k spec_l01In [(.int .i64 (d)), (.int .i64 (0 : Int)), (.int .i64 (IntKind.wrap .i64 (b - c)))]).bind fun r3 =>
 cond (!bit (nth r3 0))
 (some [(.int .i64 (0 : Int)), (.int .i64 (0 : Int))])
 ((go k spec_ShareOut [(.int .i64 (a)), (.int .i64 (c)), (.int .i64 (b))]).bind fun r4 =>
 (go k spec_ShareOut [(.int .i64 (a)), (.int .i64 (IntKind.wrap .i64 (c + d))), (.int .i64 (b))]).bind fun r5 =>
 some [(.int .i64 (D.toInt (nth r4 0))), (.int .i64 (IntKind.wrap .i64 (D.toInt (nth r5 0) - D.toInt (nth r4 0))))])))) := by kernel_rfl
theorem qja (k : Nat) (a b c : Int) : go (k + 1) spec_ShareOut [(.int .i64 (a)), (.int .i64 (b)), (.int .i64 (c))] =
 (go k spec_l01In [(.int .i64 (c)), (.int .i64 ((1 : Int))), (.int .i64 ((10000000 : Int)))]).bind fun r0 =>
 cond (!bit (nth r0 0))
 (some [(.int .i64 (0 : Int))])
 ((go k spec_l01In [(.int .i64 (b)), (.int .i64 (0 : Int)), (.int .i64 (c))]).bind fun r1 =>
 cond (!bit (nth r1 0))
 (some [(.int .i64 (0 : Int))])
 ((go k spec_l01In [(.int .i64 (a)), (.int .i64 (0 : Int)), (.int .i64 (IntKind.wrap .i64 ((1000 : Int) * c)))]).bind fun r2 =>
 cond (!bit (nth r2 0))
 (some [(.int .i64 (0 : Int))])
 (cond (!decide (c = (0 : Int)))
 (some [(.int .i64 (IntKind.wrap .i64 (Int.tdiv (IntKind.wrap .i64 (a * b)) c)))])
 (none)))) := by kernel_rfl
theorem qiv (k : Nat) (a b : Int) : go (k + 1) spec_DivTrunc [(.int .i64 (a)), (.int .i64 (b))] =
 cond (decide (b ≤ (0 : Int)))
 (some [(.int .i64 (0 : Int))])
 (cond (!decide (b = (0 : Int)))
 (some [(.int .i64 (IntKind.wrap .i64 (Int.tdiv a b)))])
 (none)) := by kernel_rfl
def qsv (x0 : Int) (z1 : Bool) (l2 : List (Int × Int × Int)) (z3 : Bool) (l4 : List Int) (z5 : Bool) (l6 : List Int) (z7 : Bool) (l8 : List Int) (x9 : Int) (z10 : Bool) (l11 : List (Int × Int × Int)) (z12 : Bool) (l13 : List Int) (z14 : Bool) (l15 : List Int) (z16 : Bool) (l17 : List Int) (x18 : Int) (z19 : Bool) (l20 : List (Int × Int × Int)) (z21 : Bool) (l22 : List Int) (z23 : Bool) (l24 : List Int) (z25 : Bool) (l26 : List Int) (x27 : Int) (z28 : Bool) (l29 : List Int) : St := ⟨fill 151 [(2, (.ptr 4 (0) (0))), (4, (.ptr 9 (0) (0))), (5, (.ptr 14 (0) (0))), (6, (.sl 15 none)), (8, (.int .i64 (x0)))], [], [(.arr false (z1) (.r3 (l2))), (.arr false (z3) (.ints .i64 (l4))), (.arr false (z5) (.ints .i64 (l6))), (.arr false (z7) (.ints .i64 (l8))), (.box true [(.int .i64 (x9)), (.sl 0 none), (.sl 1 none), (.sl 2 none), (.sl 3 none)]), (.arr true (z10) (.r3 (l11))), (.arr true (z12) (.ints .i64 (l13))), (.arr true (z14) (.ints .i64 (l15))), (.arr true (z16) (.ints .i64 (l17))), (.box true [(.int .i64 (x18)), (.sl 5 none), (.sl 6 none), (.sl 7 none), (.sl 8 none)]), (.arr true (z19) (.r3 (l20))), (.arr true (z21) (.ints .i64 (l22))), (.arr true (z23) (.ints .i64 (l24))), (.arr true (z25) (.ints .i64 (l26))), (.box true [(.int .i64 (x27)), (.sl 10 none), (.sl 11 none), (.sl 12 none), (.sl 13 none)]), (.arr true (z28) (.ints .i64 (l29)))]⟩
def qsw (x0 x1 : Int) (z2 : Bool) (l3 : List (Int × Int × Int)) (z4 : Bool) (l5 : List Int) (z6 : Bool) (l7 : List Int) (z8 : Bool) (l9 : List Int) (x10 : Int) (z11 : Bool) (l12 : List (Int × Int × Int)) (z13 : Bool) (l14 : List Int) (z15 : Bool) (l16 : List Int) (z17 : Bool) (l18 : List Int) (x19 : Int) (z20 : Bool) (l21 : List (Int × Int × Int)) (z22 : Bool) (l23 : List Int) (z24 : Bool) (l25 : List Int) (z26 : Bool) (l27 : List Int) (x28 : Int) (z29 : Bool) (l30 : List Int) : St := ⟨fill 151 [(1, (.int .i64 (x0))), (2, (.ptr 4 (0) (0))), (4, (.ptr 9 (0) (0))), (5, (.ptr 14 (0) (0))), (6, (.sl 15 none)), (7, (.int .i64 (x1)))], [], [(.arr false (z2) (.r3 (l3))), (.arr false (z4) (.ints .i64 (l5))), (.arr false (z6) (.ints .i64 (l7))), (.arr false (z8) (.ints .i64 (l9))), (.box true [(.int .i64 (x10)), (.sl 0 none), (.sl 1 none), (.sl 2 none), (.sl 3 none)]), (.arr true (z11) (.r3 (l12))), (.arr true (z13) (.ints .i64 (l14))), (.arr true (z15) (.ints .i64 (l16))), (.arr true (z17) (.ints .i64 (l18))), (.box true [(.int .i64 (x19)), (.sl 5 none), (.sl 6 none), (.sl 7 none), (.sl 8 none)]), (.arr true (z20) (.r3 (l21))), (.arr true (z22) (.ints .i64 (l23))), (.arr true (z24) (.ints .i64 (l25))), (.arr true (z26) (.ints .i64 (l27))), (.box true [(.int .i64 (x28)), (.sl 10 none), (.sl 11 none), (.sl 12 none), (.sl 13 none)]), (.arr true (z29) (.ints .i64 (l30)))]⟩
theorem qj6 (k : Nat) (a0 : Int) (a1z : Bool) (a1 : List (Int × Int × Int)) (a2z : Bool) (a2 : List Int) (a3z : Bool) (a3 : List Int) (a4z : Bool) (a4 : List Int) (b : Int) : go (k + 1) spec_l11Step [(.agg [(.int .i64 (a0)), (.arr false (a1z) (.r3 (a1))), (.arr false (a2z) (.ints .i64 (a2))), (.arr false (a3z) (.ints .i64 (a3))), (.arr false (a4z) (.ints .i64 (a4)))]), (.int .i64 (b))] =
 (go k spec_l07Copy [(.agg [(.int .i64 (a0)), (.arr false (a1z) (.r3 (a1))), (.arr false (a2z) (.ints .i64 (a2))), (.arr false (a3z) (.ints .i64 (a3))), (.arr false (a4z) (.ints .i64 (a4)))])]).bind fun r0 =>
 cond (decide ((0 : Int) ≤ nI (List.length a2)) && decide (nI (List.length a2) ≤ nI (List.length a2)) && decide (nI (List.length a2) ≤ nI bigLen))
 (lp k spec_l11Step [] [] 4 k (qsw b (0 : Int) a1z a1 a2z a2 a3z a3 a4z a4 a0 true ([]) true ([]) true ([]) true ([]) (0 : Int) (D.nil (D.cell 1 (nth r0 0))) (D.r3 (D.cell 1 (nth r0 0))) (D.nil (D.cell 2 (nth r0 0))) (D.ints (D.cell 2 (nth r0 0))) (D.nil (D.cell 3 (nth r0 0))) (D.ints (D.cell 3 (nth r0 0))) (D.nil (D.cell 4 (nth r0 0))) (D.ints (D.cell 4 (nth r0 0))) (D.toInt (D.cell 0 (nth r0 0))) false (List.replicate (Int.toNat (nI (List.length a2))) (0 : Int))))
 (none) := by kernel_rfl
theorem qm1 (k n : Nat) (fu : List (Nat × Nat)) (x0 : Int) (z1 : Bool) (l2 : List (Int × Int × Int)) (z3 : Bool) (l4 : List Int) (z5 : Bool) (l6 : List Int) (z7 : Bool) (l8 : List Int) (x9 : Int) (z10 : Bool) (l11 : List (Int × Int × Int)) (z12 : Bool) (l13 : List Int) (z14 : Bool) (l15 : List Int) (z16 : Bool) (l17 : List Int) (x18 : Int) (z19 : Bool) (l20 : List (Int × Int × Int)) (z21 : Bool) (l22 : List Int) (z23 : Bool) (l24 : List Int) (z25 : Bool) (l26 : List Int) (x27 : Int) (z28 : Bool) (l29 : List Int) : lp k spec_l11Step [] fu 11 (n + 1) (qsv x0 z1 l2 z3 l4 z5 l6 z7 l8 x9 z10 l11 z12 l13 z14 l15 z16 l17 x18 z19 l20 z21 l22 z23 l24 z25 l26 x27 z28 l29) =
 cond (decide (x0 < nI (List.length l4)))
 (cond (decide ((0 : Int) ≤ x0) && decide (x0 < nI (List.length l29)))
 (cond (decide ((0 : Int) < x0))
 (cond (decide ((0 : Int) ≤ IntKind.wrap .i64 (x0 - (1 : Int))) && decide (IntKind.wrap .i64 (x0 - (1 : Int)) < nI (List.length l29)))
 (cond (decide ((0 : Int) ≤ x0) && decide (x0 < nI (List.length l6)))
 (cond (decide ((0 : Int) ≤ x0) && decide (x0 < nI (List.length l4)))
 ((go k spec_LeafOut [(.int .i64 (List.getD l6 (Int.toNat x0) (0 : Int))), (.int .i64 (List.getD l4 (Int.toNat x0) (0 : Int))), (.int .i64 (if (0 : Int) > List.getD l29 (Int.toNat x0) (0 : Int) then (0 : Int) else List.getD l29 (Int.toNat x0) (0 : Int))), (.int .i64 (if (0 : Int) > IntKind.wrap .i64 ((0 : Int) - List.getD l29 (Int.toNat (IntKind.wrap .i64 (x0 - (1 : Int)))) (0 : Int)) then (0 : Int) else IntKind.wrap .i64 ((0 : Int) - List.getD l29 (Int.toNat (IntKind.wrap .i64 (x0 - (1 : Int)))) (0 : Int))))]).bind fun r0 =>
 cond (decide ((0 : Int) ≤ x0) && decide (x0 < nI (List.length l24)))
 (cond (decide ((0 : Int) ≤ x0) && decide (x0 < nI (List.length l24)))
 (cond (decide ((0 : Int) < if (0 : Int) > List.getD l29 (Int.toNat x0) (0 : Int) then (0 : Int) else List.getD l29 (Int.toNat x0) (0 : Int)))
 (cond (decide ((0 : Int) ≤ IntKind.wrap .i64 (x0 + (1 : Int))) && decide (IntKind.wrap .i64 (x0 + (1 : Int)) < nI (List.length (List.set l24 (Int.toNat x0) (IntKind.wrap .i64 (IntKind.wrap .i64 (List.getD l24 (Int.toNat x0) (0 : Int) - D.toInt (nth r0 0)) - D.toInt (nth r0 1)))))))
 (cond (decide ((0 : Int) ≤ IntKind.wrap .i64 (x0 + (1 : Int))) && decide (IntKind.wrap .i64 (x0 + (1 : Int)) < nI (List.length (List.set l24 (Int.toNat x0) (IntKind.wrap .i64 (IntKind.wrap .i64 (List.getD l24 (Int.toNat x0) (0 : Int) - D.toInt (nth r0 0)) - D.toInt (nth r0 1)))))))
 (cond (decide ((0 : Int) < if (0 : Int) > IntKind.wrap .i64 ((0 : Int) - List.getD l29 (Int.toNat (IntKind.wrap .i64 (x0 - (1 : Int)))) (0 : Int)) then (0 : Int) else IntKind.wrap .i64 ((0 : Int) - List.getD l29 (Int.toNat (IntKind.wrap .i64 (x0 - (1 : Int)))) (0 : Int))))
 (cond (decide ((0 : Int) ≤ IntKind.wrap .i64 (x0 - (1 : Int))) && decide (IntKind.wrap .i64 (x0 - (1 : Int)) < nI (List.length (List.set (List.set l24 (Int.toNat x0) (IntKind.wrap .i64 (IntKind.wrap .i64 (List.getD l24 (Int.toNat x0) (0 : Int) - D.toInt (nth r0 0)) - D.toInt (nth r0 1)))) (Int.toNat (IntKind.wrap .i64 (x0 + (1 : Int)))) (IntKind.wrap .i64 (List.getD (List.set l24 (Int.toNat x0) (IntKind.wrap .i64 (IntKind.wrap .i64 (List.getD l24 (Int.toNat x0) (0 : Int) - D.toInt (nth r0 0)) - D.toInt (nth r0 1)))) (Int.toNat (IntKind.wrap .i64 (x0 + (1 : Int)))) (0 : Int) + D.toInt (nth r0 0)))))))
 (cond (decide ((0 : Int) ≤ IntKind.wrap .i64 (x0 - (1 : Int))) && decide (IntKind.wrap .i64 (x0 - (1 : Int)) < nI (List.length (List.set (List.set l24 (Int.toNat x0) (IntKind.wrap .i64 (IntKind.wrap .i64 (List.getD l24 (Int.toNat x0) (0 : Int) - D.toInt (nth r0 0)) - D.toInt (nth r0 1)))) (Int.toNat (IntKind.wrap .i64 (x0 + (1 : Int)))) (IntKind.wrap .i64 (List.getD (List.set l24 (Int.toNat x0) (IntKind.wrap .i64 (IntKind.wrap .i64 (List.getD l24 (Int.toNat x0) (0 : Int) - D.toInt (nth r0 0)) - D.toInt (nth r0 1)))) (Int.toNat (IntKind.wrap .i64 (x0 + (1 : Int)))) (0 : Int) + D.toInt (nth r0 0)))))))
 (lp k spec_l11Step [] fu 11 n (qsv (IntKind.wrap .i64 (x0 + (1 : Int))) z1 l2 z3 l4 z5 l6 z7 l8 x9 z10 l11 z12 l13 z14 l15 z16 l17 x18 z19 l20 z21 l22 z23 (List.set (List.set (List.set l24 (Int.toNat x0) (IntKind.wrap .i64 (IntKind.wrap .i64 (List.getD l24 (Int.toNat x0) (0 : Int) - D.toInt (nth r0 0)) - D.toInt (nth r0 1)))) (Int.toNat (IntKind.wrap .i64 (x0 + (1 : Int)))) (IntKind.wrap .i64 (List.getD (List.set l24 (Int.toNat x0) (IntKind.wrap .i64 (IntKind.wrap .i64 (List.getD l24 (Int.toNat x0) (0 : Int) - D.toInt (nth r0 0)) - D.toInt (nth r0 1)))) (Int.toNat (IntKind.wrap .i64 (x0 + (1 : Int)))) (0 : Int) + D.toInt (nth r0 0)))) (Int.toNat (IntKind.wrap .i64 (x0 - (1 : Int)))) (IntKind.wrap .i64 (List.getD (List.set (List.set l24 (Int.toNat x0) (IntKind.wrap .i64 (IntKind.wrap .i64 (List.getD l24 (Int.toNat x0) (0 : Int) - D.toInt (nth r0 0)) - D.toInt (nth r0 1)))) (Int.toNat (IntKind.wrap .i64 (x0 + (1 : Int)))) (IntKind.wrap .i64 (List.getD (List.set l24 (Int.toNat x0) (IntKind.wrap .i64 (IntKind.wrap .i64 (List.getD l24 (Int.toNat x0) (0 : Int) - D.toInt (nth r0 0)) - D.toInt (nth r0 1)))) (Int.toNat (IntKind.wrap .i64 (x0 + (1 : Int)))) (0 : Int) + D.toInt (nth r0 0)))) (Int.toNat (IntKind.wrap .i64 (x0 - (1 : Int)))) (0 : Int) + D.toInt (nth r0 1)))) z25 l26 x27 z28 l29))
 (none))
 (none))
 (lp k spec_l11Step [] fu 11 n (qsv (IntKind.wrap .i64 (x0 + (1 : Int))) z1 l2 z3 l4 z5 l6 z7 l8 x9 z10 l11 z12 l13 z14 l15 z16 l17 x18 z19 l20 z21 l22 z23 (List.set (List.set l24 (Int.toNat x0) (IntKind.wrap .i64 (IntKind.wrap .i64 (List.getD l24 (Int.toNat x0) (0 : Int) - D.toInt (nth r0 0)) - D.toInt (nth r0 1)))) (Int.toNat (IntKind.wrap .i64 (x0 + (1 : Int)))) (IntKind.wrap .i64 (List.getD (List.set l24 (Int.toNat x0) (IntKind.wrap .i64 (IntKind.wrap .i64 (List.getD l24 (Int.toNat x0) (0 : Int) - D.toInt (nth r0 0)) - D.toInt (nth r0 1)))) (Int.toNat (IntKind.wrap .i64 (x0 + (1 : Int)))) (0 : Int) + D.toInt (nth r0 0)))) z25 l26 x27 z28 l29)))
 (none))
 (none))
 (cond (decide ((0 : Int) < if (0 : Int) > IntKind.wrap .i64 ((0 : Int) - List.getD l29 (Int.toNat (IntKind.wrap .i64 (x0 - (1 : Int)))) (0 : Int)) then (0 : Int) else IntKind.wrap .i64 ((0 : Int) - List.getD l29 (Int.toNat (IntKind.wrap .i64 (x0 - (1 : Int)))) (0 : Int))))
 (cond (decide ((0 : Int) ≤ IntKind.wrap .i64 (x0 - (1 : Int))) && decide (IntKind.wrap .i64 (x0 - (1 : Int)) < nI (List.length (List.set l24 (Int.toNat x0) (IntKind.wrap .i64 (IntKind.wrap .i64 (List.getD l24 (Int.toNat x0) (0 : Int) - D.toInt (nth r0 0)) - D.toInt (nth r0 1)))))))
 (cond (decide ((0 : Int) ≤ IntKind.wrap .i64 (x0 - (1 : Int))) && decide (IntKind.wrap .i64 (x0 - (1 : Int)) < nI (List.length (List.set l24 (Int.toNat x0) (IntKind.wrap .i64 (IntKind.wrap .i64 (List.getD l24 (Int.toNat x0) (0 : Int) - D.toInt (nth r0 0)) - D.toInt (nth r0 1)))))))
 (lp k spec_l11Step [] fu 11 n (qsv (IntKind.wrap .i64 (x0 + (1 : Int))) z1 l2 z3 l4 z5 l6 z7 l8 x9 z10 l11 z12 l13 z14 l15 z16 l17 x18 z19 l20 z21 l22 z23 (List.set (List.set l24 (Int.toNat x0) (IntKind.wrap .i64 (IntKind.wrap .i64 (List.getD l24 (Int.toNat x0) (0 : Int) - D.toInt (nth r0 0)) - D.toInt (nth r0 1)))) (Int.toNat (IntKind.wrap .i64 (x0 - (1 : Int)))) (IntKind.wrap .i64 (List.getD (List.set l24 (Int.toNat x0) (IntKind.wrap .i64 (IntKind.wrap .i64 (List.getD l24 (Int.toNat x0) (0 : Int) - D.toInt (nth r0 0)) - D.toInt (nth r0 1)))) (Int.toNat (IntKind.wrap .i64 (x0 - (1 : Int)))) (0 : Int) + D.toInt (nth r0 1)))) z25 l26 x27 z28 l29))
 (none))
 (none))
 (lp k spec_l11Step [] fu 11 n (qsv (IntKind.wrap .i64 (x0 + (1 : Int))) z1 l2 z3 l4 z5 l6 z7 l8 x9 z10 l11 z12 l13 z14 l15 z16 l17 x18 z19 l20 z21 l22 z23 (List.set l24 (Int.toNat x0) (IntKind.wrap .i64 (IntKind.wrap .i64 (List.getD l24 (Int.toNat x0) (0 : Int) - D.toInt (nth r0 0)) - D.toInt (nth r0 1)))) z25 l26 x27 z28 l29))))
 (none))
 (none))
 (none))
 (none))
 (none))
 (cond (decide ((0 : Int) ≤ x0) && decide (x0 < nI (List.length l6)))
 (cond (decide ((0 : Int) ≤ x0) && decide (x0 < nI (List.length l4)))
 ((go k spec_LeafOut [(.int .i64 (List.getD l6 (Int.toNat x0) (0 : Int))), (.int .i64 (List.getD l4 (Int.toNat x0) (0 : Int))), (.int .i64 (if (0 : Int) > List.getD l29 (Int.toNat x0) (0 : Int) then (0 : Int) else List.getD l29 (Int.toNat x0) (0 : Int))), (.int .i64 (0 : Int))]).bind fun r1 =>
 cond (decide ((0 : Int) ≤ x0) && decide (x0 < nI (List.length l24)))
 (cond (decide ((0 : Int) ≤ x0) && decide (x0 < nI (List.length l24)))
 (cond (decide ((0 : Int) < if (0 : Int) > List.getD l29 (Int.toNat x0) (0 : Int) then (0 : Int) else List.getD l29 (Int.toNat x0) (0 : Int)))
 (cond (decide ((0 : Int) ≤ IntKind.wrap .i64 (x0 + (1 : Int))) && decide (IntKind.wrap .i64 (x0 + (1 : Int)) < nI (List.length (List.set l24 (Int.toNat x0) (IntKind.wrap .i64 (IntKind.wrap .i64 (List.getD l24 (Int.toNat x0) (0 : Int) - D.toInt (nth r1 0)) - D.toInt (nth r1 1)))))))
 (cond (decide ((0 : Int) ≤ IntKind.wrap .i64 (x0 + (1 : Int))) && decide (IntKind.wrap .i64 (x0 + (1 : Int)) < nI (List.length (List.set l24 (Int.toNat x0) (IntKind.wrap .i64 (IntKind.wrap .i64 (List.getD l24 (Int.toNat x0) (0 : Int) - D.toInt (nth r1 0)) - D.toInt (nth r1 1)))))))
 (lp k spec_l11Step [] fu 11 n (qsv (IntKind.wrap .i64 (x0 + (1 : Int))) z1 l2 z3 l4 z5 l6 z7 l8 x9 z10 l11 z12 l13 z14 l15 z16 l17 x18 z19 l20 z21 l22 z23 (List.set (List.set l24 (Int.toNat x0) (IntKind.wrap .i64 (IntKind.wrap .i64 (List.getD l24 (Int.toNat x0) (0 : Int) - D.toInt (nth r1 0)) - D.toInt (nth r1 1)))) (Int.toNat (IntKind.wrap .i64 (x0 + (1 : Int)))) (IntKind.wrap .i64 (List.getD (List.set l24 (Int.toNat x0) (IntKind.wrap .i64 (IntKind.wrap .i64 (List.getD l24 (Int.toNat x0) (0 : Int) - D.toInt (nth r1 0)) - D.toInt (nth r1 1)))) (Int.toNat (IntKind.wrap .i64 (x0 + (1 : Int)))) (0 : Int) + D.toInt (nth r1 0)))) z25 l26 x27 z28 l29))
 (none))
 (none))
 (lp k spec_l11Step [] fu 11 n (qsv (IntKind.wrap .i64 (x0 + (1 : Int))) z1 l2 z3 l4 z5 l6 z7 l8 x9 z10 l11 z12 l13 z14 l15 z16 l17 x18 z19 l20 z21 l22 z23 (List.set l24 (Int.toNat x0) (IntKind.wrap .i64 (IntKind.wrap .i64 (List.getD l24 (Int.toNat x0) (0 : Int) - D.toInt (nth r1 0)) - D.toInt (nth r1 1)))) z25 l26 x27 z28 l29)))
 (none))
 (none))
 (none))
 (none)))
 (none))
 (some [(.agg [(.int .i64 (x27)), (.arr true (z19) (.r3 (l20))), (.arr true (z21) (.ints .i64 (l22))), (.arr true (z23) (.ints .i64 (l24))), (.arr true (z25) (.ints .i64 (l26)))])]) := by kernel_rfl
theorem qm2 (k n : Nat) (fu : List (Nat × Nat)) (x0 x1 : Int) (z2 : Bool) (l3 : List (Int × Int × Int)) (z4 : Bool) (l5 : List Int) (z6 : Bool) (l7 : List Int) (z8 : Bool) (l9 : List Int) (x10 : Int) (z11 : Bool) (l12 : List (Int × Int × Int)) (z13 : Bool) (l14 : List Int) (z15 : Bool) (l16 : List Int) (z17 : Bool) (l18 : List Int) (x19 : Int) (z20 : Bool) (l21 : List (Int × Int × Int)) (z22 : Bool) (l23 : List Int) (z24 : Bool) (l25 : List Int) (z26 : Bool) (l27 : List Int) (x28 : Int) (z29 : Bool) (l30 : List Int) : lp k spec_l11Step [] fu 4 (n + 1) (qsw x0 x1 z2 l3 z4 l5 z6 l7 z8 l9 x10 z11 l12 z13 l14 z15 l16 z17 l18 x19 z20 l21 z22 l23 z24 l25 z26 l27 x28 z29 l30) =
 cond (decide (IntKind.wrap .i64 (x1 + (1 : Int)) < nI (List.length l5)))
 ((go k spec_l05Face [(.agg [(.int .i64 (x10)), (.arr false (z2) (.r3 (l3)))]), (.int .i64 (x1))]).bind fun r0 =>
 (go k spec_IsActive [(.int .i64 (x0)), (.int .i64 (D.toInt (nth r0 0)))]).bind fun r1 =>
 cond (!bit (nth r1 0))
 (lp k spec_l11Step [] fu 4 n (qsw x0 (IntKind.wrap .i64 (x1 + (1 : Int))) z2 l3 z4 l5 z6 l7 z8 l9 x10 z11 l12 z13 l14 z15 l16 z17 l18 x19 z20 l21 z22 l23 z24 l25 z26 l27 x28 z29 l30))
 ((go k spec_l09Flux [(.agg [(.int .i64 (x10)), (.arr false (z2) (.r3 (l3))), (.arr false (z4) (.ints .i64 (l5))), (.arr false (z6) (.ints .i64 (l7))), (.arr false (z8) (.ints .i64 (l9)))]), (.int .i64 (x1))]).bind fun r2 =>
 cond (decide ((0 : Int) ≤ x1) && decide (x1 < nI (List.length l30)))
 (cond (decide ((0 : Int) ≤ x1) && decide (x1 < nI (List.length l23)))
 (cond (decide ((0 : Int) ≤ x1) && decide (x1 < nI (List.length (List.set l30 (Int.toNat x1) (D.toInt (nth r2 0))))))
 (cond (decide ((0 : Int) ≤ x1) && decide (x1 < nI (List.length l23)))
 (cond (decide ((0 : Int) ≤ IntKind.wrap .i64 (x1 + (1 : Int))) && decide (IntKind.wrap .i64 (x1 + (1 : Int)) < nI (List.length (List.set l23 (Int.toNat x1) (IntKind.wrap .i64 (List.getD l23 (Int.toNat x1) (0 : Int) - List.getD (List.set l30 (Int.toNat x1) (D.toInt (nth r2 0))) (Int.toNat x1) (0 : Int)))))))
 (cond (decide ((0 : Int) ≤ x1) && decide (x1 < nI (List.length (List.set l30 (Int.toNat x1) (D.toInt (nth r2 0))))))
 (cond (decide ((0 : Int) ≤ IntKind.wrap .i64 (x1 + (1 : Int))) && decide (IntKind.wrap .i64 (x1 + (1 : Int)) < nI (List.length (List.set l23 (Int.toNat x1) (IntKind.wrap .i64 (List.getD l23 (Int.toNat x1) (0 : Int) - List.getD (List.set l30 (Int.toNat x1) (D.toInt (nth r2 0))) (Int.toNat x1) (0 : Int)))))))
 (lp k spec_l11Step [] fu 4 n (qsw x0 (IntKind.wrap .i64 (x1 + (1 : Int))) z2 l3 z4 l5 z6 l7 z8 l9 x10 z11 l12 z13 l14 z15 l16 z17 l18 x19 z20 l21 z22 (List.set (List.set l23 (Int.toNat x1) (IntKind.wrap .i64 (List.getD l23 (Int.toNat x1) (0 : Int) - List.getD (List.set l30 (Int.toNat x1) (D.toInt (nth r2 0))) (Int.toNat x1) (0 : Int)))) (Int.toNat (IntKind.wrap .i64 (x1 + (1 : Int)))) (IntKind.wrap .i64 (List.getD (List.set l23 (Int.toNat x1) (IntKind.wrap .i64 (List.getD l23 (Int.toNat x1) (0 : Int) - List.getD (List.set l30 (Int.toNat x1) (D.toInt (nth r2 0))) (Int.toNat x1) (0 : Int)))) (Int.toNat (IntKind.wrap .i64 (x1 + (1 : Int)))) (0 : Int) + List.getD (List.set l30 (Int.toNat x1) (D.toInt (nth r2 0))) (Int.toNat x1) (0 : Int)))) z24 l25 z26 l27 x28 z29 (List.set l30 (Int.toNat x1) (D.toInt (nth r2 0)))))
 (none))
 (none))
 (none))
 (none))
 (none))
 (none))
 (none)))
 (lp k spec_l11Step [] fu 11 k (qsv (0 : Int) z2 l3 z4 l5 z6 l7 z8 l9 x10 z11 l12 z13 l14 z15 l16 z17 l18 x19 z20 l21 z22 l23 z24 l25 z26 l27 x28 z29 l30)) := by kernel_rfl

end Go.Proofs.YtoldpdhhfmlckaaGreat
end
section
namespace Go.Proofs.YtoldpdhhfmlckaaGreat
open Go.Ev
theorem qd0 (k : Nat) (hk : 2000000 ≤ k) (a : Int) (b : Int) (c : Int) : go (k + 2) spec_ShareOut [(.int .i64 (a)), (.int .i64 (b)), (.int .i64 (c))] = some [.int .i64 (qtc a b c)] := by
  rw [qja]
  unfold qtc
  cases hm : inR c 1 10000000
  · simp (disch := omega) only [qee, hm, bit, qa6, nth0, qu1, Bool.not_false, qgc, Bool.false_and, qga]
  cases hp : inR b 0 c
  · simp (disch := omega) only [qee, hm, bit, hp, qa6, nth0, qu1, Bool.not_false, qgc, Bool.not_true, qga, Bool.false_and, Bool.and_false]
  have hm' := qle.1 hm
  cases ht : inR a 0 (1000 * c)
  · simp (disch := omega) only [qee, hm, bit, hp, qvt, ht, dF, Bool.not_false, qgc, qa6, nth0, qu1, Bool.not_true, qga, Bool.and_false]
  have q := qtg hm hp ht
  have q2 : 0 ≤ Int.tdiv (a * b) c ∧ Int.tdiv (a * b) c ≤ 100000000000000000 := by
    have := quw (x := a * b) (y := c) (B := 100000000000000000) (by omega) (by omega) (by omega)
    rw [Int.tdiv_eq_ediv_of_nonneg q.1] at *
    exact ⟨Int.ediv_nonneg q.1 (by omega), this.2⟩
  simp (disch := omega) only [qee, hm, bit, hp, qvt, ht, dF, Bool.not_false, qgc, qa6, nth0, qu1, Bool.not_true, qga, Bool.and_true]
theorem qdw (k : Nat) (hk : 2000000 ≤ k) (a : Int) (b : Int) (c : Int) (d : Int) : go (k + 3) spec_LeafOut [(.int .i64 (a)), (.int .i64 (b)), (.int .i64 (c)), (.int .i64 (d))] = some [.int .i64 (loA a b c d), .int .i64 (loB a b c d)] := by
  rw [qi5]
  unfold loA loB loOk
  cases hm : inR b 1 10000000
  · simp (disch := omega) only [qee, hm, bit, qa6, nth0, qu1, Bool.not_false, qgc, Bool.false_and, qga]
  have hm' := qle.1 hm
  cases ht : inR a 0 (1000 * b)
  · simp (disch := omega) only [qee, hm, bit, qvt, ht, qa6, nth0, qu1, Bool.not_false, qgc, Bool.not_true, qga, Bool.false_and, Bool.and_false]
  cases hr : inR c 0 b
  · simp (disch := omega) only [qee, hm, bit, qvt, ht, hr, qa6, nth0, qu1, Bool.not_false, qgc, Bool.not_true, qga, Bool.false_and, Bool.and_false]
  have hr' := qle.1 hr
  cases hl : inR d 0 (b - c)
  · simp (disch := omega) only [qee, hm, bit, qvt, ht, hr, hl, qa6, nth0, qu1, Bool.not_false, qgc, Bool.not_true, qga, Bool.and_false]
  have hl' := qle.1 hl
  have s1 := qte a c b; have s2 := qte a (c + d) b
  simp (disch := omega) only [qee, hm, bit, qvt, ht, hr, hl, qd0, qa6, nth0, qu2, qu1, Bool.not_true, qga, Bool.and_true, qgc]
theorem qdm (k : Nat) (hk : 2000000 ≤ k) (a b : Int) (hb : 0 < b) (ha : -1000000000000 ≤ a) (ha' : a ≤ 1000000000000) : go (k + 1) spec_DivTrunc [.int .i64 a, .int .i64 b] = some [.int .i64 (Int.tdiv a b)] := by
  rw [qiv]
  have := quw hb ha ha'
  simp (disch := omega) only [dF, Bool.not_false, qvt, qgc, qga]
theorem qey (k : Nat) (hk : 2000000 ≤ k) (a : Int) (b : Int) (c : Int) (d : Int) (e : Int) (f : Int) (ha : 0 ≤ a ∧ a ≤ 161000000) (hb : 0 ≤ b ∧ b ≤ 161000000) (hc : 0 ≤ c ∧ c ≤ 10000000) (hd : 0 ≤ d ∧ d ≤ 10000000) (he : inR e 0 4 = true) (hf : inR f 0 4 = true) : go (k + 3) spec_l09Pair [(.int .i64 (a)), (.int .i64 (b)), (.int .i64 (c)), (.int .i64 (d)), (.int .i64 (e)), (.int .i64 (f))] = some [.int .i64 (qqh a b c d e f)] := by
  rw [qj4]
  have w1 := qvm he; have w2 := qvm hf; have w3 := qvn (max f e)
  have p := qpx (x := a - b) (w := qvl (max f e)) (A := 161000000) (by omega) (by omega) w3.1 w3.2
  have t := quw (x := (a - b) * qvl (max f e)) (y := 32 * (qvl e + qvl f)) (B := 2576000000) (by omega) (by omega) (by omega)
  have t1 : Int.tdiv c 4 = c / 4 := Int.tdiv_eq_ediv_of_nonneg (by omega)
  have t2 : Int.tdiv d 4 = d / 4 := Int.tdiv_eq_ediv_of_nonneg (by omega)
  simp (disch := omega) only [imax, qd4, qvt, t2, t1, imin, qa6, nth0, qu2, qdm]
  rfl
theorem qew (k : Nat) (hk : 2000000 ≤ k) (r : Int) (z1 z2 z3 z4 : Bool) (l : List Cell) (m t b : List Int) (F : StF r l m t b) (i : Nat) (hi : i + 1 < l.length) :
    go (k + 4) spec_l09Flux [.agg [.int .i64 r, .arr false z1 (.r3 l), .arr false z2 (.ints .i64 m), .arr false z3 (.ints .i64 t), .arr false z4 (.ints .i64 b)], .int .i64 (i : Int)] = some [.int .i64 (fl l m b i)] := by
  rw [qj2]
  have hl := F.len; have hm := F.ml
  have h1 := F.at i; have h2 := F.at (i + 1); have s1 := quh F i; have s2 := quh F (i + 1)
  have v1 := F.lev i; have v2 := F.lev (i + 1)
  have e1 := qez (k + 3 - 1) (by omega) r z1 z2 z3 z4 l m t b F i (by omega)
  have e2 := qez (k + 3 - 1) (by omega) r z1 z2 z3 z4 l m t b F (i + 1) hi
  rw [show k + 3 - 1 + 1 = k + 3 by omega] at e1 e2
  have e3 := qey (k + 3 - 3) (by omega) (surf l m b i) (surf l m b (i + 1)) (m.getD i 0) (m.getD (i + 1) 0) (l.getD i zz3).2.1 (l.getD (i + 1) zz3).2.1 s1 s2 ⟨h1.1, h1.2.1⟩ ⟨h2.1, h2.2.1⟩ v1 v2
  rw [show k + 3 - 3 + 3 = k + 3 by omega] at e3
  simp (disch := omega) only [e1, qfg, qvt, e2, dT, nI, Bool.and_true, Int.toNat_natCast, qgc, qa6, nth0, qu2, e3]
  rfl
def Fk (tk : Int) (l : List Cell) (m b : List Int) (k j : Nat) : Int := if j < k then ff tk l m b j else 0
def Mk (tk : Int) (l : List Cell) (m b : List Int) (k j : Nat) : Int := m.getD j 0 - (if j < k then ff tk l m b j else 0) + (if 1 ≤ j ∧ j ≤ k then ff tk l m b (j - 1) else 0)
theorem qov (k : Nat) (hk : 2000000 ≤ k) (fu : List (Nat × Nat)) (r tk : Int) (z1 z2 z3 z4 y1 y2 y3 y4 x1 x2 x3 x4 : Bool) (c1 : List Cell) (c2 c3 c4 : List Int) (c0 : Int) (l : List Cell) (m t b tr bd : List Int) (ld : List Cell) (r' : Int) (F : StF r l m t b) : ∀ (n i : Nat), i < l.length → l.length - i < n →
    lp (k + 4) spec_l11Step [] fu 4 (n) (qsw tk (i : Int) z1 l z2 m z3 t z4 b r y1 c1 y2 c2 y3 c3 y4 c4 c0 x1 ld x2 (tab l.length (Mk tk l m b i)) x3 tr x4 bd r' false (tab l.length (Fk tk l m b i))) = lp (k + 4) spec_l11Step [] fu 11 (k + 4) (qsv 0 z1 l z2 m z3 t z4 b r y1 c1 y2 c2 y3 c3 y4 c4 c0 x1 ld x2 (tab l.length (stM tk l m b)) x3 tr x4 bd r' false (tab l.length (ff tk l m b)))
  | 0, i, hi, hn => by omega
  | n + 1, i, hi, hn => by
    have hl := F.len; have hm := F.ml
    rw [qm2]
    by_cases h : i + 1 < l.length
    · have IH := qov k hk fu r tk z1 z2 z3 z4 y1 y2 y3 y4 x1 x2 x3 x4 c1 c2 c3 c4 c0 l m t b tr bd ld r' F n (i + 1) h (by omega)
      have b0 := qku F i; have b1 := qks F tk (i - 1); have a0 := F.at i; have a1 := F.at (i + 1); have a2 := F.at (i - 1)
      have eF := qew (k + 4 - 4) (by omega) r z1 z2 z3 z4 l m t b F i h
      rw [show k + 4 - 4 + 4 = k + 4 by omega] at eF
      cases ha : qlh tk (qkq l i)
      · have hz : ff tk l m b i = 0 := by unfold ff qao; rw [ha]; simp
        simp (disch := omega) only [qfg, qvt, nI, dT, qel, qds, bit, Bool.true_and, Int.toNat_natCast, List.length_set, qa6, nth0, qu1, qu2, ha, Bool.not_false, qgc]
        rw [← IH]
        have q1 : tab l.length (Mk tk l m b i) = tab l.length (Mk tk l m b (i + 1)) := quk fun j hj => by
          unfold Mk
          by_cases g1 : j = i
          · subst g1
            by_cases g2 : 1 ≤ j
            · simp (disch := omega) only [hz, if_neg, if_pos]
            · simp (disch := omega) only [hz, if_neg, if_pos]
          · by_cases g2 : j = i + 1
            · subst g2; simp (disch := omega) only [if_neg, Nat.add_sub_cancel, hz, if_pos]
            · have e1 : (j < i) = (j < i + 1) := by rw [eq_iff_iff]; omega
              have e2 : (1 ≤ j ∧ j ≤ i) = (1 ≤ j ∧ j ≤ i + 1) := by rw [eq_iff_iff]; omega
              simp only [e1, e2]
        have q2 : tab l.length (Fk tk l m b i) = tab l.length (Fk tk l m b (i + 1)) := quk fun j hj => by
          unfold Fk
          by_cases g1 : j = i
          · subst g1; rw [if_neg (by omega), if_pos (by omega), hz]
          · have e1 : (j < i) = (j < i + 1) := by rw [eq_iff_iff]; omega
            simp only [e1]
        rw [q1, q2]
      · have hz : ff tk l m b i = fl l m b i := by unfold ff qao; rw [ha, dT h]; rfl
        have v1 : Mk tk l m b i i = m.getD i 0 + (if 1 ≤ i then ff tk l m b (i - 1) else 0) := by
          unfold Mk; rw [if_neg (by omega)]
          by_cases g2 : 1 ≤ i
          · rw [if_pos (by omega), if_pos g2]; omega
          · rw [if_neg (by omega), if_neg g2]; omega
        have v2 : Mk tk l m b i (i + 1) = m.getD (i + 1) 0 := by
          unfold Mk; rw [if_neg (by omega), if_neg (by omega)]; omega
        have bb : -5000000 ≤ (if 1 ≤ i then ff tk l m b (i - 1) else 0) ∧ (if 1 ≤ i then ff tk l m b (i - 1) else 0) ≤ 5000000 := by
          by_cases g2 : 1 ≤ i
          · rw [if_pos g2]; rw [show i - 1 + 1 = i by omega] at b1; omega
          · rw [if_neg g2]; omega
        have w1 : -20000000 ≤ Mk tk l m b i i ∧ Mk tk l m b i i ≤ 20000000 := by rw [v1]; omega
        have w2 : -20000000 ≤ Mk tk l m b i (i + 1) ∧ Mk tk l m b i (i + 1) ≤ 20000000 := by rw [v2]; omega
        simp (disch := omega) only [qfg, qvt, nI, dT, qel, qds, bit, eF, qum, Bool.and_true, Int.toNat_natCast, qup, qul, itT, if_neg, qgc, qa6, nth0, qu2, qu1, ha, Bool.not_true, qga]
        rw [v1, v2]
        rw [← IH]
        have q1 : tab l.length (fun j => if j = i + 1 then m.getD (i + 1) 0 + fl l m b i else if j = i then m.getD i 0 + (if 1 ≤ i then ff tk l m b (i - 1) else 0) - fl l m b i else Mk tk l m b i j) = tab l.length (Mk tk l m b (i + 1)) := quk fun j hj => by
          by_cases g2 : j = i + 1
          · subst g2; unfold Mk; simp (disch := omega) only [if_pos, if_neg, Nat.add_sub_cancel, hz, itT]; omega
          · by_cases g1 : j = i
            · subst g1; unfold Mk
              by_cases g3 : 1 ≤ j
              · simp (disch := omega) only [if_pos, hz, if_neg, itT]; omega
              · simp (disch := omega) only [if_neg, hz, itT, if_pos]; omega
            · rw [if_neg g2, if_neg g1]
              have e1 : (j < i) = (j < i + 1) := by rw [eq_iff_iff]; omega
              have e2 : (1 ≤ j ∧ j ≤ i) = (1 ≤ j ∧ j ≤ i + 1) := by rw [eq_iff_iff]; omega
              unfold Mk
              simp only [e1, e2]
        have q2 : tab l.length (fun j => if j = i then fl l m b i else Fk tk l m b i j) = tab l.length (Fk tk l m b (i + 1)) := quk fun j hj => by
          by_cases g1 : j = i
          · subst g1; unfold Fk; rw [if_pos rfl, if_pos (by omega), hz]
          · rw [if_neg g1]
            have e1 : (j < i) = (j < i + 1) := by rw [eq_iff_iff]; omega
            unfold Fk
            simp only [e1]
        rw [q1, q2]
    · simp (disch := omega) only [qfg, qvt, nI, dF, bit, dT, Bool.true_and, Int.toNat_natCast, List.length_set, qga]
      have q1 : tab l.length (Mk tk l m b i) = tab l.length (stM tk l m b) := quk fun j hj => by
        unfold Mk stM
        by_cases g1 : j = i
        · subst g1; rw [if_neg (by omega), qkr (i := j) (show l.length ≤ j + 1 by omega)]
          by_cases g3 : 1 ≤ j
          · rw [if_pos g3, if_pos (by omega)]
          · rw [if_neg g3, if_neg (by omega)]
        · rw [if_pos (by omega)]
          by_cases g3 : 1 ≤ j
          · rw [if_pos g3, if_pos (by omega)]
          · rw [if_neg g3, if_neg (by omega)]
      have q2 : tab l.length (Fk tk l m b i) = tab l.length (ff tk l m b) := quk fun j hj => by
        unfold Fk
        by_cases g1 : j = i
        · subst g1; rw [if_neg (by omega), qkr (i := j) (show l.length ≤ j + 1 by omega)]
        · rw [if_pos (by omega)]
      rw [q1, q2]
set_option maxHeartbeats 2000000 in
theorem qou (k : Nat) (hk : 2000000 ≤ k) (fu : List (Nat × Nat)) (r tk : Int) (z1 z2 z3 z4 y1 y2 y3 y4 : Bool) (c1 : List Cell) (c2 c3 c4 : List Int) (c0 : Int) (l : List Cell) (m t b mm bd : List Int) (ld : List Cell) (r' : Int) (F : StF r l m t b) : ∀ (n i : Nat), i ≤ l.length → l.length - i < n →
    lp (k + 4) spec_l11Step [] fu 11 (n) (qsv (i : Int) z1 l z2 m z3 t z4 b r y1 c1 y2 c2 y3 c3 y4 c4 c0 false ld false mm false (tab l.length (Tk tk l m t b i)) false bd r' false (tab l.length (ff tk l m b))) = some [.agg [.int .i64 r', .arr true false (.r3 ld), .arr true false (.ints .i64 mm), .arr true false (.ints .i64 (tab l.length (stT tk l m t b))), .arr true false (.ints .i64 bd)]]
  | 0, i, hi, hn => by omega
  | n + 1, i, hi, hn => by
    have hl := F.len; have hm := F.ml; have ht := F.tl
    rw [qm1]
    by_cases h : i < l.length
    · have IH := qou k hk fu r tk z1 z2 z3 z4 y1 y2 y3 y4 c1 c2 c3 c4 c0 l m t b mm bd ld r' F n (i + 1) (by omega) (by omega)
      rw [← qam tk l m t b i h] at IH
      have f1 := qks F tk i; have f2 := qks F tk (i - 1); have a0 := F.at i; have a1 := F.at (i + 1); have a2 := F.at (i - 1)
      have A := qqb tk l m t b i; have B := qqd tk l m t b i
      have A' := qqb tk l m t b (i - 1); have B' := qqd tk l m t b (i - 1); have A'' := qqb tk l m t b (i - 1 - 1)
      have v1 : Tk tk l m t b i i = t.getD i 0 + (if 1 ≤ i then outA tk l m t b (i - 1) else 0) := by
        unfold Tk; rw [if_neg (by omega), if_neg (show ¬ (i + 1 < i) by omega)]
        by_cases g2 : 1 ≤ i
        · rw [if_pos (by omega), if_pos g2]; omega
        · rw [if_neg (by omega), if_neg g2]; omega
      have w1 : 0 ≤ Tk tk l m t b i i ∧ Tk tk l m t b i i ≤ 200000000000000000 := by
        rw [v1]
        by_cases g2 : 1 ≤ i
        · rw [if_pos g2]; omega
        · rw [if_neg g2]; omega
      have w2 : 0 ≤ Tk tk l m t b i (i + 1) ∧ Tk tk l m t b i (i + 1) ≤ 200000000000000000 := by
        unfold Tk; rw [if_neg (by omega), if_neg (by omega), if_neg (by omega)]; omega
      have hA : loA (t.getD i 0) (m.getD i 0) (max 0 (ff tk l m b i)) (lft tk l m b i) = outA tk l m t b i := rfl
      have hB : loB (t.getD i 0) (m.getD i 0) (max 0 (ff tk l m b i)) (lft tk l m b i) = outB tk l m t b i := rfl
      have hi1 : 0 < ff tk l m b i → i + 1 < l.length := fun g4 => by
        rcases Nat.lt_or_ge (i + 1) l.length with q | q
        · exact q
        · rw [qkr q] at g4; omega
      have zA : ¬ 0 < ff tk l m b i → outA tk l m t b i = 0 := fun g4 => qqc (by unfold rgt; omega)
      by_cases g1 : 1 ≤ i
      · have hL : max 0 (0 - ff tk l m b (i - 1)) = lft tk l m b i := by unfold lft; rw [if_pos g1]
        have hL0 : 0 ≤ lft tk l m b i := by rw [← hL]; omega
        rw [show i - 1 + 1 = i by omega] at f2
        have w3 : -300000000000000000 ≤ Tk tk l m t b i (i - 1) ∧ Tk tk l m t b i (i - 1) ≤ 300000000000000000 := by
          unfold Tk; rw [if_pos (by omega), if_neg (show ¬ (i - 1 + 1 < i) by omega)]
          by_cases g3 : 1 ≤ i - 1
          · rw [if_pos (show 1 ≤ i - 1 ∧ i - 1 ≤ i by omega)]; omega
          · rw [if_neg (show ¬ (1 ≤ i - 1 ∧ i - 1 ≤ i) by omega)]; omega
        by_cases g4 : 0 < ff tk l m b i
        · have := hi1 g4
          by_cases g5 : 0 < lft tk l m b i
          · rw [← qve g1] at IH
            simp (disch := omega) only [nI, dT, qum, Bool.and_true, qff, qvt, Int.toNat_natCast, qul, imax, hL, qdw, hA, hB, qfg, qup, niF, qgc, qa6, nth1, qu2, nth0]
            exact IH
          · rw [← qvd (qqe (by omega))] at IH
            simp (disch := omega) only [nI, dT, qum, Bool.and_true, qff, qvt, Int.toNat_natCast, qul, imax, hL, qdw, hA, hB, qfg, qup, dF, niF, qgc, qga, qa6, nth0, qu2, nth1]
            exact IH
        · by_cases g5 : 0 < lft tk l m b i
          · rw [← qvc g1 (zA g4)] at IH
            simp (disch := omega) only [nI, dT, qum, Bool.and_true, qff, qvt, Int.toNat_natCast, qul, imax, hL, qdw, hA, hB, dF, qfg, qup, Bool.true_and, niF, qgc, qga, qa6, nth1, qu2, nth0]
            exact IH
          · rw [← qvb (zA g4) (qqe (by omega))] at IH
            simp (disch := omega) only [nI, dT, qum, Bool.and_true, qff, qvt, Int.toNat_natCast, qul, imax, hL, qdw, hA, hB, dF, qfg, qup, Bool.true_and, niF, qgc, qga, qa6, nth0, qu2, nth1]
            exact IH
      · have hL : (0 : Int) = lft tk l m b i := by unfold lft; rw [if_neg g1]
        have zB : outB tk l m t b i = 0 := qqe hL.symm
        have hA' : loA (t.getD i 0) (m.getD i 0) (max 0 (ff tk l m b i)) 0 = outA tk l m t b i := by unfold outA rgt; rw [← hL]
        have hB' : loB (t.getD i 0) (m.getD i 0) (max 0 (ff tk l m b i)) 0 = outB tk l m t b i := by unfold outB rgt; rw [← hL]
        by_cases g4 : 0 < ff tk l m b i
        · have := hi1 g4
          rw [← qvd zB] at IH
          simp (disch := omega) only [nI, dT, qum, Bool.and_true, dF, qvt, Int.toNat_natCast, qul, imax, qdw, qfg, qup, niF, qff, qga, qgc, qa6, nth0, qu2, nth1, hA', hB']
          exact IH
        · rw [← qvb (zA g4) zB] at IH
          simp (disch := omega) only [nI, dT, qum, Bool.and_true, dF, qvt, Int.toNat_natCast, qul, imax, qdw, qfg, qup, Bool.true_and, niF, qff, qga, qgc, qa6, nth0, qu2, nth1, hA', hB']
          exact IH
    · simp (disch := omega) only [nI, dF, dT, Bool.true_and, qvt, Bool.and_false, Int.toNat_natCast, imax, qfg, List.length_set, qga, qgc]
      rw [show i = l.length by omega, qal tk l m t b hm]
theorem qae (tk : Int) (l : List Cell) (m b : List Int) (hm : m.length = l.length) : m = tab l.length (Mk tk l m b 0) := by
  have h := qun m
  rw [hm] at h
  refine h.trans (quk fun j hj => ?_)
  unfold Mk
  rw [if_neg (by omega), if_neg (by omega)]; omega
theorem qaa (tk : Int) (l : List Cell) (m b : List Int) : List.replicate l.length (0 : Int) = tab l.length (Fk tk l m b 0) := by
  rw [qur]
  refine quk fun j hj => ?_
  unfold Fk
  rw [if_neg (by omega)]
theorem qe0 (k : Nat) (hk : 2000000 ≤ k) (r : Int) (z1 z2 z3 z4 : Bool) (l : List Cell) (m t b : List Int) (F : StF r l m t b) (tk : Int) :
    go (k + 5) spec_l11Step [.agg [.int .i64 r, .arr false z1 (.r3 l), .arr false z2 (.ints .i64 m), .arr false z3 (.ints .i64 t), .arr false z4 (.ints .i64 b)], .int .i64 tk] = some [.agg [.int .i64 r, .arr true false (.r3 l), .arr true false (.ints .i64 (tab l.length (stM tk l m b))), .arr true false (.ints .i64 (tab l.length (stT tk l m t b))), .arr true false (.ints .i64 b)]] := by
  rw [qj6]
  have hl := F.len; have hm := F.ml; have ht := F.tl; have hb := F.bl; have hr := F.rr
  simp (disch := omega) only [qer, nI, dT, Bool.and_true, big0, Int.toNat_natCast, qgc, qa6, nth0, qfj, qp3, qqu, qfu, qlg, qfw, qfx, qfi, qu2]
  rw [show List.replicate m.length (0 : Int) = tab l.length (Fk tk l m b 0) by rw [hm]; exact qaa tk l m b]
  have e1 := qov k hk [] r tk z1 z2 z3 z4 true true true true false false false false [] [] [] [] 0 l m t b t b l r F (k + 4) 0 (by omega) (by omega)
  have e2 := qou k hk [] r tk z1 z2 z3 z4 true true true true [] [] [] [] 0 l m t b (tab l.length (stM tk l m b)) b l r F (k + 4) 0 (by omega) (by omega)
  rw [← qae tk l m b hm] at e1
  rw [← qan tk l m t b ht] at e2
  exact e1.trans e2
end Go.Proofs.YtoldpdhhfmlckaaGreat
end
section
namespace Go.Proofs.YtoldpdhhfmlckaaGreat
open Go.Ev
def qt9 (g : Nat → Int) : Nat → Int
  | 0 => 0
  | n + 1 => qt9 g n + g n
theorem qli : ∀ (a b : List Int), isum (a ++ b) = isum a + isum b
  | [], b => by simp [isum]
  | x :: a, b => by simp only [List.cons_append, isum, qli a b]; omega
theorem qlq (g : Nat → Int) : ∀ n, isum (tab n g) = qt9 g n
  | 0 => by simp [tab, isum, qt9]
  | n + 1 => by
    have := qlq g n
    unfold tab at *
    rw [List.range_succ, List.map_append, qli, this]
    simp [isum, qt9]
theorem qlp (l : List Int) : isum l = qt9 (fun j => l.getD j 0) l.length := by
  have h := qun l
  have e := qlq (fun j => l.getD j 0) l.length
  rw [← h] at e; exact e
theorem qpf : ∀ (m t : List Int), m.length = t.length → (∀ i, i < m.length → (0 ≤ m.getD i 0 ∧ m.getD i 0 ≤ 10000000) ∧ 0 ≤ t.getD i 0 ∧ t.getD i 0 ≤ 1000 * m.getD i 0) → qpc m t = true
  | [], t, hl, h => by simp [qpc]
  | x :: m, [], hl, h => by simp at hl
  | x :: m, y :: t, hl, h => by
    have h0 := h 0 (by simp)
    simp only [List.getD_cons_zero] at h0
    have ih := qpf m t (by simpa using hl) fun i hi => by simpa using h (i + 1) (by simpa using hi)
    simp only [qpc, ih, Bool.and_true, Bool.and_eq_true, qle]
    exact h0
theorem qkl : ∀ (l : List Int), (∀ x ∈ l, 0 ≤ x) → ∀ x ∈ l, x ≤ isum l
  | [], h, x, hx => by cases hx
  | y :: l, h, x, hx => by
    have hn : 0 ≤ isum l := by
      clear hx
      induction l with
      | nil => simp [isum]
      | cons z l ih =>
        have := ih (fun w hw => h w (by simp only [List.mem_cons] at *; rcases hw with rfl | hw <;> simp_all))
        have := h z (by simp)
        simp only [isum]; omega
    have hy := h y (by simp)
    simp only [isum]
    rcases List.mem_cons.1 hx with rfl | hx
    · omega
    · have := qkl l (fun w hw => h w (by simp [hw])) x hx
      omega
theorem qtd {t p m : Int} (hm : 1 ≤ m) (hm' : m ≤ 10000000) (hp : 0 ≤ p) (hp' : p ≤ m) (ht : 0 ≤ t) (ht' : t ≤ 1000 * m) : qtc t p m = t * p / m := by
  unfold qtc
  rw [qle.2 ⟨hm, hm'⟩, qle.2 ⟨hp, hp'⟩, qle.2 ⟨ht, ht'⟩]
  simp only [Bool.and_self, qgc]
  exact Int.tdiv_eq_ediv_of_nonneg (Int.mul_nonneg ht hp)
theorem qth {t p m : Int} (hm : 1 ≤ m) (hp : 0 ≤ p) (hp' : p ≤ m) (ht : 0 ≤ t) (ht' : t ≤ 1000 * m) : 0 ≤ t * p / m ∧ t * p / m ≤ t ∧ t - 1000 * (m - p) ≤ t * p / m := by
  refine ⟨Int.ediv_nonneg (Int.mul_nonneg ht hp) (by omega), ?_, ?_⟩
  · apply Int.ediv_le_of_le_mul (by omega)
    exact Int.mul_le_mul_of_nonneg_left hp' ht
  · apply Int.le_ediv_of_mul_le (by omega)
    have h1 : t * (m - p) ≤ 1000 * m * (m - p) := Int.mul_le_mul_of_nonneg_right ht' (by omega)
    have e1 : t * (m - p) = t * m - t * p := Int.mul_sub t m p
    have e2 : 1000 * m * (m - p) = 1000 * (m - p) * m := by rw [Int.mul_assoc, Int.mul_comm m (m - p), ← Int.mul_assoc]
    have e3 : (t - 1000 * (m - p)) * m = t * m - 1000 * (m - p) * m := Int.sub_mul _ _ _
    omega
theorem qti {t r l m : Int} (hm : 1 ≤ m) (hr : 0 ≤ r) (hl : 0 ≤ l) (ht : 0 ≤ t) (ht' : t ≤ 1000 * m) : t * r / m ≤ t * (r + l) / m ∧ t * (r + l) / m ≤ t * r / m + 1000 * l := by
  have e : t * (r + l) = t * r + t * l := Int.mul_add t r l
  have n := Int.mul_nonneg ht hl
  have h1 : t * l ≤ 1000 * m * l := Int.mul_le_mul_of_nonneg_right ht' hl
  have e2 : 1000 * m * l = 1000 * l * m := by rw [Int.mul_assoc, Int.mul_comm m l, ← Int.mul_assoc]
  refine ⟨Int.ediv_le_ediv (by omega) (by omega), ?_⟩
  rw [← Int.add_mul_ediv_right _ _ (by omega : m ≠ 0)]
  exact Int.ediv_le_ediv (by omega) (by omega)
section
variable {r : Int} {l : List Cell} {m t b : List Int}
theorem qrl (F : StF r l m t b) (tk : Int) (i : Nat) : 0 ≤ rgt tk l m b i ∧ rgt tk l m b i ≤ m.getD i 0 / 4 := by
  have := qks F tk i; have := F.at i
  unfold rgt; omega
theorem qnl (F : StF r l m t b) (tk : Int) (i : Nat) : 0 ≤ lft tk l m b i ∧ lft tk l m b i ≤ m.getD i 0 / 4 := by
  have h := qks F tk (i - 1); have := F.at i
  unfold lft
  by_cases g : 1 ≤ i
  · rw [if_pos g]; rw [show i - 1 + 1 = i by omega] at h; omega
  · rw [if_neg g]; omega
theorem qqf (F : StF r l m t b) (tk : Int) (i : Nat) : 0 ≤ outA tk l m t b i ∧ outA tk l m t b i ≤ 1000 * rgt tk l m b i ∧ 0 ≤ outB tk l m t b i ∧ outB tk l m t b i ≤ 1000 * lft tk l m b i ∧
    outA tk l m t b i + outB tk l m t b i ≤ t.getD i 0 ∧ t.getD i 0 - 1000 * (m.getD i 0 - rgt tk l m b i - lft tk l m b i) ≤ outA tk l m t b i + outB tk l m t b i := by
  have h := F.at i; have R := qrl F tk i; have L := qnl F tk i
  by_cases hm : 1 ≤ m.getD i 0
  · have ok : loOk (t.getD i 0) (m.getD i 0) (rgt tk l m b i) (lft tk l m b i) = true := by
      unfold loOk
      rw [qle.2 ⟨hm, h.2.1⟩, qle.2 ⟨h.2.2.1, h.2.2.2⟩, qle.2 ⟨R.1, by omega⟩, qle.2 ⟨L.1, by omega⟩]; rfl
    have s1 := qtd (t := t.getD i 0) (p := rgt tk l m b i) hm h.2.1 R.1 (by omega) h.2.2.1 h.2.2.2
    have s2 := qtd (t := t.getD i 0) (p := rgt tk l m b i + lft tk l m b i) hm h.2.1 (by omega) (by omega) h.2.2.1 h.2.2.2
    have c1 := qth (t := t.getD i 0) (p := rgt tk l m b i + lft tk l m b i) hm (by omega) (by omega) h.2.2.1 h.2.2.2
    have c2 := qti (t := t.getD i 0) (r := rgt tk l m b i) (l := lft tk l m b i) hm R.1 L.1 h.2.2.1 h.2.2.2
    have c3 := qtf (t := t.getD i 0) (p := rgt tk l m b i) (m := m.getD i 0) h.2.2.1 R.1 h.2.2.2
    have c4 := (qte (t.getD i 0) (rgt tk l m b i) (m.getD i 0)).1
    unfold outA outB loA loB
    rw [ok]
    simp only [qgc]
    omega
  · have z : m.getD i 0 = 0 := by omega
    have ok : loOk (t.getD i 0) (m.getD i 0) (rgt tk l m b i) (lft tk l m b i) = false := by
      unfold loOk
      have : inR (m.getD i 0) 1 10000000 = false := by rw [← Bool.not_eq_true, qle]; omega
      rw [this]; rfl
    unfold outA outB loA loB
    rw [ok]
    simp only [qga]
    omega
theorem qtv (F : StF r l m t b) (tk : Int) (j : Nat) : stM tk l m b j = m.getD j 0 - rgt tk l m b j - lft tk l m b j + (if 1 ≤ j then rgt tk l m b (j - 1) else 0) + lft tk l m b (j + 1) := by
  unfold stM rgt lft
  rw [if_pos (show 1 ≤ j + 1 by omega), Nat.add_sub_cancel]
  by_cases g : 1 ≤ j
  · simp only [if_pos g]; omega
  · simp only [if_neg g]; omega
theorem qtw (F : StF r l m t b) (tk : Int) (j : Nat) : 0 ≤ stM tk l m b j := by
  rw [qtv F]
  have R := qrl F tk j; have L := qnl F tk j; have R' := qrl F tk (j - 1); have L' := qnl F tk (j + 1); have := F.at j
  by_cases g : 1 ≤ j
  · rw [if_pos g]; omega
  · rw [if_neg g]; omega
theorem qty (F : StF r l m t b) (tk : Int) (j : Nat) : 0 ≤ stT tk l m t b j ∧ stT tk l m t b j ≤ 1000 * stM tk l m b j := by
  rw [qtv F]
  unfold stT
  have a := qqf F tk j; have a1 := qqf F tk (j - 1); have a2 := qqf F tk (j + 1)
  by_cases g : 1 ≤ j
  · rw [if_pos g, if_pos g]; omega
  · rw [if_neg g, if_neg g]; omega
theorem qtx (tk : Int) (l : List Cell) (m b : List Int) : ∀ n, qt9 (stM tk l m b) n = qt9 (fun j => m.getD j 0) n - (if 1 ≤ n then ff tk l m b (n - 1) else 0)
  | 0 => by simp [qt9]
  | n + 1 => by
    have ih := qtx tk l m b n
    simp only [qt9, ih]
    rw [if_pos (show 1 ≤ n + 1 by omega), Nat.add_sub_cancel]
    unfold stM
    by_cases g : 1 ≤ n
    · simp only [if_pos g]; omega
    · simp only [if_neg g]; omega
theorem qtz (tk : Int) (l : List Cell) (m t b : List Int) : ∀ n, qt9 (stT tk l m t b) n = qt9 (fun j => t.getD j 0) n - (if 1 ≤ n then outA tk l m t b (n - 1) else 0) - outB tk l m t b 0 + outB tk l m t b n
  | 0 => by simp [qt9]; omega
  | n + 1 => by
    have ih := qtz tk l m t b n
    simp only [qt9, ih]
    rw [if_pos (show 1 ≤ n + 1 by omega), Nat.add_sub_cancel]
    unfold stT
    by_cases g : 1 ≤ n
    · simp only [if_pos g]; omega
    · simp only [if_neg g]; omega
theorem qt5 (F : StF r l m t b) (tk : Int) : isum (tab l.length (stM tk l m b)) = isum m := by
  have L := F.len
  rw [qlq, qtx, qlp m, F.ml, if_pos L.1, qkr (by omega)]; omega
theorem qt6 (F : StF r l m t b) (tk : Int) : isum (tab l.length (stT tk l m t b)) = isum t := by
  have L := F.len
  have z1 : outA tk l m t b (l.length - 1) = 0 := qqc (by unfold rgt; rw [qkr (by omega)]; rfl)
  have z2 : outB tk l m t b 0 = 0 := qqe (by unfold lft; rw [if_neg (by omega)])
  have z3 : outB tk l m t b l.length = 0 := qqe (by unfold lft; rw [if_pos L.1, qkr (by omega)]; rfl)
  rw [qlq, qtz, qlp t, F.tl, if_pos L.1, z1, z2, z3]; omega
theorem qt4 (F : StF r l m t b) (tk : Int) : StF r l (tab l.length (stM tk l m b)) (tab l.length (stT tk l m t b)) b := by
  have hs := qt5 F tk
  have hn : ∀ x ∈ tab l.length (stM tk l m b), 0 ≤ x := by
    intro x hx
    simp only [tab, List.mem_map] at hx
    obtain ⟨j, _, rfl⟩ := hx
    exact qtw F tk j
  refine ⟨F.mesh, F.bal, qum _ _, qum _ _, F.bl, ?_, F.bed, by rw [hs]; exact F.sum⟩
  refine qpf _ _ (by rw [qum, qum]) fun i hi => ?_
  rw [qum] at hi
  have h1 := qkl _ hn _ (qk1 (by rw [qum]; exact hi : i < (tab l.length (stM tk l m b)).length) 0)
  rw [hs] at h1
  have := F.sum
  rw [qul hi] at *
  rw [qul hi]
  exact ⟨⟨qtw F tk i, by omega⟩, qty F tk i⟩
end
end Go.Proofs.YtoldpdhhfmlckaaGreat
end
section
namespace Go.Proofs.YtoldpdhhfmlckaaGreat
open Go.Ev
theorem qhn (k : Nat) (a0 : Int) (a1z : Bool) (a1 : List (Int × Int × Int)) (a2z : Bool) (a2 : List Int) (a3z : Bool) (a3 : List Int) (a4z : Bool) (a4 : List Int) (b : Int) : go (k + 1) impl_State_flux [(.agg [(.int .i64 (a0)), (.arr false (a1z) (.r3 (a1))), (.arr false (a2z) (.ints .i64 (a2))), (.arr false (a3z) (.ints .i64 (a3))), (.arr false (a4z) (.ints .i64 (a4)))]), (.int .i64 (b))] =
 (go k impl_State_side [(.agg [(.int .i64 (a0)), (.arr false (a1z) (.r3 (a1))), (.arr false (a2z) (.ints .i64 (a2))), (.arr false (a3z) (.ints .i64 (a3))), (.arr false (a4z) (.ints .i64 (a4)))]), (.int .i64 (b))]).bind fun r0 =>
 (go k impl_State_side [(.agg [(.int .i64 (a0)), (.arr false (a1z) (.r3 (a1))), (.arr false (a2z) (.ints .i64 (a2))), (.arr false (a3z) (.ints .i64 (a3))), (.arr false (a4z) (.ints .i64 (a4)))]), (.int .i64 (IntKind.wrap .i64 (b + (1 : Int))))]).bind fun r1 =>
 (go k impl_flux [(.agg [(.int .i64 (D.toInt (D.cell 0 (nth r0 0)))), (.int .i64 (D.toInt (D.cell 1 (nth r0 0)))), (.int .i64 (D.toInt (D.cell 2 (nth r0 0))))]), (.agg [(.int .i64 (D.toInt (D.cell 0 (nth r1 0)))), (.int .i64 (D.toInt (D.cell 1 (nth r1 0)))), (.int .i64 (D.toInt (D.cell 2 (nth r1 0))))])]).bind fun r2 =>
 some [(.int .i64 (D.toInt (nth r2 0)))] := by kernel_rfl
theorem qhz (k : Nat) (a0 : Int) (a1z : Bool) (a1 : List (Int × Int × Int)) (a2z : Bool) (a2 : List Int) (a3z : Bool) (a3 : List Int) (a4z : Bool) (a4 : List Int) (b : Int) : go (k + 1) impl_State_side [(.agg [(.int .i64 (a0)), (.arr false (a1z) (.r3 (a1))), (.arr false (a2z) (.ints .i64 (a2))), (.arr false (a3z) (.ints .i64 (a3))), (.arr false (a4z) (.ints .i64 (a4)))]), (.int .i64 (b))] =
 cond (decide ((0 : Int) ≤ b) && decide (b < nI (List.length a1)))
 (cond (decide ((0 : Int) ≤ b) && decide (b < nI (List.length a2)))
 ((go k impl_State_surface [(.agg [(.int .i64 (a0)), (.arr false (a1z) (.r3 (a1))), (.arr false (a2z) (.ints .i64 (a2))), (.arr false (a3z) (.ints .i64 (a3))), (.arr false (a4z) (.ints .i64 (a4)))]), (.int .i64 (b))]).bind fun r0 =>
 some [(.agg [(.int .i64 (Prod.fst (Prod.snd (List.getD a1 (Int.toNat b) zz3)))), (.int .i64 (List.getD a2 (Int.toNat b) (0 : Int))), (.int .i64 (D.toInt (nth r0 0)))])])
 (none))
 (none) := by kernel_rfl
theorem qib (k : Nat) (a0 a1 a2 b0 b1 b2 : Int) : go (k + 1) impl_flux [(.agg [(.int .i64 (a0)), (.int .i64 (a1)), (.int .i64 (a2))]), (.agg [(.int .i64 (b0)), (.int .i64 (b1)), (.int .i64 (b2))])] =
 (go k impl_WidthOf [(.int .i64 (a0))]).bind fun r0 =>
 (go k impl_WidthOf [(.int .i64 (b0))]).bind fun r1 =>
 (go k impl_WidthOf [(.int .i64 (if b0 > a0 then b0 else a0))]).bind fun r2 =>
 (go k impl_DivTrunc [(.int .i64 (IntKind.wrap .i64 (IntKind.wrap .i64 (a2 - b2) * D.toInt (nth r2 0)))), (.int .i64 (IntKind.wrap .i64 ((32 : Int) * IntKind.wrap .i64 (D.toInt (nth r0 0) + D.toInt (nth r1 0)))))]).bind fun r3 =>
 (go k impl_Clamp [(.int .i64 (D.toInt (nth r3 0))), (.int .i64 (IntKind.wrap .i64 ((0 : Int) - IntKind.wrap .i64 (Int.tdiv b1 (4 : Int))))), (.int .i64 (IntKind.wrap .i64 (Int.tdiv a1 (4 : Int))))]).bind fun r4 =>
 some [(.int .i64 (D.toInt (nth r4 0)))] := by kernel_rfl
theorem qgr (k : Nat) (a b c : Int) : go (k + 1) impl_Clamp [(.int .i64 (a)), (.int .i64 (b)), (.int .i64 (c))] =
 cond (decide (c < b))
 (some [(.int .i64 (b))])
 (some [(.int .i64 (if c < if b > a then b else a then c else if b > a then b else a))]) := by kernel_rfl
theorem qgs (k : Nat) (a b : Int) : go (k + 1) impl_DivTrunc [(.int .i64 (a)), (.int .i64 (b))] =
 cond (decide (b ≤ (0 : Int)))
 (some [(.int .i64 (0 : Int))])
 (cond (!decide (b = (0 : Int)))
 (some [(.int .i64 (IntKind.wrap .i64 (Int.tdiv a b)))])
 (none)) := by kernel_rfl
theorem qgx (k : Nat) (a b c d : Int) : go (k + 1) impl_LeafOut [(.int .i64 (a)), (.int .i64 (b)), (.int .i64 (c)), (.int .i64 (d))] =
 (go k impl_within [(.int .i64 (b)), (.int .i64 ((1 : Int))), (.int .i64 ((10000000 : Int)))]).bind fun r0 =>
 cond (!bit (nth r0 0))
 (some [(.int .i64 (0 : Int)), (.int .i64 (0 : Int))])
 ((go k impl_within [(.int .i64 (a)), (.int .i64 (0 : Int)), (.int .i64 (IntKind.wrap .i64 ((1000 : Int) * b)))]).bind fun r1 =>
 cond (!bit (nth r1 0))
 (some [(.int .i64 (0 : Int)), (.int .i64 (0 : Int))])
 ((go k impl_within [(.int .i64 (c)), (.int .i64 (0 : Int)), (.int .i64 (b))]).bind fun r2 =>
 cond (!bit (nth r2 0))
 (some [(.int .i64 (0 : Int)), (.int .i64 (0 : Int))])
 ((go k impl_within [(.int .i64 (d)), (.int .i64 (0 : Int)), (.int .i64 (IntKind.wrap .i64 (b - c)))]).bind fun r3 =>
 cond (!bit (nth r3 0))
 (some [(.int .i64 (0 : Int)), (.int .i64 (0 : Int))])
 ((go k impl_ShareOut [(.int .i64 (a)), (.int .i64 (c)), (.int .i64 (b))]).bind fun r4 =>
 (go k impl_ShareOut [(.int .i64 (a)), (.int .i64 (IntKind.wrap .i64 (c + d))), (.int .i64 (b))]).bind fun r5 =>
 some [(.int .i64 (D.toInt (nth r4 0))), (.int .i64 (IntKind.wrap .i64 (D.toInt (nth r5 0) - D.toInt (nth r4 0))))])))) := by kernel_rfl
theorem qhe (k : Nat) (a b c : Int) : go (k + 1) impl_ShareOut [(.int .i64 (a)), (.int .i64 (b)), (.int .i64 (c))] =
 (go k impl_within [(.int .i64 (c)), (.int .i64 ((1 : Int))), (.int .i64 ((10000000 : Int)))]).bind fun r0 =>
 cond (!bit (nth r0 0))
 (some [(.int .i64 (0 : Int))])
 ((go k impl_within [(.int .i64 (b)), (.int .i64 (0 : Int)), (.int .i64 (c))]).bind fun r1 =>
 cond (!bit (nth r1 0))
 (some [(.int .i64 (0 : Int))])
 ((go k impl_within [(.int .i64 (a)), (.int .i64 (0 : Int)), (.int .i64 (IntKind.wrap .i64 ((1000 : Int) * c)))]).bind fun r2 =>
 cond (!bit (nth r2 0))
 (some [(.int .i64 (0 : Int))])
 (cond (!decide (c = (0 : Int)))
 (some [(.int .i64 (IntKind.wrap .i64 (Int.tdiv (IntKind.wrap .i64 (a * b)) c)))])
 (none)))) := by kernel_rfl
def qrr (x0 x1 x2 : Int) (z3 : Bool) (l4 : List (Int × Int × Int)) (x5 : Int) (z6 : Bool) (l7 : List Int) : St := ⟨fill 26 [(1, (.int .i64 (x0))), (2, (.ptr 1 (0) (0))), (5, (.sl 2 none)), (11, (.int .i64 (x1))), (12, (.int .i64 (x2)))], [], [(.arr false (z3) (.r3 (l4))), (.box true [(.int .i64 (x5)), (.sl 0 none)]), (.arr true (z6) (.ints .i64 (l7)))]⟩
theorem qg0 (k : Nat) (a0 : Int) (a1z : Bool) (a1 : List (Int × Int × Int)) (b : Int) : go (k + 1) impl_Mesh_active [(.agg [(.int .i64 (a0)), (.arr false (a1z) (.r3 (a1)))]), (.int .i64 (b))] =
 lp k impl_Mesh_active [] [] 3 k (qrr b (IntKind.wrap .i64 (nI (List.length a1) - (1 : Int))) (0 : Int) a1z a1 a0 false ([])) := by kernel_rfl
theorem qlx (k n : Nat) (fu : List (Nat × Nat)) (x0 x1 x2 : Int) (z3 : Bool) (l4 : List (Int × Int × Int)) (x5 : Int) (z6 : Bool) (l7 : List Int) : lp k impl_Mesh_active [] fu 3 (n + 1) (qrr x0 x1 x2 z3 l4 x5 z6 l7) =
 cond (decide (x2 < x1))
 ((go k impl_Mesh_faceLevel [(.agg [(.int .i64 (x5)), (.arr false (z3) (.r3 (l4)))]), (.int .i64 (x2))]).bind fun r0 =>
 (go k impl_IsActive [(.int .i64 (x0)), (.int .i64 (D.toInt (nth r0 0)))]).bind fun r1 =>
 cond (bit (nth r1 0))
 (cond (decide (List.length (l7 ++ [x2]) ≤ bigLen))
 (lp k impl_Mesh_active [] fu 3 n (qrr x0 x1 (IntKind.wrap .i64 (x2 + (1 : Int))) z3 l4 x5 (z6 && decide (List.length (l7 ++ [x2]) = 0)) (l7 ++ [x2])))
 (none))
 (lp k impl_Mesh_active [] fu 3 n (qrr x0 x1 (IntKind.wrap .i64 (x2 + (1 : Int))) z3 l4 x5 z6 l7)))
 (some [(.arr true (z6) (.ints .i64 (l7)))]) := by kernel_rfl
def qr3 (x0 x1 : Int) (z2 : Bool) (l3 : List (Int × Int × Int)) (z4 : Bool) (l5 : List Int) (z6 : Bool) (l7 : List Int) (z8 : Bool) (l9 : List Int) (x10 : Int) (z11 : Bool) (l12 : List Int) (z13 : Bool) (l14 : List Int) (z15 : Bool) (l16 : List Int) (z17 : Bool) (l18 : List Int) : St := ⟨fill 155 [(0, (.ptr 4 (0) (0))), (4, (.sl 5 none)), (5, (.sl 6 none)), (9, (.ptr 8 (0) (0))), (10, (.ptr 10 (0) (0))), (11, (.fn impl_State_move_1 [(.ptr 8 (0) (0)), (.ptr 10 (0) (0))])), (69, (.int .i64 (x0))), (70, (.int .i64 (x1)))], [(.ptr 4 (0) (0))], [(.arr true (z2) (.r3 (l3))), (.arr true (z4) (.ints .i64 (l5))), (.arr true (z6) (.ints .i64 (l7))), (.arr true (z8) (.ints .i64 (l9))), (.box true [(.int .i64 (x10)), (.sl 0 none), (.sl 1 none), (.sl 2 none), (.sl 3 none)]), (.arr true (z11) (.ints .i64 (l12))), (.arr true (z13) (.ints .i64 (l14))), (.arr true (z15) (.ints .i64 (l16))), (.box true [(.sl 7 none)]), (.arr true (z17) (.ints .i64 (l18))), (.box true [(.sl 9 none)])]⟩
def qr4 (x0 x1 : Int) (z2 : Bool) (l3 : List (Int × Int × Int)) (z4 : Bool) (l5 : List Int) (z6 : Bool) (l7 : List Int) (z8 : Bool) (l9 : List Int) (x10 : Int) (z11 : Bool) (l12 : List Int) (z13 : Bool) (l14 : List Int) : St := ⟨fill 155 [(0, (.ptr 4 (0) (0))), (9, (.ptr 6 (0) (0))), (10, (.ptr 8 (0) (0))), (124, (.int .i64 (x0))), (125, (.int .i64 (x1)))], [(.ptr 4 (0) (0))], [(.arr true (z2) (.r3 (l3))), (.arr true (z4) (.ints .i64 (l5))), (.arr true (z6) (.ints .i64 (l7))), (.arr true (z8) (.ints .i64 (l9))), (.box true [(.int .i64 (x10)), (.sl 0 none), (.sl 1 none), (.sl 2 none), (.sl 3 none)]), (.arr true (z11) (.ints .i64 (l12))), (.box true [(.sl 5 none)]), (.arr true (z13) (.ints .i64 (l14))), (.box true [(.sl 7 none)])]⟩
def qr5 (x0 x1 : Int) (z2 : Bool) (l3 : List (Int × Int × Int)) (z4 : Bool) (l5 : List Int) (z6 : Bool) (l7 : List Int) (z8 : Bool) (l9 : List Int) (x10 : Int) (z11 : Bool) (l12 : List Int) (z13 : Bool) (l14 : List Int) (z15 : Bool) (l16 : List Int) : St := ⟨fill 155 [(0, (.ptr 4 (0) (0))), (4, (.sl 5 none)), (5, (.sl 6 none)), (28, (.sl 7 none)), (29, (.int .i64 (x0))), (30, (.int .i64 (x1)))], [(.ptr 4 (0) (0))], [(.arr true (z2) (.r3 (l3))), (.arr true (z4) (.ints .i64 (l5))), (.arr true (z6) (.ints .i64 (l7))), (.arr true (z8) (.ints .i64 (l9))), (.box true [(.int .i64 (x10)), (.sl 0 none), (.sl 1 none), (.sl 2 none), (.sl 3 none)]), (.arr true (z11) (.ints .i64 (l12))), (.arr true (z13) (.ints .i64 (l14))), (.arr false (z15) (.ints .i64 (l16)))]⟩
theorem qhs (k : Nat) (a0 : Int) (a1z : Bool) (a1 : List (Int × Int × Int)) (a2z : Bool) (a2 : List Int) (a3z : Bool) (a3 : List Int) (a4z : Bool) (a4 : List Int) (bz : Bool) (b : List Int) : go (k + 1) impl_State_move [(.ptr true [(.int .i64 (a0)), (.arr true (a1z) (.r3 (a1))), (.arr true (a2z) (.ints .i64 (a2))), (.arr true (a3z) (.ints .i64 (a3))), (.arr true (a4z) (.ints .i64 (a4)))]), (.arr false (bz) (.ints .i64 (b)))] =
 cond (decide ((0 : Int) ≤ nI (List.length a2)) && decide (nI (List.length a2) ≤ nI (List.length a2)) && decide (nI (List.length a2) ≤ nI bigLen))
 (cond (decide ((0 : Int) ≤ nI (List.length a2)) && decide (nI (List.length a2) ≤ nI (List.length a2)) && decide (nI (List.length a2) ≤ nI bigLen))
 (lp k impl_State_move [(.ptr true [(.int .i64 (a0)), (.arr true (a1z) (.r3 (a1))), (.arr true (a2z) (.ints .i64 (a2))), (.arr true (a3z) (.ints .i64 (a3))), (.arr true (a4z) (.ints .i64 (a4)))])] [] 2 k (qr5 (nI (List.length b)) (0 : Int) a1z a1 a2z a2 a3z a3 a4z a4 a0 false (List.replicate (Int.toNat (nI (List.length a2))) (0 : Int)) false (List.replicate (Int.toNat (nI (List.length a2))) (0 : Int)) bz b))
 (none))
 (none) := by kernel_rfl
theorem ql9 (k n : Nat) (fu : List (Nat × Nat)) (a0 : Int) (a1z : Bool) (a1 : List (Int × Int × Int)) (a2z : Bool) (a2 : List Int) (a3z : Bool) (a3 : List Int) (a4z : Bool) (a4 : List Int) (x0 x1 : Int) (z2 : Bool) (l3 : List (Int × Int × Int)) (z4 : Bool) (l5 : List Int) (z6 : Bool) (l7 : List Int) (z8 : Bool) (l9 : List Int) (x10 : Int) (z11 : Bool) (l12 : List Int) (z13 : Bool) (l14 : List Int) (z15 : Bool) (l16 : List Int) (z17 : Bool) (l18 : List Int) : lp k impl_State_move [(.ptr true [(.int .i64 (a0)), (.arr true (a1z) (.r3 (a1))), (.arr true (a2z) (.ints .i64 (a2))), (.arr true (a3z) (.ints .i64 (a3))), (.arr true (a4z) (.ints .i64 (a4)))])] fu 12 (n + 1) (qr3 x0 x1 z2 l3 z4 l5 z6 l7 z8 l9 x10 z11 l12 z13 l14 z15 l16 z17 l18) =
 cond (decide (x1 < x0))
 (cond (decide ((0 : Int) ≤ x1) && decide (x1 < nI (List.length l7)))
 (cond (decide ((0 : Int) ≤ x1) && decide (x1 < nI (List.length l5)))
 (cond (decide ((0 : Int) ≤ x1) && decide (x1 < nI (List.length l12)))
 (cond (decide ((0 : Int) ≤ x1) && decide (x1 < nI (List.length l14)))
 ((go k impl_LeafOut [(.int .i64 (List.getD l7 (Int.toNat x1) (0 : Int))), (.int .i64 (List.getD l5 (Int.toNat x1) (0 : Int))), (.int .i64 (List.getD l12 (Int.toNat x1) (0 : Int))), (.int .i64 (List.getD l14 (Int.toNat x1) (0 : Int)))]).bind fun r0 =>
 cond (decide ((0 : Int) ≤ x1) && decide (x1 < nI (List.length l12)))
 ((go k impl_State_move_1 [(.int .i64 (x1)), (.int .i64 (IntKind.wrap .i64 (x1 + (1 : Int)))), (.int .i64 (List.getD l12 (Int.toNat x1) (0 : Int))), (.int .i64 (D.toInt (nth r0 0))), (.ptr true [(.arr true (z15) (.ints .i64 (l16)))]), (.ptr true [(.arr true (z17) (.ints .i64 (l18)))])]).bind fun r1 =>
 cond (decide ((0 : Int) ≤ x1) && decide (x1 < nI (List.length l14)))
 ((go k impl_State_move_1 [(.int .i64 (x1)), (.int .i64 (IntKind.wrap .i64 (x1 - (1 : Int)))), (.int .i64 (List.getD l14 (Int.toNat x1) (0 : Int))), (.int .i64 (D.toInt (nth r0 1))), (.ptr true [(.arr true (D.nil (D.cell 0 (nth r1 0))) (.ints .i64 (D.ints (D.cell 0 (nth r1 0)))))]), (.ptr true [(.arr true (D.nil (D.cell 0 (nth r1 1))) (.ints .i64 (D.ints (D.cell 0 (nth r1 1)))))])]).bind fun r2 =>
 lp k impl_State_move [(.ptr true [(.int .i64 (a0)), (.arr true (a1z) (.r3 (a1))), (.arr true (a2z) (.ints .i64 (a2))), (.arr true (a3z) (.ints .i64 (a3))), (.arr true (a4z) (.ints .i64 (a4)))])] fu 12 n (qr3 x0 (IntKind.wrap .i64 (x1 + (1 : Int))) z2 l3 z4 l5 z6 l7 z8 l9 x10 z11 l12 z13 l14 (D.nil (D.cell 0 (nth r2 0))) (D.ints (D.cell 0 (nth r2 0))) (D.nil (D.cell 0 (nth r2 1))) (D.ints (D.cell 0 (nth r2 1)))))
 (none))
 (none))
 (none))
 (none))
 (none))
 (none))
 (lp k impl_State_move [(.ptr true [(.int .i64 (a0)), (.arr true (a1z) (.r3 (a1))), (.arr true (a2z) (.ints .i64 (a2))), (.arr true (a3z) (.ints .i64 (a3))), (.arr true (a4z) (.ints .i64 (a4)))])] fu 19 k (qr4 (nI (List.length l5)) (0 : Int) z2 l3 z4 l5 z6 l7 z8 l9 x10 z15 l16 z17 l18)) := by kernel_rfl
theorem qma (k n : Nat) (fu : List (Nat × Nat)) (a0 : Int) (a1z : Bool) (a1 : List (Int × Int × Int)) (a2z : Bool) (a2 : List Int) (a3z : Bool) (a3 : List Int) (a4z : Bool) (a4 : List Int) (x0 x1 : Int) (z2 : Bool) (l3 : List (Int × Int × Int)) (z4 : Bool) (l5 : List Int) (z6 : Bool) (l7 : List Int) (z8 : Bool) (l9 : List Int) (x10 : Int) (z11 : Bool) (l12 : List Int) (z13 : Bool) (l14 : List Int) : lp k impl_State_move [(.ptr true [(.int .i64 (a0)), (.arr true (a1z) (.r3 (a1))), (.arr true (a2z) (.ints .i64 (a2))), (.arr true (a3z) (.ints .i64 (a3))), (.arr true (a4z) (.ints .i64 (a4)))])] fu 19 (n + 1) (qr4 x0 x1 z2 l3 z4 l5 z6 l7 z8 l9 x10 z11 l12 z13 l14) =
 cond (decide (x1 < x0))
 (cond (decide ((0 : Int) ≤ x1) && decide (x1 < nI (List.length l5)))
 (cond (decide ((0 : Int) ≤ x1) && decide (x1 < nI (List.length l12)))
 (cond (decide ((0 : Int) ≤ x1) && decide (x1 < nI (List.length l5)))
 (cond (decide ((0 : Int) ≤ x1) && decide (x1 < nI (List.length l7)))
 (cond (decide ((0 : Int) ≤ x1) && decide (x1 < nI (List.length l14)))
 (cond (decide ((0 : Int) ≤ x1) && decide (x1 < nI (List.length l7)))
 (lp k impl_State_move [(.ptr true [(.int .i64 (a0)), (.arr true (a1z) (.r3 (a1))), (.arr true (a2z) (.ints .i64 (a2))), (.arr true (a3z) (.ints .i64 (a3))), (.arr true (a4z) (.ints .i64 (a4)))])] fu 19 n (qr4 x0 (IntKind.wrap .i64 (x1 + (1 : Int))) z2 l3 z4 (List.set l5 (Int.toNat x1) (IntKind.wrap .i64 (List.getD l5 (Int.toNat x1) (0 : Int) + List.getD l12 (Int.toNat x1) (0 : Int)))) z6 (List.set l7 (Int.toNat x1) (IntKind.wrap .i64 (List.getD l7 (Int.toNat x1) (0 : Int) + List.getD l14 (Int.toNat x1) (0 : Int)))) z8 l9 x10 z11 l12 z13 l14))
 (none))
 (none))
 (none))
 (none))
 (none))
 (none))
 (some [(.ptr true [(.int .i64 (x10)), (.arr true (z2) (.r3 (l3))), (.arr true (z4) (.ints .i64 (l5))), (.arr true (z6) (.ints .i64 (l7))), (.arr true (z8) (.ints .i64 (l9)))])]) := by kernel_rfl
theorem qmb (k n : Nat) (fu : List (Nat × Nat)) (a0 : Int) (a1z : Bool) (a1 : List (Int × Int × Int)) (a2z : Bool) (a2 : List Int) (a3z : Bool) (a3 : List Int) (a4z : Bool) (a4 : List Int) (x0 x1 : Int) (z2 : Bool) (l3 : List (Int × Int × Int)) (z4 : Bool) (l5 : List Int) (z6 : Bool) (l7 : List Int) (z8 : Bool) (l9 : List Int) (x10 : Int) (z11 : Bool) (l12 : List Int) (z13 : Bool) (l14 : List Int) (z15 : Bool) (l16 : List Int) : lp k impl_State_move [(.ptr true [(.int .i64 (a0)), (.arr true (a1z) (.r3 (a1))), (.arr true (a2z) (.ints .i64 (a2))), (.arr true (a3z) (.ints .i64 (a3))), (.arr true (a4z) (.ints .i64 (a4)))])] fu 2 (n + 1) (qr5 x0 x1 z2 l3 z4 l5 z6 l7 z8 l9 x10 z11 l12 z13 l14 z15 l16) =
 cond (decide (x1 < x0))
 (cond (decide ((0 : Int) ≤ x1) && decide (x1 < nI (List.length l16)))
 ((go k impl_State_flux [(.agg [(.int .i64 (x10)), (.arr false (z2) (.r3 (l3))), (.arr false (z4) (.ints .i64 (l5))), (.arr false (z6) (.ints .i64 (l7))), (.arr false (z8) (.ints .i64 (l9)))]), (.int .i64 (List.getD l16 (Int.toNat x1) (0 : Int)))]).bind fun r0 =>
 cond (decide ((0 : Int) < D.toInt (nth r0 0)))
 (cond (decide ((0 : Int) ≤ List.getD l16 (Int.toNat x1) (0 : Int)) && decide (List.getD l16 (Int.toNat x1) (0 : Int) < nI (List.length l12)))
 (lp k impl_State_move [(.ptr true [(.int .i64 (a0)), (.arr true (a1z) (.r3 (a1))), (.arr true (a2z) (.ints .i64 (a2))), (.arr true (a3z) (.ints .i64 (a3))), (.arr true (a4z) (.ints .i64 (a4)))])] fu 2 n (qr5 x0 (IntKind.wrap .i64 (x1 + (1 : Int))) z2 l3 z4 l5 z6 l7 z8 l9 x10 z11 (List.set l12 (Int.toNat (List.getD l16 (Int.toNat x1) (0 : Int))) (D.toInt (nth r0 0))) z13 l14 z15 l16))
 (none))
 (cond (decide ((0 : Int) ≤ IntKind.wrap .i64 (List.getD l16 (Int.toNat x1) (0 : Int) + (1 : Int))) && decide (IntKind.wrap .i64 (List.getD l16 (Int.toNat x1) (0 : Int) + (1 : Int)) < nI (List.length l14)))
 (lp k impl_State_move [(.ptr true [(.int .i64 (a0)), (.arr true (a1z) (.r3 (a1))), (.arr true (a2z) (.ints .i64 (a2))), (.arr true (a3z) (.ints .i64 (a3))), (.arr true (a4z) (.ints .i64 (a4)))])] fu 2 n (qr5 x0 (IntKind.wrap .i64 (x1 + (1 : Int))) z2 l3 z4 l5 z6 l7 z8 l9 x10 z11 l12 z13 (List.set l14 (Int.toNat (IntKind.wrap .i64 (List.getD l16 (Int.toNat x1) (0 : Int) + (1 : Int)))) (IntKind.wrap .i64 ((0 : Int) - D.toInt (nth r0 0)))) z15 l16))
 (none)))
 (none))
 (cond (decide ((0 : Int) ≤ nI (List.length l5)) && decide (nI (List.length l5) ≤ nI (List.length l5)) && decide (nI (List.length l5) ≤ nI bigLen))
 (cond (decide ((0 : Int) ≤ nI (List.length l5)) && decide (nI (List.length l5) ≤ nI (List.length l5)) && decide (nI (List.length l5) ≤ nI bigLen))
 (lp k impl_State_move [(.ptr true [(.int .i64 (a0)), (.arr true (a1z) (.r3 (a1))), (.arr true (a2z) (.ints .i64 (a2))), (.arr true (a3z) (.ints .i64 (a3))), (.arr true (a4z) (.ints .i64 (a4)))])] fu 12 k (qr3 (nI (List.length l5)) (0 : Int) z2 l3 z4 l5 z6 l7 z8 l9 x10 z11 l12 z13 l14 false (List.replicate (Int.toNat (nI (List.length l5))) (0 : Int)) false (List.replicate (Int.toNat (nI (List.length l5))) (0 : Int))))
 (none))
 (none)) := by kernel_rfl
theorem qht (k : Nat) (v0 v1 v2 v3 : Int) (v4 : Bool) (v5 : List Int) (v6 : Bool) (v7 : List Int) : go (k + 1) impl_State_move_1 [(.int .i64 (v0)), (.int .i64 (v1)), (.int .i64 (v2)), (.int .i64 (v3)), (.ptr true [(.arr true (v4) (.ints .i64 (v5)))]), (.ptr true [(.arr true (v6) (.ints .i64 (v7)))])] =
 cond (decide ((0 : Int) < v2))
 (cond (decide ((0 : Int) ≤ v0) && decide (v0 < nI (List.length v5)))
 (cond (decide ((0 : Int) ≤ v0) && decide (v0 < nI (List.length v5)))
 (cond (decide ((0 : Int) ≤ v1) && decide (v1 < nI (List.length (List.set v5 (Int.toNat v0) (IntKind.wrap .i64 (List.getD v5 (Int.toNat v0) (0 : Int) - v2))))))
 (cond (decide ((0 : Int) ≤ v1) && decide (v1 < nI (List.length (List.set v5 (Int.toNat v0) (IntKind.wrap .i64 (List.getD v5 (Int.toNat v0) (0 : Int) - v2))))))
 (cond (decide ((0 : Int) ≤ v0) && decide (v0 < nI (List.length v7)))
 (cond (decide ((0 : Int) ≤ v0) && decide (v0 < nI (List.length v7)))
 (cond (decide ((0 : Int) ≤ v1) && decide (v1 < nI (List.length (List.set v7 (Int.toNat v0) (IntKind.wrap .i64 (List.getD v7 (Int.toNat v0) (0 : Int) - v3))))))
 (cond (decide ((0 : Int) ≤ v1) && decide (v1 < nI (List.length (List.set v7 (Int.toNat v0) (IntKind.wrap .i64 (List.getD v7 (Int.toNat v0) (0 : Int) - v3))))))
 (some [(.ptr true [(.arr true (v4) (.ints .i64 (List.set (List.set v5 (Int.toNat v0) (IntKind.wrap .i64 (List.getD v5 (Int.toNat v0) (0 : Int) - v2))) (Int.toNat v1) (IntKind.wrap .i64 (List.getD (List.set v5 (Int.toNat v0) (IntKind.wrap .i64 (List.getD v5 (Int.toNat v0) (0 : Int) - v2))) (Int.toNat v1) (0 : Int) + v2)))))]), (.ptr true [(.arr true (v6) (.ints .i64 (List.set (List.set v7 (Int.toNat v0) (IntKind.wrap .i64 (List.getD v7 (Int.toNat v0) (0 : Int) - v3))) (Int.toNat v1) (IntKind.wrap .i64 (List.getD (List.set v7 (Int.toNat v0) (IntKind.wrap .i64 (List.getD v7 (Int.toNat v0) (0 : Int) - v3))) (Int.toNat v1) (0 : Int) + v3)))))])])
 (none))
 (none))
 (none))
 (none))
 (none))
 (none))
 (none))
 (none))
 (some [(.ptr true [(.arr true (v4) (.ints .i64 (v5)))]), (.ptr true [(.arr true (v6) (.ints .i64 (v7)))])]) := by kernel_rfl

end Go.Proofs.YtoldpdhhfmlckaaGreat
end
