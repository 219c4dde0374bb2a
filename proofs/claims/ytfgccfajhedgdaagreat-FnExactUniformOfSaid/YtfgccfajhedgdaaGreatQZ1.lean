/- What the program's functions compute, and plain facts of it (part 1). No condition beyond those that each theorem states. -/
import Derived.Test.YtfgccfajhedgdaaGreatXA
import Derived.ProofKit
import Derived.Test.YtfgccfajhedgdaaGreatRB
import Derived.Test.YtfgccfajhedgdaaGreatProg
import Derived.WalkKit
import Derived.KernelRfl
import Derived.Deep.QuietTactic
import Derived.BigQuiet
set_option linter.unusedVariables false
set_option linter.unusedSimpArgs false
section
namespace Go.Proofs.YtfgccfajhedgdaaGreat
open Go.Ev
theorem qn6 {x : Int} (h : -9223372036854775808 ≤ x) (h' : x ≤ 9223372036854775807) : IntKind.wrap .i64 x = x := by rw [IntKind.wrap_i64]; omega
theorem qn7 {x : Int} (h : 0 ≤ x) (h' : x ≤ 9223372036854775807) : IntKind.wrap .u64 x = x := by rw [IntKind.wrap_u64]; omega
theorem nth0 (d0 : D) (l : List D) : nth (d0 :: l) 0 = d0 := Eq.trans rfl rfl
theorem nth1 (d0 d1 : D) (l : List D) : nth (d0 :: d1 :: l) 1 = d1 := Eq.trans rfl rfl
theorem nth2 (d0 d1 d2 : D) (l : List D) : nth (d0 :: d1 :: d2 :: l) 2 = d2 := Eq.trans rfl rfl
theorem nth3 (d0 d1 d2 d3 : D) (l : List D) : nth (d0 :: d1 :: d2 :: d3 :: l) 3 = d3 := Eq.trans rfl rfl
theorem qcw (d0 : D) (l : List D) : (D.agg (d0 :: l)).cell 0 = d0 := Eq.trans rfl rfl
theorem qcx (d0 d1 : D) (l : List D) : (D.agg (d0 :: d1 :: l)).cell 1 = d1 := Eq.trans rfl rfl
theorem qc8 (d0 d1 d2 : D) (l : List D) : (D.agg (d0 :: d1 :: d2 :: l)).cell 2 = d2 := Eq.trans rfl rfl
theorem qdd (d0 d1 d2 d3 : D) (l : List D) : (D.agg (d0 :: d1 :: d2 :: d3 :: l)).cell 3 = d3 := Eq.trans rfl rfl
theorem qde (d0 d1 d2 d3 d4 : D) (l : List D) : (D.agg (d0 :: d1 :: d2 :: d3 :: d4 :: l)).cell 4 = d4 := Eq.trans rfl rfl
theorem qdf (d0 d1 d2 d3 d4 d5 : D) (l : List D) : (D.agg (d0 :: d1 :: d2 :: d3 :: d4 :: d5 :: l)).cell 5 = d5 := Eq.trans rfl rfl
theorem qdg (d0 d1 d2 d3 d4 d5 d6 : D) (l : List D) : (D.agg (d0 :: d1 :: d2 :: d3 :: d4 :: d5 :: d6 :: l)).cell 6 = d6 := Eq.trans rfl rfl
theorem qdh (d0 d1 d2 d3 d4 d5 d6 d7 : D) (l : List D) : (D.agg (d0 :: d1 :: d2 :: d3 :: d4 :: d5 :: d6 :: d7 :: l)).cell 7 = d7 := Eq.trans rfl rfl
theorem qdi (d0 d1 d2 d3 d4 d5 d6 d7 d8 : D) (l : List D) : (D.agg (d0 :: d1 :: d2 :: d3 :: d4 :: d5 :: d6 :: d7 :: d8 :: l)).cell 8 = d8 := Eq.trans rfl rfl
theorem qdj (d0 d1 d2 d3 d4 d5 d6 d7 d8 d9 : D) (l : List D) : (D.agg (d0 :: d1 :: d2 :: d3 :: d4 :: d5 :: d6 :: d7 :: d8 :: d9 :: l)).cell 9 = d9 := Eq.trans rfl rfl
theorem qcy (d0 d1 d2 d3 d4 d5 d6 d7 d8 d9 d10 : D) (l : List D) : (D.agg (d0 :: d1 :: d2 :: d3 :: d4 :: d5 :: d6 :: d7 :: d8 :: d9 :: d10 :: l)).cell 10 = d10 := Eq.trans rfl rfl
theorem qcz (d0 d1 d2 d3 d4 d5 d6 d7 d8 d9 d10 d11 : D) (l : List D) : (D.agg (d0 :: d1 :: d2 :: d3 :: d4 :: d5 :: d6 :: d7 :: d8 :: d9 :: d10 :: d11 :: l)).cell 11 = d11 := Eq.trans rfl rfl
theorem qc0 (d0 d1 d2 d3 d4 d5 d6 d7 d8 d9 d10 d11 d12 : D) (l : List D) : (D.agg (d0 :: d1 :: d2 :: d3 :: d4 :: d5 :: d6 :: d7 :: d8 :: d9 :: d10 :: d11 :: d12 :: l)).cell 12 = d12 := Eq.trans rfl rfl
theorem qc1 (d0 d1 d2 d3 d4 d5 d6 d7 d8 d9 d10 d11 d12 d13 : D) (l : List D) : (D.agg (d0 :: d1 :: d2 :: d3 :: d4 :: d5 :: d6 :: d7 :: d8 :: d9 :: d10 :: d11 :: d12 :: d13 :: l)).cell 13 = d13 := Eq.trans rfl rfl
theorem qc2 (d0 d1 d2 d3 d4 d5 d6 d7 d8 d9 d10 d11 d12 d13 d14 : D) (l : List D) : (D.agg (d0 :: d1 :: d2 :: d3 :: d4 :: d5 :: d6 :: d7 :: d8 :: d9 :: d10 :: d11 :: d12 :: d13 :: d14 :: l)).cell 14 = d14 := Eq.trans rfl rfl
theorem qc3 (d0 d1 d2 d3 d4 d5 d6 d7 d8 d9 d10 d11 d12 d13 d14 d15 : D) (l : List D) : (D.agg (d0 :: d1 :: d2 :: d3 :: d4 :: d5 :: d6 :: d7 :: d8 :: d9 :: d10 :: d11 :: d12 :: d13 :: d14 :: d15 :: l)).cell 15 = d15 := Eq.trans rfl rfl
theorem qc4 (d0 d1 d2 d3 d4 d5 d6 d7 d8 d9 d10 d11 d12 d13 d14 d15 d16 : D) (l : List D) : (D.agg (d0 :: d1 :: d2 :: d3 :: d4 :: d5 :: d6 :: d7 :: d8 :: d9 :: d10 :: d11 :: d12 :: d13 :: d14 :: d15 :: d16 :: l)).cell 16 = d16 := Eq.trans rfl rfl
theorem qc5 (d0 d1 d2 d3 d4 d5 d6 d7 d8 d9 d10 d11 d12 d13 d14 d15 d16 d17 : D) (l : List D) : (D.agg (d0 :: d1 :: d2 :: d3 :: d4 :: d5 :: d6 :: d7 :: d8 :: d9 :: d10 :: d11 :: d12 :: d13 :: d14 :: d15 :: d16 :: d17 :: l)).cell 17 = d17 := Eq.trans rfl rfl
theorem qc6 (d0 d1 d2 d3 d4 d5 d6 d7 d8 d9 d10 d11 d12 d13 d14 d15 d16 d17 d18 : D) (l : List D) : (D.agg (d0 :: d1 :: d2 :: d3 :: d4 :: d5 :: d6 :: d7 :: d8 :: d9 :: d10 :: d11 :: d12 :: d13 :: d14 :: d15 :: d16 :: d17 :: d18 :: l)).cell 18 = d18 := Eq.trans rfl rfl
theorem qc7 (d0 d1 d2 d3 d4 d5 d6 d7 d8 d9 d10 d11 d12 d13 d14 d15 d16 d17 d18 d19 : D) (l : List D) : (D.agg (d0 :: d1 :: d2 :: d3 :: d4 :: d5 :: d6 :: d7 :: d8 :: d9 :: d10 :: d11 :: d12 :: d13 :: d14 :: d15 :: d16 :: d17 :: d18 :: d19 :: l)).cell 19 = d19 := Eq.trans rfl rfl
theorem qc9 (d0 d1 d2 d3 d4 d5 d6 d7 d8 d9 d10 d11 d12 d13 d14 d15 d16 d17 d18 d19 d20 : D) (l : List D) : (D.agg (d0 :: d1 :: d2 :: d3 :: d4 :: d5 :: d6 :: d7 :: d8 :: d9 :: d10 :: d11 :: d12 :: d13 :: d14 :: d15 :: d16 :: d17 :: d18 :: d19 :: d20 :: l)).cell 20 = d20 := Eq.trans rfl rfl
theorem qda (d0 d1 d2 d3 d4 d5 d6 d7 d8 d9 d10 d11 d12 d13 d14 d15 d16 d17 d18 d19 d20 d21 : D) (l : List D) : (D.agg (d0 :: d1 :: d2 :: d3 :: d4 :: d5 :: d6 :: d7 :: d8 :: d9 :: d10 :: d11 :: d12 :: d13 :: d14 :: d15 :: d16 :: d17 :: d18 :: d19 :: d20 :: d21 :: l)).cell 21 = d21 := Eq.trans rfl rfl
theorem qdb (d0 d1 d2 d3 d4 d5 d6 d7 d8 d9 d10 d11 d12 d13 d14 d15 d16 d17 d18 d19 d20 d21 d22 : D) (l : List D) : (D.agg (d0 :: d1 :: d2 :: d3 :: d4 :: d5 :: d6 :: d7 :: d8 :: d9 :: d10 :: d11 :: d12 :: d13 :: d14 :: d15 :: d16 :: d17 :: d18 :: d19 :: d20 :: d21 :: d22 :: l)).cell 22 = d22 := Eq.trans rfl rfl
theorem qdc (d0 d1 d2 d3 d4 d5 d6 d7 d8 d9 d10 d11 d12 d13 d14 d15 d16 d17 d18 d19 d20 d21 d22 d23 : D) (l : List D) : (D.agg (d0 :: d1 :: d2 :: d3 :: d4 :: d5 :: d6 :: d7 :: d8 :: d9 :: d10 :: d11 :: d12 :: d13 :: d14 :: d15 :: d16 :: d17 :: d18 :: d19 :: d20 :: d21 :: d22 :: d23 :: l)).cell 23 = d23 := Eq.trans rfl rfl
theorem qni (k : IntKind) (n : Int) : (D.int k n).toInt = n := Eq.trans rfl rfl
theorem qnh (b : Bool) : (D.bool b).toBool = b := Eq.trans rfl rfl
theorem qnj (s : ByteArray) : (D.str s).toStr = s := Eq.trans rfl rfl
theorem qkc (o n : Bool) (a : Arr) : (D.arr o n a).nil = n := Eq.trans rfl rfl
theorem qky (o n : Bool) (l : List (Int × Int × Int)) : (D.arr o n (.r3 l)).r3 = l := Eq.trans rfl rfl
theorem qkz (o n : Bool) (l : List (Int × Int × Int × Int)) : (D.arr o n (.r4 l)).r4 = l := Eq.trans rfl rfl
theorem qg6 (o n : Bool) (k : IntKind) (l : List Int) : (D.arr o n (.ints k l)).ints = l := Eq.trans rfl rfl
theorem qag (o n : Bool) (l : List Bool) : (D.arr o n (.bools l)).bools = l := Eq.trans rfl rfl
theorem qm5 (o n : Bool) (l : List ByteArray) : (D.arr o n (.strs l)).strs = l := Eq.trans rfl rfl
theorem qds {α : Type} (x y : α) : cond true x y = x := Eq.trans rfl rfl
theorem qdq {α : Type} (x y : α) : cond false x y = y := Eq.trans rfl rfl
theorem qaf {α : Type} (x : List D) (f : List D → Option α) : (some x).bind f = f x := Eq.trans rfl rfl
theorem dT {p : Prop} {i : Decidable p} (h : p) : @decide p i = true := by cases i <;> simp_all
theorem dF {p : Prop} {i : Decidable p} (h : ¬p) : @decide p i = false := by cases i <;> simp_all
theorem qcu (i : Nat) : (i : Int) + 1 = ((i + 1 : Nat) : Int) := Eq.trans rfl rfl
theorem qcv (i : Nat) : (i : Int) + 2 = ((i + 2 : Nat) : Int) := Eq.trans rfl rfl
theorem imax (x y : Int) : (if x > y then x else y) = max x y := by by_cases h : x > y <;> simp only [h, if_true, if_false] <;> omega
theorem imin (x y : Int) : (if x < y then x else y) = min x y := by by_cases h : x < y <;> simp only [h, if_true, if_false] <;> omega
theorem qdt (b x : Bool) : cond (!b) (some [D.bool false]) (some [D.bool x]) = some [D.bool (b && x)] := by cases b <;> rfl
theorem qdu (b x : Bool) : cond b (some [D.bool x]) (some [D.bool false]) = some [D.bool (b && x)] := by cases b <;> rfl
theorem dTT {i : Decidable True} : @decide True i = true := by cases i with | isTrue _ => rfl | isFalse h => exact absurd trivial h
theorem dFF {i : Decidable False} : @decide False i = false := by cases i with | isTrue h => exact h.elim | isFalse _ => rfl
theorem bigI : ((bigLen : Nat) : Int) = 1099511627776 := Eq.trans rfl rfl
theorem qkb {α : Type} (l : List α) : [] ++ l = l := Eq.trans rfl rfl
theorem big0 : bigLen = 1099511627776 := Eq.trans rfl rfl
theorem qd3 {α : Type} {l : List α} {i : Nat} (h : i < l.length) (d : α) : l.drop i = l.getD i d :: l.drop (i + 1) := by
  rw [List.drop_eq_getElem_cons h]; simp [h]
theorem qml {α : Type} (l : List α) (i j : Nat) (x d : α) : (l.set i x).getD j d = if i = j ∧ i < l.length then x else l.getD j d := by
  simp only [List.getD_eq_getElem?_getD, List.getElem?_set]
  by_cases h : i = j
  · subst h
    by_cases h2 : i < l.length
    · simp [h2]
    · simp [h2]
  · simp [h]
theorem qmm {α : Type} (l m : List α) (i : Nat) (x : α) (t : List α) (h : i < l.length) : (l.set i x).take (i + 1) ++ t = l.take i ++ (x :: t) := by
  have : (l.set i x).take (i + 1) = l.take i ++ [x] := by
    rw [List.take_succ_eq_append_getElem (by simp; omega)]
    simp [List.take_set_of_le]
  rw [this]; simp
theorem qgy {α : Type} {l : List α} {i : Nat} (h : i < l.length) (d : α) : l.getD i d ∈ l := by simp [h]
end Go.Proofs.YtfgccfajhedgdaaGreat
end
section
namespace Go.Proofs.YtfgccfajhedgdaaGreat
open Go.Ev
theorem qgb (k : Nat) (a b c : Int) : go (k + 1) spec_l01In [(.int .i64 (a)), (.int .i64 (b)), (.int .i64 (c))] =
 cond (decide (b ≤ a))
 (some [(.bool (decide (a ≤ c)))])
 (some [(.bool (false))]) := by kernel_rfl
theorem qe1 (k : Nat) (a b c : Int) : go (k + 1) impl_within [(.int .i64 (a)), (.int .i64 (b)), (.int .i64 (c))] =
 cond (decide (b ≤ a))
 (some [(.bool (decide (a ≤ c)))])
 (some [(.bool (false))]) := by kernel_rfl
theorem qez (k : Nat) (a : Int) : go (k + 1) impl_isLevel [(.int .i64 (a))] =
 (go k impl_within [(.int .i64 (a)), (.int .i64 (0 : Int)), (.int .i64 ((4 : Int)))]).bind fun r0 =>
 some [(.bool (bit (nth r0 0)))] := by kernel_rfl
theorem qfy (k : Nat) (a0 a1 a2 : Int) : go (k + 1) spec_IdOk [(.agg [(.int .i64 (a0)), (.int .i64 (a1)), (.int .i64 (a2))])] =
 (go k spec_l01In [(.int .i64 (a0)), (.int .i64 (0 : Int)), (.int .i64 ((7 : Int)))]).bind fun r0 =>
 cond (bit (nth r0 0))
 ((go k spec_l01In [(.int .i64 (a1)), (.int .i64 (0 : Int)), (.int .i64 ((4 : Int)))]).bind fun r1 =>
 cond (bit (nth r1 0))
 (cond (decide ((0 : Int) ≤ a2))
 (cond (decide ((0 : Int) ≤ IntKind.wrap IntKind.u64 a1))
 (some [(.bool (decide (a2 < IntKind.wrap .i64 ((1 : Int) * (2 : Int) ^ shiftN .i64 (IntKind.wrap IntKind.u64 a1)))))])
 (none))
 (some [(.bool (false))]))
 (some [(.bool (false))]))
 (some [(.bool (false))]) := by kernel_rfl
theorem qd6 (k : Nat) (a0 a1 a2 : Int) : go (k + 1) impl_IdOk [(.agg [(.int .i64 (a0)), (.int .i64 (a1)), (.int .i64 (a2))])] =
 (go k impl_within [(.int .i64 (a0)), (.int .i64 (0 : Int)), (.int .i64 ((7 : Int)))]).bind fun r0 =>
 cond (bit (nth r0 0))
 ((go k impl_isLevel [(.int .i64 (a1))]).bind fun r1 =>
 cond (bit (nth r1 0))
 (cond (decide ((0 : Int) ≤ a1))
 ((go k impl_within [(.int .i64 (a2)), (.int .i64 (0 : Int)), (.int .i64 (IntKind.wrap .i64 (IntKind.wrap .i64 ((1 : Int) * (2 : Int) ^ shiftN .i64 a1) - (1 : Int))))]).bind fun r2 =>
 some [(.bool (bit (nth r2 0)))])
 (none))
 (some [(.bool (false))]))
 (some [(.bool (false))]) := by kernel_rfl
theorem qga (k : Nat) (a : Int) : go (k + 1) spec_WidthOf [(.int .i64 (a))] =
 (go k spec_l01In [(.int .i64 (a)), (.int .i64 (0 : Int)), (.int .i64 ((4 : Int)))]).bind fun r0 =>
 cond (!bit (nth r0 0))
 (some [(.int .i64 (0 : Int))])
 (cond (decide ((0 : Int) ≤ IntKind.wrap IntKind.u64 a))
 (some [(.int .i64 (Int.fdiv (16 : Int) ((2 : Int) ^ shiftN .i64 (IntKind.wrap IntKind.u64 a))))])
 (none)) := by kernel_rfl
theorem qes (k : Nat) (a : Int) : go (k + 1) impl_WidthOf [(.int .i64 (a))] =
 (go k impl_isLevel [(.int .i64 (a))]).bind fun r0 =>
 cond (!bit (nth r0 0))
 (some [(.int .i64 (0 : Int))])
 (cond (decide ((0 : Int) ≤ a))
 (some [(.int .i64 (Int.fdiv (16 : Int) ((2 : Int) ^ shiftN .i64 a)))])
 (none)) := by kernel_rfl
theorem qf7 (k : Nat) (a0 a1 a2 : Int) : go (k + 1) spec_StartOf [(.agg [(.int .i64 (a0)), (.int .i64 (a1)), (.int .i64 (a2))])] =
 (go k spec_IdOk [(.agg [(.int .i64 (a0)), (.int .i64 (a1)), (.int .i64 (a2))])]).bind fun r0 =>
 cond (!bit (nth r0 0))
 (some [(.int .i64 ((-1 : Int)))])
 ((go k spec_WidthOf [(.int .i64 (a1))]).bind fun r1 =>
 some [(.int .i64 (IntKind.wrap .i64 (IntKind.wrap .i64 (a0 * (16 : Int)) + IntKind.wrap .i64 (a2 * D.toInt (nth r1 0)))))]) := by kernel_rfl
theorem qej (k : Nat) (a0 a1 a2 : Int) : go (k + 1) impl_StartOf [(.agg [(.int .i64 (a0)), (.int .i64 (a1)), (.int .i64 (a2))])] =
 (go k impl_IdOk [(.agg [(.int .i64 (a0)), (.int .i64 (a1)), (.int .i64 (a2))])]).bind fun r0 =>
 cond (!bit (nth r0 0))
 (some [(.int .i64 ((-1 : Int)))])
 ((go k impl_WidthOf [(.int .i64 (a1))]).bind fun r1 =>
 some [(.int .i64 (IntKind.wrap .i64 (IntKind.wrap .i64 (a0 * (16 : Int)) + IntKind.wrap .i64 (a2 * D.toInt (nth r1 0)))))]) := by kernel_rfl
theorem qgd (k : Nat) (a0 a1 a2 : Int) : go (k + 1) spec_l04End [(.agg [(.int .i64 (a0)), (.int .i64 (a1)), (.int .i64 (a2))])] =
 (go k spec_StartOf [(.agg [(.int .i64 (a0)), (.int .i64 (a1)), (.int .i64 (a2))])]).bind fun r0 =>
 (go k spec_WidthOf [(.int .i64 (a1))]).bind fun r1 =>
 some [(.int .i64 (IntKind.wrap .i64 (D.toInt (nth r0 0) + D.toInt (nth r1 0))))] := by kernel_rfl
theorem qex (k : Nat) (a0 a1 a2 : Int) : go (k + 1) impl_endOf [(.agg [(.int .i64 (a0)), (.int .i64 (a1)), (.int .i64 (a2))])] =
 (go k impl_StartOf [(.agg [(.int .i64 (a0)), (.int .i64 (a1)), (.int .i64 (a2))])]).bind fun r0 =>
 (go k impl_WidthOf [(.int .i64 (a1))]).bind fun r1 =>
 some [(.int .i64 (IntKind.wrap .i64 (D.toInt (nth r0 0) + D.toInt (nth r1 0))))] := by kernel_rfl
def ql9 (x0 x1 : Int) (z2 : Bool) (l3 : List (Int × Int × Int)) (x4 : Int) : St := ⟨fill 45 [(1, (.ptr 1 (0) (0))), (3, (.int .i64 (x0))), (4, (.int .i64 (x1)))], [], [(.arr false (z2) (.r3 (l3))), (.box true [(.int .i64 (x4)), (.sl 0 none)])]⟩
theorem qf2 (k : Nat) (a0 : Int) (a1z : Bool) (a1 : List (Int × Int × Int)) : go (k + 1) spec_MeshOk [(.agg [(.int .i64 (a0)), (.arr false (a1z) (.r3 (a1)))])] =
 lp k spec_MeshOk [] [] 3 k (ql9 (0 : Int) (0 : Int) a1z a1 a0) := by kernel_rfl
theorem qh2 (k n : Nat) (fu : List (Nat × Nat)) (x0 x1 : Int) (z2 : Bool) (l3 : List (Int × Int × Int)) (x4 : Int) : lp k spec_MeshOk [] fu 3 (n + 1) (ql9 x0 x1 z2 l3 x4) =
 cond (decide (x1 < nI (List.length l3)))
 (cond (decide ((0 : Int) ≤ x1) && decide (x1 < nI (List.length l3)))
 ((go k spec_IdOk [(.agg [(.int .i64 (Prod.fst (List.getD l3 (Int.toNat x1) zz3))), (.int .i64 (Prod.fst (Prod.snd (List.getD l3 (Int.toNat x1) zz3)))), (.int .i64 (Prod.snd (Prod.snd (List.getD l3 (Int.toNat x1) zz3))))])]).bind fun r0 =>
 cond (!bit (nth r0 0))
 (some [(.bool (false))])
 (cond (decide ((0 : Int) ≤ x1) && decide (x1 < nI (List.length l3)))
 ((go k spec_StartOf [(.agg [(.int .i64 (Prod.fst (List.getD l3 (Int.toNat x1) zz3))), (.int .i64 (Prod.fst (Prod.snd (List.getD l3 (Int.toNat x1) zz3)))), (.int .i64 (Prod.snd (Prod.snd (List.getD l3 (Int.toNat x1) zz3))))])]).bind fun r1 =>
 cond (!decide (D.toInt (nth r1 0) = x0))
 (some [(.bool (false))])
 (cond (decide ((0 : Int) ≤ x1) && decide (x1 < nI (List.length l3)))
 ((go k spec_l04End [(.agg [(.int .i64 (Prod.fst (List.getD l3 (Int.toNat x1) zz3))), (.int .i64 (Prod.fst (Prod.snd (List.getD l3 (Int.toNat x1) zz3)))), (.int .i64 (Prod.snd (Prod.snd (List.getD l3 (Int.toNat x1) zz3))))])]).bind fun r2 =>
 lp k spec_MeshOk [] fu 3 n (ql9 (D.toInt (nth r2 0)) (IntKind.wrap .i64 (x1 + (1 : Int))) z2 l3 x4))
 (none)))
 (none)))
 (none))
 ((go k spec_l01In [(.int .i64 (x4)), (.int .i64 ((1 : Int))), (.int .i64 ((8 : Int)))]).bind fun r3 =>
 cond (bit (nth r3 0))
 (some [(.bool (decide (x0 = IntKind.wrap .i64 (x4 * (16 : Int)))))])
 (some [(.bool (false))])) := by kernel_rfl
def qlo (x0 x1 x2 : Int) (z3 : Bool) (l4 : List (Int × Int × Int)) (x5 : Int) : St := ⟨fill 35 [(1, (.ptr 1 (0) (0))), (3, (.int .i64 (x0))), (7, (.sl 0 none)), (8, (.int .i64 (x1))), (9, (.int .i64 (x2)))], [], [(.arr false (z3) (.r3 (l4))), (.box true [(.int .i64 (x5)), (.sl 0 none)])]⟩
theorem qea (k : Nat) (a0 : Int) (a1z : Bool) (a1 : List (Int × Int × Int)) : go (k + 1) impl_MeshOk [(.agg [(.int .i64 (a0)), (.arr false (a1z) (.r3 (a1)))])] =
 lp k impl_MeshOk [] [] 3 k (qlo (0 : Int) (nI (List.length a1)) (0 : Int) a1z a1 a0) := by kernel_rfl
theorem qhh (k n : Nat) (fu : List (Nat × Nat)) (x0 x1 x2 : Int) (z3 : Bool) (l4 : List (Int × Int × Int)) (x5 : Int) : lp k impl_MeshOk [] fu 3 (n + 1) (qlo x0 x1 x2 z3 l4 x5) =
 cond (decide (x2 < x1))
 (cond (decide ((0 : Int) ≤ x2) && decide (x2 < nI (List.length l4)))
 ((go k impl_IdOk [(.agg [(.int .i64 (Prod.fst (List.getD l4 (Int.toNat x2) zz3))), (.int .i64 (Prod.fst (Prod.snd (List.getD l4 (Int.toNat x2) zz3)))), (.int .i64 (Prod.snd (Prod.snd (List.getD l4 (Int.toNat x2) zz3))))])]).bind fun r0 =>
 cond (!bit (nth r0 0))
 (some [(.bool (false))])
 ((go k impl_StartOf [(.agg [(.int .i64 (Prod.fst (List.getD l4 (Int.toNat x2) zz3))), (.int .i64 (Prod.fst (Prod.snd (List.getD l4 (Int.toNat x2) zz3)))), (.int .i64 (Prod.snd (Prod.snd (List.getD l4 (Int.toNat x2) zz3))))])]).bind fun r1 =>
 cond (!decide (D.toInt (nth r1 0) = x0))
 (some [(.bool (false))])
 ((go k impl_endOf [(.agg [(.int .i64 (Prod.fst (List.getD l4 (Int.toNat x2) zz3))), (.int .i64 (Prod.fst (Prod.snd (List.getD l4 (Int.toNat x2) zz3)))), (.int .i64 (Prod.snd (Prod.snd (List.getD l4 (Int.toNat x2) zz3))))])]).bind fun r2 =>
 lp k impl_MeshOk [] fu 3 n (qlo (D.toInt (nth r2 0)) x1 (IntKind.wrap .i64 (x2 + (1 : Int))) z3 l4 x5))))
 (none))
 ((go k impl_within [(.int .i64 (x5)), (.int .i64 ((1 : Int))), (.int .i64 ((8 : Int)))]).bind fun r3 =>
 cond (bit (nth r3 0))
 (some [(.bool (decide (x0 = IntKind.wrap .i64 (x5 * (16 : Int)))))])
 (some [(.bool (false))])) := by kernel_rfl
def qmd (x0 : Int) (z1 : Bool) (l2 : List (Int × Int × Int)) (x3 : Int) : St := ⟨fill 34 [(1, (.ptr 1 (0) (0))), (3, (.int .i64 (x0)))], [], [(.arr false (z1) (.r3 (l2))), (.box true [(.int .i64 (x3)), (.sl 0 none)])]⟩
theorem qge (k : Nat) (a0 : Int) (a1z : Bool) (a1 : List (Int × Int × Int)) : go (k + 1) spec_l05First [(.agg [(.int .i64 (a0)), (.arr false (a1z) (.r3 (a1)))])] =
 lp k spec_l05First [] [] 2 k (qmd (0 : Int) a1z a1 a0) := by kernel_rfl
theorem qh6 (k n : Nat) (fu : List (Nat × Nat)) (x0 : Int) (z1 : Bool) (l2 : List (Int × Int × Int)) (x3 : Int) : lp k spec_l05First [] fu 2 (n + 1) (qmd x0 z1 l2 x3) =
 cond (decide (IntKind.wrap .i64 (x0 + (1 : Int)) < nI (List.length l2)))
 (cond (decide ((0 : Int) ≤ x0) && decide (x0 < nI (List.length l2)))
 (cond (decide ((0 : Int) ≤ IntKind.wrap .i64 (x0 + (1 : Int))) && decide (IntKind.wrap .i64 (x0 + (1 : Int)) < nI (List.length l2)))
 (cond (decide ((1 : Int) < IntKind.wrap .i64 (Prod.fst (Prod.snd (List.getD l2 (Int.toNat x0) zz3)) - Prod.fst (Prod.snd (List.getD l2 (Int.toNat (IntKind.wrap .i64 (x0 + (1 : Int)))) zz3)))))
 (some [(.int .i64 (x0))])
 (cond (decide (IntKind.wrap .i64 (Prod.fst (Prod.snd (List.getD l2 (Int.toNat x0) zz3)) - Prod.fst (Prod.snd (List.getD l2 (Int.toNat (IntKind.wrap .i64 (x0 + (1 : Int)))) zz3))) < (-1 : Int)))
 (some [(.int .i64 (x0))])
 (lp k spec_l05First [] fu 2 n (qmd (IntKind.wrap .i64 (x0 + (1 : Int))) z1 l2 x3))))
 (none))
 (none))
 (some [(.int .i64 ((-1 : Int)))]) := by kernel_rfl
def qlp (x0 x1 : Int) (z2 : Bool) (l3 : List (Int × Int × Int)) (x4 : Int) : St := ⟨fill 29 [(1, (.ptr 1 (0) (0))), (7, (.int .i64 (x0))), (8, (.int .i64 (x1)))], [], [(.arr false (z2) (.r3 (l3))), (.box true [(.int .i64 (x4)), (.sl 0 none)])]⟩
theorem qed (k : Nat) (a0 : Int) (a1z : Bool) (a1 : List (Int × Int × Int)) : go (k + 1) impl_Mesh_unbalanced [(.agg [(.int .i64 (a0)), (.arr false (a1z) (.r3 (a1)))])] =
 lp k impl_Mesh_unbalanced [] [] 2 k (qlp (IntKind.wrap .i64 (nI (List.length a1) - (1 : Int))) (0 : Int) a1z a1 a0) := by kernel_rfl
theorem qhi (k n : Nat) (fu : List (Nat × Nat)) (x0 x1 : Int) (z2 : Bool) (l3 : List (Int × Int × Int)) (x4 : Int) : lp k impl_Mesh_unbalanced [] fu 2 (n + 1) (qlp x0 x1 z2 l3 x4) =
 cond (decide (x1 < x0))
 (cond (decide ((0 : Int) ≤ x1) && decide (x1 < nI (List.length l3)))
 (cond (decide ((0 : Int) ≤ IntKind.wrap .i64 (x1 + (1 : Int))) && decide (IntKind.wrap .i64 (x1 + (1 : Int)) < nI (List.length l3)))
 ((go k impl_absolute [(.int .i64 (IntKind.wrap .i64 (Prod.fst (Prod.snd (List.getD l3 (Int.toNat x1) zz3)) - Prod.fst (Prod.snd (List.getD l3 (Int.toNat (IntKind.wrap .i64 (x1 + (1 : Int)))) zz3)))))]).bind fun r0 =>
 cond (decide ((1 : Int) < D.toInt (nth r0 0)))
 (some [(.int .i64 (x1))])
 (lp k impl_Mesh_unbalanced [] fu 2 n (qlp x0 (IntKind.wrap .i64 (x1 + (1 : Int))) z2 l3 x4)))
 (none))
 (none))
 (some [(.int .i64 ((-1 : Int)))]) := by kernel_rfl
theorem qet (k : Nat) (a : Int) : go (k + 1) impl_absolute [(.int .i64 (a))] =
 some [(.int .i64 (if IntKind.wrap .i64 ((0 : Int) - a) > a then IntKind.wrap .i64 ((0 : Int) - a) else a))] := by kernel_rfl
theorem qfz (k : Nat) (a0 : Int) (a1z : Bool) (a1 : List (Int × Int × Int)) : go (k + 1) spec_IsBalanced [(.agg [(.int .i64 (a0)), (.arr false (a1z) (.r3 (a1)))])] =
 (go k spec_MeshOk [(.agg [(.int .i64 (a0)), (.arr false (a1z) (.r3 (a1)))])]).bind fun r0 =>
 cond (bit (nth r0 0))
 ((go k spec_l05First [(.agg [(.int .i64 (a0)), (.arr false (a1z) (.r3 (a1)))])]).bind fun r1 =>
 some [(.bool (decide (D.toInt (nth r1 0) < (0 : Int))))])
 (some [(.bool (false))]) := by kernel_rfl
theorem qd7 (k : Nat) (a0 : Int) (a1z : Bool) (a1 : List (Int × Int × Int)) : go (k + 1) impl_IsBalanced [(.agg [(.int .i64 (a0)), (.arr false (a1z) (.r3 (a1)))])] =
 (go k impl_MeshOk [(.agg [(.int .i64 (a0)), (.arr false (a1z) (.r3 (a1)))])]).bind fun r0 =>
 cond (bit (nth r0 0))
 ((go k impl_Mesh_unbalanced [(.agg [(.int .i64 (a0)), (.arr false (a1z) (.r3 (a1)))])]).bind fun r1 =>
 some [(.bool (decide (D.toInt (nth r1 0) < (0 : Int))))])
 (some [(.bool (false))]) := by kernel_rfl

end Go.Proofs.YtfgccfajhedgdaaGreat
end
section
namespace Go.Proofs.YtfgccfajhedgdaaGreat
open Go.Ev
theorem qfk (k : Nat) (a0 a1 a2 : Int) : go (k + 1) laws_toId [(.agg [(.int .i64 (a0)), (.int .i64 (a1)), (.int .i64 (a2))])] =
 some [(.agg [(.int .i64 (a0)), (.int .i64 (a1)), (.int .i64 (a2))])] := by kernel_rfl
def ql0 (x0 : Int) (z1 : Bool) (l2 : List (Int × Int × Int)) (z3 : Bool) (l4 : List (Int × Int × Int)) : St := ⟨fill 23 [(0, (.sl 0 none)), (3, (.sl 1 none)), (4, (.int .i64 (x0)))], [], [(.arr false (z1) (.r3 (l2))), (.arr true (z3) (.r3 (l4)))]⟩
theorem qfl (k : Nat) (az : Bool) (a : List (Int × Int × Int)) : go (k + 1) laws_toIdS [(.arr false (az) (.r3 (a)))] =
 cond (decide ((0 : Int) ≤ nI (List.length a)) && decide (nI (List.length a) ≤ nI (List.length a)) && decide (nI (List.length a) ≤ nI bigLen))
 (lp k laws_toIdS [] [] 3 k (ql0 (0 : Int) az a false (List.replicate (Int.toNat (nI (List.length a))) zz3)))
 (none) := by kernel_rfl
theorem qht (k n : Nat) (fu : List (Nat × Nat)) (x0 : Int) (z1 : Bool) (l2 : List (Int × Int × Int)) (z3 : Bool) (l4 : List (Int × Int × Int)) : lp k laws_toIdS [] fu 3 (n + 1) (ql0 x0 z1 l2 z3 l4) =
 cond (decide (x0 < nI (List.length l2)))
 (cond (decide ((0 : Int) ≤ x0) && decide (x0 < nI (List.length l2)))
 ((go k laws_toId [(.agg [(.int .i64 (Prod.fst (List.getD l2 (Int.toNat x0) zz3))), (.int .i64 (Prod.fst (Prod.snd (List.getD l2 (Int.toNat x0) zz3)))), (.int .i64 (Prod.snd (Prod.snd (List.getD l2 (Int.toNat x0) zz3))))])]).bind fun r0 =>
 cond (decide ((0 : Int) ≤ x0) && decide (x0 < nI (List.length l4)))
 (lp k laws_toIdS [] fu 3 n (ql0 (IntKind.wrap .i64 (x0 + (1 : Int))) z1 l2 z3 (List.set l4 (Int.toNat x0) (D.toInt (D.cell 0 (nth r0 0)), D.toInt (D.cell 1 (nth r0 0)), D.toInt (D.cell 2 (nth r0 0))))))
 (none))
 (none))
 (some [(.arr true (z3) (.r3 (l4)))]) := by kernel_rfl
theorem qfn (k : Nat) (a0 : Int) (a1z : Bool) (a1 : List (Int × Int × Int)) : go (k + 1) laws_toMesh [(.agg [(.int .i64 (a0)), (.arr false (a1z) (.r3 (a1)))])] =
 (go k laws_toIdS [(.arr false (a1z) (.r3 (a1)))]).bind fun r0 =>
 some [(.agg [(.int .i64 (a0)), (.arr true (D.nil (nth r0 0)) (.r3 (D.r3 (nth r0 0))))])] := by kernel_rfl
theorem qfg (k : Nat) (az : Bool) (a : List (Int × Int × Int)) (b : Int) : go (k + 1) laws_szIdS [(.arr false (az) (.r3 (a))), (.int .i64 (b))] =
 cond (decide (IntKind.wrap .i64 (b - nI (List.length a)) < (0 : Int)))
 (some [(.int .i64 ((-1 : Int)))])
 (some [(.int .i64 (IntKind.wrap .i64 (b - nI (List.length a))))]) := by kernel_rfl
theorem qfi (k : Nat) (a0 : Int) (a1z : Bool) (a1 : List (Int × Int × Int)) (b : Int) : go (k + 1) laws_szMesh [(.agg [(.int .i64 (a0)), (.arr false (a1z) (.r3 (a1)))]), (.int .i64 (b))] =
 (go k laws_szIdS [(.arr false (a1z) (.r3 (a1))), (.int .i64 (b))]).bind fun r0 =>
 cond (decide (D.toInt (nth r0 0) < (0 : Int)))
 (some [(.int .i64 ((-1 : Int)))])
 (some [(.int .i64 (D.toInt (nth r0 0)))]) := by kernel_rfl
theorem qe3 (k : Nat) (a0 a1 a2 b0 b1 b2 : Int) : go (k + 1) laws_eqId [(.agg [(.int .i64 (a0)), (.int .i64 (a1)), (.int .i64 (a2))]), (.agg [(.int .i64 (b0)), (.int .i64 (b1)), (.int .i64 (b2))])] =
 cond (!decide (a0 = b0))
 (some [(.bool (false))])
 (cond (!decide (a1 = b1))
 (some [(.bool (false))])
 (cond (!decide (a2 = b2))
 (some [(.bool (false))])
 (some [(.bool (true))]))) := by kernel_rfl
def qlu (x0 : Int) (z1 : Bool) (l2 : List (Int × Int × Int)) (z3 : Bool) (l4 : List (Int × Int × Int)) : St := ⟨fill 27 [(0, (.sl 0 none)), (1, (.sl 1 none)), (5, (.int .i64 (x0)))], [], [(.arr false (z1) (.r3 (l2))), (.arr false (z3) (.r3 (l4)))]⟩
theorem qe4 (k : Nat) (az : Bool) (a : List (Int × Int × Int)) (bz : Bool) (b : List (Int × Int × Int)) : go (k + 1) laws_eqIdS [(.arr false (az) (.r3 (a))), (.arr false (bz) (.r3 (b)))] =
 cond (!decide (nI (List.length a) = nI (List.length b)))
 (some [(.bool (false))])
 (lp k laws_eqIdS [] [] 4 k (qlu (0 : Int) az a bz b)) := by kernel_rfl
theorem qhn (k n : Nat) (fu : List (Nat × Nat)) (x0 : Int) (z1 : Bool) (l2 : List (Int × Int × Int)) (z3 : Bool) (l4 : List (Int × Int × Int)) : lp k laws_eqIdS [] fu 4 (n + 1) (qlu x0 z1 l2 z3 l4) =
 cond (decide (x0 < nI (List.length l2)))
 (cond (decide ((0 : Int) ≤ x0) && decide (x0 < nI (List.length l2)))
 (cond (decide ((0 : Int) ≤ x0) && decide (x0 < nI (List.length l4)))
 ((go k laws_eqId [(.agg [(.int .i64 (Prod.fst (List.getD l2 (Int.toNat x0) zz3))), (.int .i64 (Prod.fst (Prod.snd (List.getD l2 (Int.toNat x0) zz3)))), (.int .i64 (Prod.snd (Prod.snd (List.getD l2 (Int.toNat x0) zz3))))]), (.agg [(.int .i64 (Prod.fst (List.getD l4 (Int.toNat x0) zz3))), (.int .i64 (Prod.fst (Prod.snd (List.getD l4 (Int.toNat x0) zz3)))), (.int .i64 (Prod.snd (Prod.snd (List.getD l4 (Int.toNat x0) zz3))))])]).bind fun r0 =>
 cond (!bit (nth r0 0))
 (some [(.bool (false))])
 (lp k laws_eqIdS [] fu 4 n (qlu (IntKind.wrap .i64 (x0 + (1 : Int))) z1 l2 z3 l4)))
 (none))
 (none))
 (some [(.bool (true))]) := by kernel_rfl
theorem qe6 (k : Nat) (a0 : Int) (a1z : Bool) (a1 : List (Int × Int × Int)) (b0 : Int) (b1z : Bool) (b1 : List (Int × Int × Int)) : go (k + 1) laws_eqMesh [(.agg [(.int .i64 (a0)), (.arr false (a1z) (.r3 (a1)))]), (.agg [(.int .i64 (b0)), (.arr false (b1z) (.r3 (b1)))])] =
 cond (!decide (a0 = b0))
 (some [(.bool (false))])
 ((go k laws_eqIdS [(.arr false (a1z) (.r3 (a1))), (.arr false (b1z) (.r3 (b1)))]).bind fun r0 =>
 cond (!bit (nth r0 0))
 (some [(.bool (false))])
 (some [(.bool (true))])) := by kernel_rfl
def qly (x0 x1 : Int) (z2 : Bool) (l3 : List (Int × Int × Int)) : St := ⟨fill 34 [(0, (.sl 0 none)), (1, (.int .i64 (x0))), (5, (.int .i64 (x1)))], [(.sl 0 none)], [(.arr true (z2) (.r3 (l3)))]⟩
theorem qfc (k : Nat) (az : Bool) (a : List (Int × Int × Int)) (b : Int) : go (k + 1) laws_markIdS [(.arr true (az) (.r3 (a))), (.int .i64 (b))] =
 lp k laws_markIdS [(.arr true (az) (.r3 (a)))] [] 2 k (qly b (0 : Int) az a) := by kernel_rfl
theorem qhr (k n : Nat) (fu : List (Nat × Nat)) (az : Bool) (a : List (Int × Int × Int)) (x0 x1 : Int) (z2 : Bool) (l3 : List (Int × Int × Int)) : lp k laws_markIdS [(.arr true (az) (.r3 (a)))] fu 2 (n + 1) (qly x0 x1 z2 l3) =
 cond (decide (x1 < nI (List.length l3)))
 (cond (decide ((0 : Int) ≤ x1) && decide (x1 < nI (List.length l3)))
 (cond (decide ((0 : Int) ≤ x1) && decide (x1 < nI (List.length (List.set l3 (Int.toNat x1) (x0, Prod.fst (Prod.snd (List.getD l3 (Int.toNat x1) zz3)), Prod.snd (Prod.snd (List.getD l3 (Int.toNat x1) zz3)))))))
 (cond (decide ((0 : Int) ≤ x1) && decide (x1 < nI (List.length (List.set (List.set l3 (Int.toNat x1) (x0, Prod.fst (Prod.snd (List.getD l3 (Int.toNat x1) zz3)), Prod.snd (Prod.snd (List.getD l3 (Int.toNat x1) zz3)))) (Int.toNat x1) (Prod.fst (List.getD (List.set l3 (Int.toNat x1) (x0, Prod.fst (Prod.snd (List.getD l3 (Int.toNat x1) zz3)), Prod.snd (Prod.snd (List.getD l3 (Int.toNat x1) zz3)))) (Int.toNat x1) zz3), IntKind.wrap .i64 (x0 + (1 : Int)), Prod.snd (Prod.snd (List.getD (List.set l3 (Int.toNat x1) (x0, Prod.fst (Prod.snd (List.getD l3 (Int.toNat x1) zz3)), Prod.snd (Prod.snd (List.getD l3 (Int.toNat x1) zz3)))) (Int.toNat x1) zz3)))))))
 (lp k laws_markIdS [(.arr true (az) (.r3 (a)))] fu 2 n (qly (IntKind.wrap .i64 (IntKind.wrap .i64 (IntKind.wrap .i64 (x0 + (1 : Int)) + (1 : Int)) + (1 : Int))) (IntKind.wrap .i64 (x1 + (1 : Int))) z2 (List.set (List.set (List.set l3 (Int.toNat x1) (x0, Prod.fst (Prod.snd (List.getD l3 (Int.toNat x1) zz3)), Prod.snd (Prod.snd (List.getD l3 (Int.toNat x1) zz3)))) (Int.toNat x1) (Prod.fst (List.getD (List.set l3 (Int.toNat x1) (x0, Prod.fst (Prod.snd (List.getD l3 (Int.toNat x1) zz3)), Prod.snd (Prod.snd (List.getD l3 (Int.toNat x1) zz3)))) (Int.toNat x1) zz3), IntKind.wrap .i64 (x0 + (1 : Int)), Prod.snd (Prod.snd (List.getD (List.set l3 (Int.toNat x1) (x0, Prod.fst (Prod.snd (List.getD l3 (Int.toNat x1) zz3)), Prod.snd (Prod.snd (List.getD l3 (Int.toNat x1) zz3)))) (Int.toNat x1) zz3)))) (Int.toNat x1) (Prod.fst (List.getD (List.set (List.set l3 (Int.toNat x1) (x0, Prod.fst (Prod.snd (List.getD l3 (Int.toNat x1) zz3)), Prod.snd (Prod.snd (List.getD l3 (Int.toNat x1) zz3)))) (Int.toNat x1) (Prod.fst (List.getD (List.set l3 (Int.toNat x1) (x0, Prod.fst (Prod.snd (List.getD l3 (Int.toNat x1) zz3)), Prod.snd (Prod.snd (List.getD l3 (Int.toNat x1) zz3)))) (Int.toNat x1) zz3), IntKind.wrap .i64 (x0 + (1 : Int)), Prod.snd (Prod.snd (List.getD (List.set l3 (Int.toNat x1) (x0, Prod.fst (Prod.snd (List.getD l3 (Int.toNat x1) zz3)), Prod.snd (Prod.snd (List.getD l3 (Int.toNat x1) zz3)))) (Int.toNat x1) zz3)))) (Int.toNat x1) zz3), Prod.fst (Prod.snd (List.getD (List.set (List.set l3 (Int.toNat x1) (x0, Prod.fst (Prod.snd (List.getD l3 (Int.toNat x1) zz3)), Prod.snd (Prod.snd (List.getD l3 (Int.toNat x1) zz3)))) (Int.toNat x1) (Prod.fst (List.getD (List.set l3 (Int.toNat x1) (x0, Prod.fst (Prod.snd (List.getD l3 (Int.toNat x1) zz3)), Prod.snd (Prod.snd (List.getD l3 (Int.toNat x1) zz3)))) (Int.toNat x1) zz3), IntKind.wrap .i64 (x0 + (1 : Int)), Prod.snd (Prod.snd (List.getD (List.set l3 (Int.toNat x1) (x0, Prod.fst (Prod.snd (List.getD l3 (Int.toNat x1) zz3)), Prod.snd (Prod.snd (List.getD l3 (Int.toNat x1) zz3)))) (Int.toNat x1) zz3)))) (Int.toNat x1) zz3)), IntKind.wrap .i64 (IntKind.wrap .i64 (x0 + (1 : Int)) + (1 : Int))))))
 (none))
 (none))
 (none))
 (some [(.int .i64 (x0)), (.arr true (z2) (.r3 (l3)))]) := by kernel_rfl
theorem qfe (k : Nat) (a0 : Int) (a1z : Bool) (a1 : List (Int × Int × Int)) (b : Int) : go (k + 1) laws_markMesh [(.agg [(.int .i64 (a0)), (.arr true (a1z) (.r3 (a1)))]), (.int .i64 (b))] =
 (go k laws_markIdS [(.arr true (a1z) (.r3 (a1))), (.int .i64 (b))]).bind fun r0 =>
 some [(.int .i64 (D.toInt (nth r0 0))), (.agg [(.int .i64 (a0)), (.arr true (a1z) (.r3 (D.r3 (nth r0 1))))])] := by kernel_rfl
def ql1 (x0 : Int) (z1 : Bool) (l2 : List Int) (z3 : Bool) (l4 : List Int) : St := ⟨fill 22 [(0, (.sl 0 none)), (3, (.sl 1 none)), (4, (.int .i64 (x0)))], [], [(.arr false (z1) (.ints .i64 (l2))), (.arr true (z3) (.ints .i64 (l4)))]⟩
theorem qfm (k : Nat) (az : Bool) (a : List Int) : go (k + 1) laws_toIntS [(.arr false (az) (.ints .i64 (a)))] =
 cond (decide ((0 : Int) ≤ nI (List.length a)) && decide (nI (List.length a) ≤ nI (List.length a)) && decide (nI (List.length a) ≤ nI bigLen))
 (lp k laws_toIntS [] [] 3 k (ql1 (0 : Int) az a false (List.replicate (Int.toNat (nI (List.length a))) (0 : Int))))
 (none) := by kernel_rfl
theorem qhu (k n : Nat) (fu : List (Nat × Nat)) (x0 : Int) (z1 : Bool) (l2 : List Int) (z3 : Bool) (l4 : List Int) : lp k laws_toIntS [] fu 3 (n + 1) (ql1 x0 z1 l2 z3 l4) =
 cond (decide (x0 < nI (List.length l2)))
 (cond (decide ((0 : Int) ≤ x0) && decide (x0 < nI (List.length l2)))
 (cond (decide ((0 : Int) ≤ x0) && decide (x0 < nI (List.length l4)))
 (lp k laws_toIntS [] fu 3 n (ql1 (IntKind.wrap .i64 (x0 + (1 : Int))) z1 l2 z3 (List.set l4 (Int.toNat x0) (List.getD l2 (Int.toNat x0) (0 : Int)))))
 (none))
 (none))
 (some [(.arr true (z3) (.ints .i64 (l4)))]) := by kernel_rfl
theorem qfh (k : Nat) (az : Bool) (a : List Int) (b : Int) : go (k + 1) laws_szIntS [(.arr false (az) (.ints .i64 (a))), (.int .i64 (b))] =
 cond (decide (IntKind.wrap .i64 (b - nI (List.length a)) < (0 : Int)))
 (some [(.int .i64 ((-1 : Int)))])
 (some [(.int .i64 (IntKind.wrap .i64 (b - nI (List.length a))))]) := by kernel_rfl
def qlv (x0 : Int) (z1 : Bool) (l2 : List Int) (z3 : Bool) (l4 : List Int) : St := ⟨fill 26 [(0, (.sl 0 none)), (1, (.sl 1 none)), (5, (.int .i64 (x0)))], [], [(.arr false (z1) (.ints .i64 (l2))), (.arr false (z3) (.ints .i64 (l4)))]⟩
theorem qe5 (k : Nat) (az : Bool) (a : List Int) (bz : Bool) (b : List Int) : go (k + 1) laws_eqIntS [(.arr false (az) (.ints .i64 (a))), (.arr false (bz) (.ints .i64 (b)))] =
 cond (!decide (nI (List.length a) = nI (List.length b)))
 (some [(.bool (false))])
 (lp k laws_eqIntS [] [] 4 k (qlv (0 : Int) az a bz b)) := by kernel_rfl
theorem qho (k n : Nat) (fu : List (Nat × Nat)) (x0 : Int) (z1 : Bool) (l2 : List Int) (z3 : Bool) (l4 : List Int) : lp k laws_eqIntS [] fu 4 (n + 1) (qlv x0 z1 l2 z3 l4) =
 cond (decide (x0 < nI (List.length l2)))
 (cond (decide ((0 : Int) ≤ x0) && decide (x0 < nI (List.length l2)))
 (cond (decide ((0 : Int) ≤ x0) && decide (x0 < nI (List.length l4)))
 (cond (!decide (List.getD l2 (Int.toNat x0) (0 : Int) = List.getD l4 (Int.toNat x0) (0 : Int)))
 (some [(.bool (false))])
 (lp k laws_eqIntS [] fu 4 n (qlv (IntKind.wrap .i64 (x0 + (1 : Int))) z1 l2 z3 l4)))
 (none))
 (none))
 (some [(.bool (true))]) := by kernel_rfl
def qlz (x0 x1 : Int) (z2 : Bool) (l3 : List Int) : St := ⟨fill 19 [(0, (.sl 0 none)), (1, (.int .i64 (x0))), (5, (.int .i64 (x1)))], [(.sl 0 none)], [(.arr true (z2) (.ints .i64 (l3)))]⟩
theorem qfd (k : Nat) (az : Bool) (a : List Int) (b : Int) : go (k + 1) laws_markIntS [(.arr true (az) (.ints .i64 (a))), (.int .i64 (b))] =
 lp k laws_markIntS [(.arr true (az) (.ints .i64 (a)))] [] 2 k (qlz b (0 : Int) az a) := by kernel_rfl
theorem qhs (k n : Nat) (fu : List (Nat × Nat)) (az : Bool) (a : List Int) (x0 x1 : Int) (z2 : Bool) (l3 : List Int) : lp k laws_markIntS [(.arr true (az) (.ints .i64 (a)))] fu 2 (n + 1) (qlz x0 x1 z2 l3) =
 cond (decide (x1 < nI (List.length l3)))
 (cond (decide ((0 : Int) ≤ x1) && decide (x1 < nI (List.length l3)))
 (lp k laws_markIntS [(.arr true (az) (.ints .i64 (a)))] fu 2 n (qlz (IntKind.wrap .i64 (x0 + (1 : Int))) (IntKind.wrap .i64 (x1 + (1 : Int))) z2 (List.set l3 (Int.toNat x1) x0)))
 (none))
 (some [(.int .i64 (x0)), (.arr true (z2) (.ints .i64 (l3)))]) := by kernel_rfl
def qlx (x0 x1 : Int) (z2 : Bool) (l3 : List Int) : St := ⟨fill 21 [(0, (.sl 0 none)), (1, (.int .i64 (x0))), (5, (.int .i64 (x1)))], [], [(.arr false (z2) (.ints .i64 (l3)))]⟩
theorem qe9 (k : Nat) (az : Bool) (a : List Int) (b : Int) : go (k + 1) laws_heldIntS [(.arr false (az) (.ints .i64 (a))), (.int .i64 (b))] =
 lp k laws_heldIntS [] [] 2 k (qlx b (0 : Int) az a) := by kernel_rfl
theorem qhq (k n : Nat) (fu : List (Nat × Nat)) (x0 x1 : Int) (z2 : Bool) (l3 : List Int) : lp k laws_heldIntS [] fu 2 (n + 1) (qlx x0 x1 z2 l3) =
 cond (decide (x1 < nI (List.length l3)))
 (cond (decide ((0 : Int) ≤ x1) && decide (x1 < nI (List.length l3)))
 (cond (!decide (List.getD l3 (Int.toNat x1) (0 : Int) = x0))
 (some [(.int .i64 ((-1 : Int)))])
 (lp k laws_heldIntS [] fu 2 n (qlx (IntKind.wrap .i64 (x0 + (1 : Int))) (IntKind.wrap .i64 (x1 + (1 : Int))) z2 l3)))
 (none))
 (some [(.int .i64 (x0))]) := by kernel_rfl

end Go.Proofs.YtfgccfajhedgdaaGreat
end
section
namespace Go.Proofs.YtfgccfajhedgdaaGreat
open Go.Ev
def inR (a b c : Int) : Bool := decide (b ≤ a) && decide (a ≤ c)
theorem qg5 {a b c : Int} : inR a b c = true ↔ b ≤ a ∧ a ≤ c := by simp [inR]
theorem qck (k : Nat) (hk : 2000000 ≤ k) (a : Int) (b : Int) (c : Int) : go (k + 1) spec_l01In [(.int .i64 (a)), (.int .i64 (b)), (.int .i64 (c))] = some [.bool (inR a b c)] := by
  rw [qgb]; unfold inR; cases decide (b ≤ a) <;> rfl
theorem qbb (k : Nat) (hk : 2000000 ≤ k) (a : Int) (b : Int) (c : Int) : go (k + 1) impl_within [(.int .i64 (a)), (.int .i64 (b)), (.int .i64 (c))] = some [.bool (inR a b c)] := by
  rw [qe1]; unfold inR; cases decide (b ≤ a) <;> rfl
def pow2 (l : Int) : Int := 2 ^ l.toNat
def idOk (r l i : Int) : Bool := inR r 0 7 && (inR l 0 4 && (decide (0 ≤ i) && decide (i < pow2 l)))
theorem lev {l : Int} (h : inR l 0 4 = true) : l = 0 ∨ l = 1 ∨ l = 2 ∨ l = 3 ∨ l = 4 := by
  simp only [inR, Bool.and_eq_true, decide_eq_true_eq] at h; omega
theorem p20 : pow2 0 = 1 := rfl
theorem p21 : pow2 1 = 2 := rfl
theorem p22 : pow2 2 = 4 := rfl
theorem p23 : pow2 3 = 8 := rfl
theorem p24 : pow2 4 = 16 := rfl
theorem sh0 : shiftN .i64 0 = 0 := by decide
theorem sh1 : shiftN .i64 1 = 1 := by decide
theorem sh2 : shiftN .i64 2 = 2 := by decide
theorem sh3 : shiftN .i64 3 = 3 := by decide
theorem sh4 : shiftN .i64 4 = 4 := by decide
theorem pw {l : Int} (h : inR l 0 4 = true) : IntKind.wrap .i64 ((1 : Int) * (2 : Int) ^ shiftN .i64 l) = pow2 l := by
  rcases lev h with rfl | rfl | rfl | rfl | rfl <;> simp [sh0, sh1, sh2, sh3, sh4, qn6, p20, p21, p22, p23, p24]
theorem lev0 {l : Int} (h : inR l 0 4 = true) : 0 ≤ l ∧ l ≤ 4 := by
  simp only [inR, Bool.and_eq_true, decide_eq_true_eq] at h; omega
theorem qku {l : Int} (h : inR l 0 4 = true) : 1 ≤ pow2 l ∧ pow2 l ≤ 16 := by
  rcases lev h with rfl | rfl | rfl | rfl | rfl <;> simp [p20, p21, p22, p23, p24]
theorem qb5 (k : Nat) (hk : 2000000 ≤ k) (a0 : Int) (a1 : Int) (a2 : Int) : go (k + 2) spec_IdOk [(.agg [(.int .i64 (a0)), (.int .i64 (a1)), (.int .i64 (a2))])] = some [.bool (idOk a0 a1 a2)] := by
  rw [qfy]
  simp (disch := omega) only [qaf, nth0, nth1, nth2, nth3, bit, qcw, qcx, qc8, qdd, qde, qdf, qdg, qdh, qdi, qdj, qcy, qcz, qc0, qc1, qc2, qc3, qc4, qc5, qc6, qc7, qc9, qda, qdb, qdc, qni, qnh, qnj, qkc, qky, qkz, qg6, qag, qm5, nI, qds, qdq, Bool.not_true, Bool.not_false, Bool.and_true, Bool.true_and, Bool.and_false, Bool.false_and, Bool.or_true, Bool.true_or, Bool.or_false, Bool.false_or, beq_self_eq_true, dTT, dFF, dT, dF, bigI, big0, qkb, qn6, qn7, List.length_set, List.length_replicate, Int.toNat_natCast, qcu, qcv, imax, imin, qck]
  unfold idOk
  cases h1 : inR a0 0 7 <;> cases h2 : inR a1 0 4 <;> simp only [qds, qdq, Bool.true_and, Bool.false_and, Bool.and_false]
  have := lev0 h2
  rw [qn7 (x := a1) (by omega) (by omega), pw h2]
  by_cases h3 : (0 : Int) ≤ a2
  · simp [h3, this.1]
  · simp [h3]
theorem qa6 (k : Nat) (hk : 2000000 ≤ k) (a : Int) : go (k + 2) impl_isLevel [(.int .i64 (a))] = some [.bool (inR a 0 4)] := by
  rw [qez]
  simp (disch := omega) only [qaf, nth0, nth1, nth2, nth3, bit, qcw, qcx, qc8, qdd, qde, qdf, qdg, qdh, qdi, qdj, qcy, qcz, qc0, qc1, qc2, qc3, qc4, qc5, qc6, qc7, qc9, qda, qdb, qdc, qni, qnh, qnj, qkc, qky, qkz, qg6, qag, qm5, nI, qds, qdq, Bool.not_true, Bool.not_false, Bool.and_true, Bool.true_and, Bool.and_false, Bool.false_and, Bool.or_true, Bool.true_or, Bool.or_false, Bool.false_or, beq_self_eq_true, dTT, dFF, dT, dF, bigI, big0, qkb, qn6, qn7, List.length_set, List.length_replicate, Int.toNat_natCast, qcu, qcv, imax, imin, qbb]
theorem qak (k : Nat) (hk : 2000000 ≤ k) (a0 : Int) (a1 : Int) (a2 : Int) : go (k + 3) impl_IdOk [(.agg [(.int .i64 (a0)), (.int .i64 (a1)), (.int .i64 (a2))])] = some [.bool (idOk a0 a1 a2)] := by
  rw [qd6]
  simp (disch := omega) only [qaf, nth0, nth1, nth2, nth3, bit, qcw, qcx, qc8, qdd, qde, qdf, qdg, qdh, qdi, qdj, qcy, qcz, qc0, qc1, qc2, qc3, qc4, qc5, qc6, qc7, qc9, qda, qdb, qdc, qni, qnh, qnj, qkc, qky, qkz, qg6, qag, qm5, nI, qds, qdq, Bool.not_true, Bool.not_false, Bool.and_true, Bool.true_and, Bool.and_false, Bool.false_and, Bool.or_true, Bool.true_or, Bool.or_false, Bool.false_or, beq_self_eq_true, dTT, dFF, dT, dF, bigI, big0, qkb, qn6, qn7, List.length_set, List.length_replicate, Int.toNat_natCast, qcu, qcv, imax, imin, qbb, qa6]
  unfold idOk
  cases h1 : inR a0 0 7 <;> cases h2 : inR a1 0 4 <;> simp only [qds, qdq, Bool.true_and, Bool.false_and, Bool.and_false]
  have := lev0 h2
  have := qku h2
  rw [pw h2, qn6 (x := pow2 a1 - 1) (by omega) (by omega)]
  rw [show decide ((0 : Int) ≤ a1) = true by simp; omega, qds]
  have e : inR a2 0 (pow2 a1 - 1) = (decide (0 ≤ a2) && decide (a2 < pow2 a1)) := by
    unfold inR; rw [Bool.eq_iff_iff]; simp only [Bool.and_eq_true, decide_eq_true_eq]; omega
  rw [e]
def qn0 (l : Int) : Int := if inR l 0 4 then 16 / pow2 l else 0
theorem qci (k : Nat) (hk : 2000000 ≤ k) (a : Int) : go (k + 2) spec_WidthOf [(.int .i64 (a))] = some [.int .i64 (qn0 a)] := by
  rw [qga]
  simp (disch := omega) only [qaf, nth0, nth1, nth2, nth3, bit, qcw, qcx, qc8, qdd, qde, qdf, qdg, qdh, qdi, qdj, qcy, qcz, qc0, qc1, qc2, qc3, qc4, qc5, qc6, qc7, qc9, qda, qdb, qdc, qni, qnh, qnj, qkc, qky, qkz, qg6, qag, qm5, nI, qds, qdq, Bool.not_true, Bool.not_false, Bool.and_true, Bool.true_and, Bool.and_false, Bool.false_and, Bool.or_true, Bool.true_or, Bool.or_false, Bool.false_or, beq_self_eq_true, dTT, dFF, dT, dF, bigI, big0, qkb, qn6, qn7, List.length_set, List.length_replicate, Int.toNat_natCast, qcu, qcv, imax, imin, qck, qn0]
  cases h2 : inR a 0 4
  · simp
  · rcases lev h2 with rfl | rfl | rfl | rfl | rfl <;> simp [qn7, sh0, sh1, sh2, sh3, sh4, p20, p21, p22, p23, p24] <;> decide
theorem qax (k : Nat) (hk : 2000000 ≤ k) (a : Int) : go (k + 3) impl_WidthOf [(.int .i64 (a))] = some [.int .i64 (qn0 a)] := by
  rw [qes]
  simp (disch := omega) only [qaf, nth0, nth1, nth2, nth3, bit, qcw, qcx, qc8, qdd, qde, qdf, qdg, qdh, qdi, qdj, qcy, qcz, qc0, qc1, qc2, qc3, qc4, qc5, qc6, qc7, qc9, qda, qdb, qdc, qni, qnh, qnj, qkc, qky, qkz, qg6, qag, qm5, nI, qds, qdq, Bool.not_true, Bool.not_false, Bool.and_true, Bool.true_and, Bool.and_false, Bool.false_and, Bool.or_true, Bool.true_or, Bool.or_false, Bool.false_or, beq_self_eq_true, dTT, dFF, dT, dF, bigI, big0, qkb, qn6, qn7, List.length_set, List.length_replicate, Int.toNat_natCast, qcu, qcv, imax, imin, qa6, qn0]
  cases h2 : inR a 0 4
  · simp
  · rcases lev h2 with rfl | rfl | rfl | rfl | rfl <;> simp [qn7, sh0, sh1, sh2, sh3, sh4, p20, p21, p22, p23, p24] <;> decide
def qmz (r l i : Int) : Int := if idOk r l i then r * 16 + i * qn0 l else -1
theorem qn2 (l : Int) : 0 ≤ qn0 l ∧ qn0 l ≤ 16 := by
  unfold qn0
  cases h : inR l 0 4
  · simp
  · rcases lev h with rfl | rfl | rfl | rfl | rfl <;> decide
theorem qg4 {r l i : Int} (h : idOk r l i = true) : 0 ≤ r ∧ r ≤ 7 ∧ inR l 0 4 = true ∧ 0 ≤ i ∧ i < pow2 l := by
  simp only [idOk, Bool.and_eq_true, decide_eq_true_eq] at h
  obtain ⟨h1, h2, h3, h4⟩ := h
  simp only [inR, Bool.and_eq_true, decide_eq_true_eq] at h1
  exact ⟨h1.1, h1.2, h2, h3, h4⟩
theorem iw {r l i : Int} (h : idOk r l i = true) : 0 ≤ i * qn0 l ∧ i * qn0 l ≤ 256 := by
  obtain ⟨_, _, h2, h3, h4⟩ := qg4 h
  have h5 := (qku h2).2
  have h6 := qn2 l
  have h7 : i ≤ 16 := by omega
  refine ⟨Int.mul_nonneg h3 h6.1, ?_⟩
  calc i * qn0 l ≤ 16 * qn0 l := Int.mul_le_mul_of_nonneg_right h7 h6.1
    _ ≤ 16 * 16 := Int.mul_le_mul_of_nonneg_left h6.2 (by omega)
theorem qm0 (r l i : Int) : -1 ≤ qmz r l i ∧ qmz r l i ≤ 1000 := by
  unfold qmz
  cases h : idOk r l i
  · simp
  · have := iw h; have := qg4 h
    simp; omega
theorem qm2 {r l i : Int} (h : idOk r l i = true) : IntKind.wrap .i64 (IntKind.wrap .i64 (r * (16 : Int)) + IntKind.wrap .i64 (i * qn0 l)) = qmz r l i := by
  have h1 := iw h; have h2 := qg4 h
  rw [qn6 (x := r * 16) (by omega) (by omega), qn6 (x := i * qn0 l) (by omega) (by omega), qn6 (by omega) (by omega)]
  simp [qmz, h]
theorem qce (k : Nat) (hk : 2000000 ≤ k) (a0 : Int) (a1 : Int) (a2 : Int) : go (k + 3) spec_StartOf [(.agg [(.int .i64 (a0)), (.int .i64 (a1)), (.int .i64 (a2))])] = some [.int .i64 (qmz a0 a1 a2)] := by
  rw [qf7]
  simp (disch := omega) only [qaf, nth0, nth1, nth2, nth3, bit, qcw, qcx, qc8, qdd, qde, qdf, qdg, qdh, qdi, qdj, qcy, qcz, qc0, qc1, qc2, qc3, qc4, qc5, qc6, qc7, qc9, qda, qdb, qdc, qni, qnh, qnj, qkc, qky, qkz, qg6, qag, qm5, nI, qds, qdq, Bool.not_true, Bool.not_false, Bool.and_true, Bool.true_and, Bool.and_false, Bool.false_and, Bool.or_true, Bool.true_or, Bool.or_false, Bool.false_or, beq_self_eq_true, dTT, dFF, dT, dF, bigI, big0, qkb, qn6, qn7, List.length_set, List.length_replicate, Int.toNat_natCast, qcu, qcv, imax, imin, qb5, qci]
  cases h : idOk a0 a1 a2
  · simp [qmz, h]
  · rw [qm2 h]; rfl
theorem qau (k : Nat) (hk : 2000000 ≤ k) (a0 : Int) (a1 : Int) (a2 : Int) : go (k + 4) impl_StartOf [(.agg [(.int .i64 (a0)), (.int .i64 (a1)), (.int .i64 (a2))])] = some [.int .i64 (qmz a0 a1 a2)] := by
  rw [qej]
  simp (disch := omega) only [qaf, nth0, nth1, nth2, nth3, bit, qcw, qcx, qc8, qdd, qde, qdf, qdg, qdh, qdi, qdj, qcy, qcz, qc0, qc1, qc2, qc3, qc4, qc5, qc6, qc7, qc9, qda, qdb, qdc, qni, qnh, qnj, qkc, qky, qkz, qg6, qag, qm5, nI, qds, qdq, Bool.not_true, Bool.not_false, Bool.and_true, Bool.true_and, Bool.and_false, Bool.false_and, Bool.or_true, Bool.true_or, Bool.or_false, Bool.false_or, beq_self_eq_true, dTT, dFF, dT, dF, bigI, big0, qkb, qn6, qn7, List.length_set, List.length_replicate, Int.toNat_natCast, qcu, qcv, imax, imin, qak, qax]
  cases h : idOk a0 a1 a2
  · simp [qmz, h]
  · rw [qm2 h]; rfl
theorem qgq (r l i : Int) : IntKind.wrap .i64 (qmz r l i + qn0 l) = qmz r l i + qn0 l := by
  have h1 := qm0 r l i; have h2 := qn2 l
  exact qn6 (by omega) (by omega)
theorem qcm (k : Nat) (hk : 2000000 ≤ k) (a0 : Int) (a1 : Int) (a2 : Int) : go (k + 4) spec_l04End [(.agg [(.int .i64 (a0)), (.int .i64 (a1)), (.int .i64 (a2))])] = some [.int .i64 (qmz a0 a1 a2 + qn0 a1)] := by
  rw [qgd]
  simp (disch := omega) only [qaf, nth0, nth1, nth2, nth3, bit, qcw, qcx, qc8, qdd, qde, qdf, qdg, qdh, qdi, qdj, qcy, qcz, qc0, qc1, qc2, qc3, qc4, qc5, qc6, qc7, qc9, qda, qdb, qdc, qni, qnh, qnj, qkc, qky, qkz, qg6, qag, qm5, nI, qds, qdq, Bool.not_true, Bool.not_false, Bool.and_true, Bool.true_and, Bool.and_false, Bool.false_and, Bool.or_true, Bool.true_or, Bool.or_false, Bool.false_or, beq_self_eq_true, dTT, dFF, dT, dF, bigI, big0, qkb, qn6, qn7, List.length_set, List.length_replicate, Int.toNat_natCast, qcu, qcv, imax, imin, qce, qci, qgq]
theorem qa2 (k : Nat) (hk : 2000000 ≤ k) (a0 : Int) (a1 : Int) (a2 : Int) : go (k + 5) impl_endOf [(.agg [(.int .i64 (a0)), (.int .i64 (a1)), (.int .i64 (a2))])] = some [.int .i64 (qmz a0 a1 a2 + qn0 a1)] := by
  rw [qex]
  simp (disch := omega) only [qaf, nth0, nth1, nth2, nth3, bit, qcw, qcx, qc8, qdd, qde, qdf, qdg, qdh, qdi, qdj, qcy, qcz, qc0, qc1, qc2, qc3, qc4, qc5, qc6, qc7, qc9, qda, qdb, qdc, qni, qnh, qnj, qkc, qky, qkz, qg6, qag, qm5, nI, qds, qdq, Bool.not_true, Bool.not_false, Bool.and_true, Bool.true_and, Bool.and_false, Bool.false_and, Bool.or_true, Bool.true_or, Bool.or_false, Bool.false_or, beq_self_eq_true, dTT, dFF, dT, dF, bigI, big0, qkb, qn6, qn7, List.length_set, List.length_replicate, Int.toNat_natCast, qcu, qcv, imax, imin, qau, qax, qgq]
abbrev Cell := Int × Int × Int
def qj1 (roots : Int) : Int → List Cell → Bool
  | pos, [] => inR roots 1 8 && decide (pos = roots * 16)
  | pos, x :: rest => idOk x.1 x.2.1 x.2.2 && (decide (qmz x.1 x.2.1 x.2.2 = pos) && qj1 roots (qmz x.1 x.2.1 x.2.2 + qn0 x.2.1) rest)
theorem qj4 (roots pos : Int) : cond (inR roots 1 8) (some [D.bool (decide (pos = IntKind.wrap .i64 (roots * (16 : Int))))]) (some [D.bool false]) = some [D.bool (qj1 roots pos [])] := by
  unfold qj1
  cases h : inR roots 1 8
  · rfl
  · simp only [inR, Bool.and_eq_true, decide_eq_true_eq] at h
    rw [qn6 (by omega) (by omega)]; rfl
theorem qjf (k : Nat) (hk : 2000000 ≤ k) (fu : List (Nat × Nat)) (z : Bool) (l : List Cell) (roots : Int) (hl : (l.length : Int) ≤ 1048576) : ∀ (n i : Nat) (pos : Int), i ≤ l.length → l.length - i < n →
    lp (k + 4) spec_MeshOk [] fu 3 (n) (ql9 pos (i : Int) z l roots) = some [.bool (qj1 roots pos (l.drop i))]
  | 0, i, pos, hi, hn => by omega
  | n + 1, i, pos, hi, hn => by
    rw [qh2]
    by_cases h : i < l.length
    · rw [qd3 h zz3]
      simp (disch := omega) only [qaf, nth0, nth1, nth2, nth3, bit, qcw, qcx, qc8, qdd, qde, qdf, qdg, qdh, qdi, qdj, qcy, qcz, qc0, qc1, qc2, qc3, qc4, qc5, qc6, qc7, qc9, qda, qdb, qdc, qni, qnh, qnj, qkc, qky, qkz, qg6, qag, qm5, nI, qds, qdq, Bool.not_true, Bool.not_false, Bool.and_true, Bool.true_and, Bool.and_false, Bool.false_and, Bool.or_true, Bool.true_or, Bool.or_false, Bool.false_or, beq_self_eq_true, dTT, dFF, dT, dF, bigI, big0, qkb, qn6, qn7, List.length_set, List.length_replicate, Int.toNat_natCast, qcu, qcv, imax, imin, qb5, qce, qcm, qj1]
      rw [qjf k hk fu z l roots hl n (i + 1) _ (by omega) (by omega)]
      simp only [qdt, qdu, Bool.and_assoc]
    · rw [List.drop_of_length_le (by omega)]
      simp (disch := omega) only [qaf, nth0, nth1, nth2, nth3, bit, qcw, qcx, qc8, qdd, qde, qdf, qdg, qdh, qdi, qdj, qcy, qcz, qc0, qc1, qc2, qc3, qc4, qc5, qc6, qc7, qc9, qda, qdb, qdc, qni, qnh, qnj, qkc, qky, qkz, qg6, qag, qm5, nI, qds, qdq, Bool.not_true, Bool.not_false, Bool.and_true, Bool.true_and, Bool.and_false, Bool.false_and, Bool.or_true, Bool.true_or, Bool.or_false, Bool.false_or, beq_self_eq_true, dTT, dFF, dT, dF, bigI, big0, qkb, qn6, qn7, List.length_set, List.length_replicate, Int.toNat_natCast, qcu, qcv, imax, imin, qck]
      exact qj4 roots pos
theorem qb9 (k : Nat) (hk : 2000000 ≤ k) (a0 : Int) (a1z : Bool) (a1 : List (Int × Int × Int)) (hl : (a1.length : Int) ≤ 1048576) : go (k + 5) spec_MeshOk [(.agg [(.int .i64 (a0)), (.arr false (a1z) (.r3 (a1)))])] = some [.bool (qj1 a0 0 a1)] := by
  rw [qf2]
  exact qjf k hk _ _ a1 a0 hl _ 0 0 (by omega) (by omega)
theorem qiv (k : Nat) (hk : 2000000 ≤ k) (fu : List (Nat × Nat)) (z : Bool) (l : List Cell) (roots : Int) (hl : (l.length : Int) ≤ 1048576) : ∀ (n i : Nat) (pos : Int), i ≤ l.length → l.length - i < n →
    lp (k + 5) impl_MeshOk [] fu 3 (n) (qlo pos (l.length : Int) (i : Int) z l roots) = some [.bool (qj1 roots pos (l.drop i))]
  | 0, i, pos, hi, hn => by omega
  | n + 1, i, pos, hi, hn => by
    rw [qhh]
    by_cases h : i < l.length
    · rw [qd3 h zz3]
      simp (disch := omega) only [qaf, nth0, nth1, nth2, nth3, bit, qcw, qcx, qc8, qdd, qde, qdf, qdg, qdh, qdi, qdj, qcy, qcz, qc0, qc1, qc2, qc3, qc4, qc5, qc6, qc7, qc9, qda, qdb, qdc, qni, qnh, qnj, qkc, qky, qkz, qg6, qag, qm5, nI, qds, qdq, Bool.not_true, Bool.not_false, Bool.and_true, Bool.true_and, Bool.and_false, Bool.false_and, Bool.or_true, Bool.true_or, Bool.or_false, Bool.false_or, beq_self_eq_true, dTT, dFF, dT, dF, bigI, big0, qkb, qn6, qn7, List.length_set, List.length_replicate, Int.toNat_natCast, qcu, qcv, imax, imin, qak, qau, qa2, qj1]
      rw [qiv k hk fu z l roots hl n (i + 1) _ (by omega) (by omega)]
      simp only [qdt, qdu, Bool.and_assoc]
    · rw [List.drop_of_length_le (by omega)]
      simp (disch := omega) only [qaf, nth0, nth1, nth2, nth3, bit, qcw, qcx, qc8, qdd, qde, qdf, qdg, qdh, qdi, qdj, qcy, qcz, qc0, qc1, qc2, qc3, qc4, qc5, qc6, qc7, qc9, qda, qdb, qdc, qni, qnh, qnj, qkc, qky, qkz, qg6, qag, qm5, nI, qds, qdq, Bool.not_true, Bool.not_false, Bool.and_true, Bool.true_and, Bool.and_false, Bool.false_and, Bool.or_true, Bool.true_or, Bool.or_false, Bool.false_or, beq_self_eq_true, dTT, dFF, dT, dF, bigI, big0, qkb, qn6, qn7, List.length_set, List.length_replicate, Int.toNat_natCast, qcu, qcv, imax, imin, qbb]
      exact qj4 roots pos
theorem qao (k : Nat) (hk : 2000000 ≤ k) (a0 : Int) (a1z : Bool) (a1 : List (Int × Int × Int)) (hl : (a1.length : Int) ≤ 1048576) : go (k + 6) impl_MeshOk [(.agg [(.int .i64 (a0)), (.arr false (a1z) (.r3 (a1)))])] = some [.bool (qj1 a0 0 a1)] := by
  rw [qea]
  exact qiv k hk _ _ a1 a0 hl _ 0 0 (by omega) (by omega)
theorem qgx (r n : Nat) (fu : List (Nat × Nat)) : fuelOf ((r, n) :: fu) r = n := by simp [fuelOf, find]
end Go.Proofs.YtfgccfajhedgdaaGreat
end
section
namespace Go.Proofs.YtfgccfajhedgdaaGreat
open Go.Ev
theorem qmn {α : Type} (l o : List α) (i : Nat) (d : α) (h : i < l.length) (ho : o.length = l.length) : (o.set i (l.getD i d)).take (i + 1) ++ l.drop (i + 1) = o.take i ++ l.drop i := by
  rw [qd3 h d]
  have : (o.set i (l.getD i d)).take (i + 1) = o.take i ++ [l.getD i d] := by
    rw [List.take_succ_eq_append_getElem (by simp; omega)]
    simp [List.take_set_of_le]
  rw [this]; simp
theorem qbt (k : Nat) (hk : 2000000 ≤ k) (a0 : Int) (a1 : Int) (a2 : Int) : go (k + 1) laws_toId [(.agg [(.int .i64 (a0)), (.int .i64 (a1)), (.int .i64 (a2))])] = some [.agg [.int .i64 a0, .int .i64 a1, .int .i64 a2]] := by rw [qfk]
theorem qi7 (k : Nat) (hk : 2000000 ≤ k) (fu : List (Nat × Nat)) (z z' : Bool) (l : List Cell) (hl : (l.length : Int) ≤ 1048576) : ∀ (n i : Nat) (o : List Cell), i ≤ l.length → o.length = l.length → l.length - i < n →
    lp (k + 1) laws_toIdS [] fu 3 (n) (ql0 (i : Int) z l z' o) = some [.arr true z' (.r3 (o.take i ++ l.drop i))]
  | 0, i, o, hi, ho, hn => by omega
  | n + 1, i, o, hi, ho, hn => by
    rw [qht]
    by_cases h : i < l.length
    · simp (disch := omega) only [qaf, nth0, nth1, nth2, nth3, bit, qcw, qcx, qc8, qdd, qde, qdf, qdg, qdh, qdi, qdj, qcy, qcz, qc0, qc1, qc2, qc3, qc4, qc5, qc6, qc7, qc9, qda, qdb, qdc, qni, qnh, qnj, qkc, qky, qkz, qg6, qag, qm5, nI, qds, qdq, Bool.not_true, Bool.not_false, Bool.and_true, Bool.true_and, Bool.and_false, Bool.false_and, Bool.or_true, Bool.true_or, Bool.or_false, Bool.false_or, beq_self_eq_true, dTT, dFF, dT, dF, bigI, big0, qkb, qn6, qn7, List.length_set, List.length_replicate, Int.toNat_natCast, qcu, qcv, imax, imin, qbt]
      rw [qi7 k hk fu z z' l hl n (i + 1) _ (by omega) (by simp [ho]) (by omega)]
      exact congrArg (fun x => some [D.arr true z' (.r3 x)]) (qmn l o i zz3 h ho)
    · simp (disch := omega) only [qaf, nth0, nth1, nth2, nth3, bit, qcw, qcx, qc8, qdd, qde, qdf, qdg, qdh, qdi, qdj, qcy, qcz, qc0, qc1, qc2, qc3, qc4, qc5, qc6, qc7, qc9, qda, qdb, qdc, qni, qnh, qnj, qkc, qky, qkz, qg6, qag, qm5, nI, qds, qdq, Bool.not_true, Bool.not_false, Bool.and_true, Bool.true_and, Bool.and_false, Bool.false_and, Bool.or_true, Bool.true_or, Bool.or_false, Bool.false_or, beq_self_eq_true, dTT, dFF, dT, dF, bigI, big0, qkb, qn6, qn7, List.length_set, List.length_replicate, Int.toNat_natCast, qcu, qcv, imax, imin]
      have hil : i = l.length := by omega
      rw [hil, List.drop_length, List.append_nil, List.take_of_length_le (by omega)]
theorem qbu (k : Nat) (hk : 2000000 ≤ k) (az : Bool) (a : List (Int × Int × Int)) (hl : (a.length : Int) ≤ 1048576) : go (k + 2) laws_toIdS [(.arr false (az) (.r3 (a)))] = some [.arr true false (.r3 a)] := by
  rw [qfl]
  simp (disch := omega) only [qaf, nth0, nth1, nth2, nth3, bit, qcw, qcx, qc8, qdd, qde, qdf, qdg, qdh, qdi, qdj, qcy, qcz, qc0, qc1, qc2, qc3, qc4, qc5, qc6, qc7, qc9, qda, qdb, qdc, qni, qnh, qnj, qkc, qky, qkz, qg6, qag, qm5, nI, qds, qdq, Bool.not_true, Bool.not_false, Bool.and_true, Bool.true_and, Bool.and_false, Bool.false_and, Bool.or_true, Bool.true_or, Bool.or_false, Bool.false_or, beq_self_eq_true, dTT, dFF, dT, dF, bigI, big0, qkb, qn6, qn7, List.length_set, List.length_replicate, Int.toNat_natCast, qcu, qcv, imax, imin]
  refine Eq.trans (qi7 k hk [] az false a hl _ 0 (List.replicate a.length zz3) (by omega) (by simp) (by omega)) ?_
  simp
theorem qbw (k : Nat) (hk : 2000000 ≤ k) (a0 : Int) (a1z : Bool) (a1 : List (Int × Int × Int)) (hl : (a1.length : Int) ≤ 1048576) : go (k + 3) laws_toMesh [(.agg [(.int .i64 (a0)), (.arr false (a1z) (.r3 (a1)))])] = some [.agg [.int .i64 a0, .arr true false (.r3 a1)]] := by
  rw [qfn]
  simp (disch := omega) only [qaf, nth0, nth1, nth2, nth3, bit, qcw, qcx, qc8, qdd, qde, qdf, qdg, qdh, qdi, qdj, qcy, qcz, qc0, qc1, qc2, qc3, qc4, qc5, qc6, qc7, qc9, qda, qdb, qdc, qni, qnh, qnj, qkc, qky, qkz, qg6, qag, qm5, nI, qds, qdq, Bool.not_true, Bool.not_false, Bool.and_true, Bool.true_and, Bool.and_false, Bool.false_and, Bool.or_true, Bool.true_or, Bool.or_false, Bool.false_or, beq_self_eq_true, dTT, dFF, dT, dF, bigI, big0, qkb, qn6, qn7, List.length_set, List.length_replicate, Int.toNat_natCast, qcu, qcv, imax, imin, qbu]
theorem qbp (k : Nat) (hk : 2000000 ≤ k) (az : Bool) (a : List (Int × Int × Int)) (b : Int) (hl : (a.length : Int) ≤ 9223372036854775807) (hb : 0 ≤ b) (hb' : b ≤ 1048576) : go (k + 1) laws_szIdS [(.arr false (az) (.r3 (a))), (.int .i64 (b))] = some [.int .i64 (if (a.length : Int) ≤ b then b - a.length else -1)] := by
  rw [qfg]
  by_cases h : (a.length : Int) ≤ b
  · simp (disch := omega) only [qaf, nth0, nth1, nth2, nth3, bit, qcw, qcx, qc8, qdd, qde, qdf, qdg, qdh, qdi, qdj, qcy, qcz, qc0, qc1, qc2, qc3, qc4, qc5, qc6, qc7, qc9, qda, qdb, qdc, qni, qnh, qnj, qkc, qky, qkz, qg6, qag, qm5, nI, qds, qdq, Bool.not_true, Bool.not_false, Bool.and_true, Bool.true_and, Bool.and_false, Bool.false_and, Bool.or_true, Bool.true_or, Bool.or_false, Bool.false_or, beq_self_eq_true, dTT, dFF, dT, dF, bigI, big0, qkb, qn6, qn7, List.length_set, List.length_replicate, Int.toNat_natCast, qcu, qcv, imax, imin, if_pos h]
  · simp (disch := omega) only [qaf, nth0, nth1, nth2, nth3, bit, qcw, qcx, qc8, qdd, qde, qdf, qdg, qdh, qdi, qdj, qcy, qcz, qc0, qc1, qc2, qc3, qc4, qc5, qc6, qc7, qc9, qda, qdb, qdc, qni, qnh, qnj, qkc, qky, qkz, qg6, qag, qm5, nI, qds, qdq, Bool.not_true, Bool.not_false, Bool.and_true, Bool.true_and, Bool.and_false, Bool.false_and, Bool.or_true, Bool.true_or, Bool.or_false, Bool.false_or, beq_self_eq_true, dTT, dFF, dT, dF, bigI, big0, qkb, qn6, qn7, List.length_set, List.length_replicate, Int.toNat_natCast, qcu, qcv, imax, imin, if_neg h]
theorem qbr (k : Nat) (hk : 2000000 ≤ k) (a0 : Int) (a1z : Bool) (a1 : List (Int × Int × Int)) (b : Int) (hl : (a1.length : Int) ≤ 9223372036854775807) (hb : 0 ≤ b) (hb' : b ≤ 1048576) : go (k + 2) laws_szMesh [(.agg [(.int .i64 (a0)), (.arr false (a1z) (.r3 (a1)))]), (.int .i64 (b))] = some [.int .i64 (if (a1.length : Int) ≤ b then b - a1.length else -1)] := by
  rw [qfi]
  simp (disch := omega) only [qaf, nth0, nth1, nth2, nth3, bit, qcw, qcx, qc8, qdd, qde, qdf, qdg, qdh, qdi, qdj, qcy, qcz, qc0, qc1, qc2, qc3, qc4, qc5, qc6, qc7, qc9, qda, qdb, qdc, qni, qnh, qnj, qkc, qky, qkz, qg6, qag, qm5, nI, qds, qdq, Bool.not_true, Bool.not_false, Bool.and_true, Bool.true_and, Bool.and_false, Bool.false_and, Bool.or_true, Bool.true_or, Bool.or_false, Bool.false_or, beq_self_eq_true, dTT, dFF, dT, dF, bigI, big0, qkb, qn6, qn7, List.length_set, List.length_replicate, Int.toNat_natCast, qcu, qcv, imax, imin, qbp]
  by_cases h : (a1.length : Int) ≤ b
  · simp (disch := omega) only [qaf, nth0, nth1, nth2, nth3, bit, qcw, qcx, qc8, qdd, qde, qdf, qdg, qdh, qdi, qdj, qcy, qcz, qc0, qc1, qc2, qc3, qc4, qc5, qc6, qc7, qc9, qda, qdb, qdc, qni, qnh, qnj, qkc, qky, qkz, qg6, qag, qm5, nI, qds, qdq, Bool.not_true, Bool.not_false, Bool.and_true, Bool.true_and, Bool.and_false, Bool.false_and, Bool.or_true, Bool.true_or, Bool.or_false, Bool.false_or, beq_self_eq_true, dTT, dFF, dT, dF, bigI, big0, qkb, qn6, qn7, List.length_set, List.length_replicate, Int.toNat_natCast, qcu, qcv, imax, imin, if_pos h]
  · simp (disch := omega) only [qaf, nth0, nth1, nth2, nth3, bit, qcw, qcx, qc8, qdd, qde, qdf, qdg, qdh, qdi, qdj, qcy, qcz, qc0, qc1, qc2, qc3, qc4, qc5, qc6, qc7, qc9, qda, qdb, qdc, qni, qnh, qnj, qkc, qky, qkz, qg6, qag, qm5, nI, qds, qdq, Bool.not_true, Bool.not_false, Bool.and_true, Bool.true_and, Bool.and_false, Bool.false_and, Bool.or_true, Bool.true_or, Bool.or_false, Bool.false_or, beq_self_eq_true, dTT, dFF, dT, dF, bigI, big0, qkb, qn6, qn7, List.length_set, List.length_replicate, Int.toNat_natCast, qcu, qcv, imax, imin, if_neg h]
theorem qbc (k : Nat) (hk : 2000000 ≤ k) (a b c : Int) : go (k + 1) laws_eqId [.agg [.int .i64 a, .int .i64 b, .int .i64 c], .agg [.int .i64 a, .int .i64 b, .int .i64 c]] = some [.bool true] := by
  rw [qe3]; simp
theorem qi1 (k : Nat) (hk : 2000000 ≤ k) (fu : List (Nat × Nat)) (z z' : Bool) (l : List Cell) (hl : (l.length : Int) ≤ 1048576) : ∀ (n i : Nat), i ≤ l.length → l.length - i < n →
    lp (k + 1) laws_eqIdS [] fu 4 (n) (qlu (i : Int) z l z' l) = some [.bool true]
  | 0, i, hi, hn => by omega
  | n + 1, i, hi, hn => by
    rw [qhn]
    by_cases h : i < l.length
    · simp (disch := omega) only [qaf, nth0, nth1, nth2, nth3, bit, qcw, qcx, qc8, qdd, qde, qdf, qdg, qdh, qdi, qdj, qcy, qcz, qc0, qc1, qc2, qc3, qc4, qc5, qc6, qc7, qc9, qda, qdb, qdc, qni, qnh, qnj, qkc, qky, qkz, qg6, qag, qm5, nI, qds, qdq, Bool.not_true, Bool.not_false, Bool.and_true, Bool.true_and, Bool.and_false, Bool.false_and, Bool.or_true, Bool.true_or, Bool.or_false, Bool.false_or, beq_self_eq_true, dTT, dFF, dT, dF, bigI, big0, qkb, qn6, qn7, List.length_set, List.length_replicate, Int.toNat_natCast, qcu, qcv, imax, imin, qbc]
      exact qi1 k hk fu z z' l hl n (i + 1) (by omega) (by omega)
    · simp (disch := omega) only [qaf, nth0, nth1, nth2, nth3, bit, qcw, qcx, qc8, qdd, qde, qdf, qdg, qdh, qdi, qdj, qcy, qcz, qc0, qc1, qc2, qc3, qc4, qc5, qc6, qc7, qc9, qda, qdb, qdc, qni, qnh, qnj, qkc, qky, qkz, qg6, qag, qm5, nI, qds, qdq, Bool.not_true, Bool.not_false, Bool.and_true, Bool.true_and, Bool.and_false, Bool.false_and, Bool.or_true, Bool.true_or, Bool.or_false, Bool.false_or, beq_self_eq_true, dTT, dFF, dT, dF, bigI, big0, qkb, qn6, qn7, List.length_set, List.length_replicate, Int.toNat_natCast, qcu, qcv, imax, imin]
theorem qbd (k : Nat) (hk : 2000000 ≤ k) (z z' : Bool) (l : List Cell) (hl : (l.length : Int) ≤ 1048576) : go (k + 2) laws_eqIdS [.arr false z (.r3 l), .arr false z' (.r3 l)] = some [.bool true] := by
  rw [qe4]
  simp (disch := omega) only [qaf, nth0, nth1, nth2, nth3, bit, qcw, qcx, qc8, qdd, qde, qdf, qdg, qdh, qdi, qdj, qcy, qcz, qc0, qc1, qc2, qc3, qc4, qc5, qc6, qc7, qc9, qda, qdb, qdc, qni, qnh, qnj, qkc, qky, qkz, qg6, qag, qm5, nI, qds, qdq, Bool.not_true, Bool.not_false, Bool.and_true, Bool.true_and, Bool.and_false, Bool.false_and, Bool.or_true, Bool.true_or, Bool.or_false, Bool.false_or, beq_self_eq_true, dTT, dFF, dT, dF, bigI, big0, qkb, qn6, qn7, List.length_set, List.length_replicate, Int.toNat_natCast, qcu, qcv, imax, imin]
  exact qi1 k hk [] z z' l hl _ 0 (by omega) (by omega)
theorem qbf (k : Nat) (hk : 2000000 ≤ k) (roots : Int) (z z' : Bool) (l : List Cell) (hl : (l.length : Int) ≤ 1048576) : go (k + 3) laws_eqMesh [.agg [.int .i64 roots, .arr false z (.r3 l)], .agg [.int .i64 roots, .arr false z' (.r3 l)]] = some [.bool true] := by
  rw [qe6]
  simp (disch := omega) only [qaf, nth0, nth1, nth2, nth3, bit, qcw, qcx, qc8, qdd, qde, qdf, qdg, qdh, qdi, qdj, qcy, qcz, qc0, qc1, qc2, qc3, qc4, qc5, qc6, qc7, qc9, qda, qdb, qdc, qni, qnh, qnj, qkc, qky, qkz, qg6, qag, qm5, nI, qds, qdq, Bool.not_true, Bool.not_false, Bool.and_true, Bool.true_and, Bool.and_false, Bool.false_and, Bool.or_true, Bool.true_or, Bool.or_false, Bool.false_or, beq_self_eq_true, dTT, dFF, dT, dF, bigI, big0, qkb, qn6, qn7, List.length_set, List.length_replicate, Int.toNat_natCast, qcu, qcv, imax, imin, qbd]
theorem qi8 (k : Nat) (hk : 2000000 ≤ k) (fu : List (Nat × Nat)) (z z' : Bool) (l : List Int) (hl : (l.length : Int) ≤ 1048576) : ∀ (n i : Nat) (o : List Int), i ≤ l.length → o.length = l.length → l.length - i < n →
    lp k laws_toIntS [] fu 3 (n) (ql1 (i : Int) z l z' o) = some [.arr true z' (.ints .i64 (o.take i ++ l.drop i))]
  | 0, i, o, hi, ho, hn => by omega
  | n + 1, i, o, hi, ho, hn => by
    rw [qhu]
    by_cases h : i < l.length
    · simp (disch := omega) only [qaf, nth0, nth1, nth2, nth3, bit, qcw, qcx, qc8, qdd, qde, qdf, qdg, qdh, qdi, qdj, qcy, qcz, qc0, qc1, qc2, qc3, qc4, qc5, qc6, qc7, qc9, qda, qdb, qdc, qni, qnh, qnj, qkc, qky, qkz, qg6, qag, qm5, nI, qds, qdq, Bool.not_true, Bool.not_false, Bool.and_true, Bool.true_and, Bool.and_false, Bool.false_and, Bool.or_true, Bool.true_or, Bool.or_false, Bool.false_or, beq_self_eq_true, dTT, dFF, dT, dF, bigI, big0, qkb, qn6, qn7, List.length_set, List.length_replicate, Int.toNat_natCast, qcu, qcv, imax, imin]
      rw [qi8 k hk fu z z' l hl n (i + 1) _ (by omega) (by simp [ho]) (by omega)]
      exact congrArg (fun x => some [D.arr true z' (.ints .i64 x)]) (qmn l o i 0 h ho)
    · simp (disch := omega) only [qaf, nth0, nth1, nth2, nth3, bit, qcw, qcx, qc8, qdd, qde, qdf, qdg, qdh, qdi, qdj, qcy, qcz, qc0, qc1, qc2, qc3, qc4, qc5, qc6, qc7, qc9, qda, qdb, qdc, qni, qnh, qnj, qkc, qky, qkz, qg6, qag, qm5, nI, qds, qdq, Bool.not_true, Bool.not_false, Bool.and_true, Bool.true_and, Bool.and_false, Bool.false_and, Bool.or_true, Bool.true_or, Bool.or_false, Bool.false_or, beq_self_eq_true, dTT, dFF, dT, dF, bigI, big0, qkb, qn6, qn7, List.length_set, List.length_replicate, Int.toNat_natCast, qcu, qcv, imax, imin]
      have hil : i = l.length := by omega
      rw [hil, List.drop_length, List.append_nil, List.take_of_length_le (by omega)]
theorem qbv (k : Nat) (hk : 2000000 ≤ k) (az : Bool) (a : List Int) (hl : (a.length : Int) ≤ 1048576) : go (k + 1) laws_toIntS [(.arr false (az) (.ints .i64 (a)))] = some [.arr true false (.ints .i64 a)] := by
  rw [qfm]
  simp (disch := omega) only [qaf, nth0, nth1, nth2, nth3, bit, qcw, qcx, qc8, qdd, qde, qdf, qdg, qdh, qdi, qdj, qcy, qcz, qc0, qc1, qc2, qc3, qc4, qc5, qc6, qc7, qc9, qda, qdb, qdc, qni, qnh, qnj, qkc, qky, qkz, qg6, qag, qm5, nI, qds, qdq, Bool.not_true, Bool.not_false, Bool.and_true, Bool.true_and, Bool.and_false, Bool.false_and, Bool.or_true, Bool.true_or, Bool.or_false, Bool.false_or, beq_self_eq_true, dTT, dFF, dT, dF, bigI, big0, qkb, qn6, qn7, List.length_set, List.length_replicate, Int.toNat_natCast, qcu, qcv, imax, imin]
  refine Eq.trans (qi8 k hk [] az false a hl _ 0 (List.replicate a.length 0) (by omega) (by simp) (by omega)) ?_
  simp
theorem qbq (k : Nat) (hk : 2000000 ≤ k) (az : Bool) (a : List Int) (b : Int) (hl : (a.length : Int) ≤ 9223372036854775807) (hb : 0 ≤ b) (hb' : b ≤ 1048576) : go (k + 1) laws_szIntS [(.arr false (az) (.ints .i64 (a))), (.int .i64 (b))] = some [.int .i64 (if (a.length : Int) ≤ b then b - a.length else -1)] := by
  rw [qfh]
  by_cases h : (a.length : Int) ≤ b
  · simp (disch := omega) only [qaf, nth0, nth1, nth2, nth3, bit, qcw, qcx, qc8, qdd, qde, qdf, qdg, qdh, qdi, qdj, qcy, qcz, qc0, qc1, qc2, qc3, qc4, qc5, qc6, qc7, qc9, qda, qdb, qdc, qni, qnh, qnj, qkc, qky, qkz, qg6, qag, qm5, nI, qds, qdq, Bool.not_true, Bool.not_false, Bool.and_true, Bool.true_and, Bool.and_false, Bool.false_and, Bool.or_true, Bool.true_or, Bool.or_false, Bool.false_or, beq_self_eq_true, dTT, dFF, dT, dF, bigI, big0, qkb, qn6, qn7, List.length_set, List.length_replicate, Int.toNat_natCast, qcu, qcv, imax, imin, if_pos h]
  · simp (disch := omega) only [qaf, nth0, nth1, nth2, nth3, bit, qcw, qcx, qc8, qdd, qde, qdf, qdg, qdh, qdi, qdj, qcy, qcz, qc0, qc1, qc2, qc3, qc4, qc5, qc6, qc7, qc9, qda, qdb, qdc, qni, qnh, qnj, qkc, qky, qkz, qg6, qag, qm5, nI, qds, qdq, Bool.not_true, Bool.not_false, Bool.and_true, Bool.true_and, Bool.and_false, Bool.false_and, Bool.or_true, Bool.true_or, Bool.or_false, Bool.false_or, beq_self_eq_true, dTT, dFF, dT, dF, bigI, big0, qkb, qn6, qn7, List.length_set, List.length_replicate, Int.toNat_natCast, qcu, qcv, imax, imin, if_neg h]
theorem qi2 (k : Nat) (hk : 2000000 ≤ k) (fu : List (Nat × Nat)) (z z' : Bool) (l : List Int) (hl : (l.length : Int) ≤ 1048576) : ∀ (n i : Nat), i ≤ l.length → l.length - i < n →
    lp k laws_eqIntS [] fu 4 (n) (qlv (i : Int) z l z' l) = some [.bool true]
  | 0, i, hi, hn => by omega
  | n + 1, i, hi, hn => by
    rw [qho]
    by_cases h : i < l.length
    · simp (disch := omega) only [qaf, nth0, nth1, nth2, nth3, bit, qcw, qcx, qc8, qdd, qde, qdf, qdg, qdh, qdi, qdj, qcy, qcz, qc0, qc1, qc2, qc3, qc4, qc5, qc6, qc7, qc9, qda, qdb, qdc, qni, qnh, qnj, qkc, qky, qkz, qg6, qag, qm5, nI, qds, qdq, Bool.not_true, Bool.not_false, Bool.and_true, Bool.true_and, Bool.and_false, Bool.false_and, Bool.or_true, Bool.true_or, Bool.or_false, Bool.false_or, beq_self_eq_true, dTT, dFF, dT, dF, bigI, big0, qkb, qn6, qn7, List.length_set, List.length_replicate, Int.toNat_natCast, qcu, qcv, imax, imin]
      exact qi2 k hk fu z z' l hl n (i + 1) (by omega) (by omega)
    · simp (disch := omega) only [qaf, nth0, nth1, nth2, nth3, bit, qcw, qcx, qc8, qdd, qde, qdf, qdg, qdh, qdi, qdj, qcy, qcz, qc0, qc1, qc2, qc3, qc4, qc5, qc6, qc7, qc9, qda, qdb, qdc, qni, qnh, qnj, qkc, qky, qkz, qg6, qag, qm5, nI, qds, qdq, Bool.not_true, Bool.not_false, Bool.and_true, Bool.true_and, Bool.and_false, Bool.false_and, Bool.or_true, Bool.true_or, Bool.or_false, Bool.false_or, beq_self_eq_true, dTT, dFF, dT, dF, bigI, big0, qkb, qn6, qn7, List.length_set, List.length_replicate, Int.toNat_natCast, qcu, qcv, imax, imin]
theorem qbe (k : Nat) (hk : 2000000 ≤ k) (z z' : Bool) (l : List Int) (hl : (l.length : Int) ≤ 1048576) : go (k + 1) laws_eqIntS [.arr false z (.ints .i64 l), .arr false z' (.ints .i64 l)] = some [.bool true] := by
  rw [qe5]
  simp (disch := omega) only [qaf, nth0, nth1, nth2, nth3, bit, qcw, qcx, qc8, qdd, qde, qdf, qdg, qdh, qdi, qdj, qcy, qcz, qc0, qc1, qc2, qc3, qc4, qc5, qc6, qc7, qc9, qda, qdb, qdc, qni, qnh, qnj, qkc, qky, qkz, qg6, qag, qm5, nI, qds, qdq, Bool.not_true, Bool.not_false, Bool.and_true, Bool.true_and, Bool.and_false, Bool.false_and, Bool.or_true, Bool.true_or, Bool.or_false, Bool.false_or, beq_self_eq_true, dTT, dFF, dT, dF, bigI, big0, qkb, qn6, qn7, List.length_set, List.length_replicate, Int.toNat_natCast, qcu, qcv, imax, imin]
  exact qi2 k hk [] z z' l hl _ 0 (by omega) (by omega)
def marks (b : Int) : Nat → List Int
  | 0 => []
  | n + 1 => b :: marks (b + 1) n
theorem qjt : ∀ (n : Nat) (b : Int), (marks b n).length = n
  | 0, b => rfl
  | n + 1, b => by simp [marks, qjt n]
theorem qjs : ∀ (n i : Nat) (b : Int), i < n → (marks b n).getD i 0 = b + i
  | 0, i, b, h => by omega
  | n + 1, 0, b, h => by simp [marks]
  | n + 1, i + 1, b, h => by
    have := qjs n i (b + 1) (by omega)
    simp only [marks, List.getD_cons_succ, this]; omega
theorem qi6 (k : Nat) (hk : 2000000 ≤ k) (fu : List (Nat × Nat)) (az : Bool) (a : List Int) (z : Bool) (L : Nat) (hl : (L : Int) ≤ 1048576) : ∀ (n i : Nat) (l : List Int) (b : Int), l.length = L → i ≤ L → 0 ≤ b → b ≤ 8796093022208 + i → L - i < n →
    lp k laws_markIntS [(.arr true (az) (.ints .i64 (a)))] fu 2 (n) (qlz b (i : Int) z l) = some [.int .i64 (b + (L - i : Nat)), .arr true z (.ints .i64 (l.take i ++ marks b (L - i)))]
  | 0, i, l, b, hL, hi, h0, hb, hn => by omega
  | n + 1, i, l, b, hL, hi, h0, hb, hn => by
    rw [qhs]
    by_cases h : i < L
    · simp (disch := omega) only [qaf, nth0, nth1, nth2, nth3, bit, qcw, qcx, qc8, qdd, qde, qdf, qdg, qdh, qdi, qdj, qcy, qcz, qc0, qc1, qc2, qc3, qc4, qc5, qc6, qc7, qc9, qda, qdb, qdc, qni, qnh, qnj, qkc, qky, qkz, qg6, qag, qm5, nI, qds, qdq, Bool.not_true, Bool.not_false, Bool.and_true, Bool.true_and, Bool.and_false, Bool.false_and, Bool.or_true, Bool.true_or, Bool.or_false, Bool.false_or, beq_self_eq_true, dTT, dFF, dT, dF, bigI, big0, qkb, qn6, qn7, List.length_set, List.length_replicate, Int.toNat_natCast, qcu, qcv, imax, imin]
      rw [qi6 k hk fu az a z L hl n (i + 1) (l.set i b) (b + 1) (by simp [hL]) (by omega) (by omega) (by omega) (by omega)]
      rw [qmm l l i b _ (by omega), show L - i = (L - (i + 1)) + 1 by omega]
      simp only [marks]
      rw [show b + 1 + ((L - (i + 1) : Nat) : Int) = b + ((L - (i + 1) + 1 : Nat) : Int) by omega]
    · simp (disch := omega) only [qaf, nth0, nth1, nth2, nth3, bit, qcw, qcx, qc8, qdd, qde, qdf, qdg, qdh, qdi, qdj, qcy, qcz, qc0, qc1, qc2, qc3, qc4, qc5, qc6, qc7, qc9, qda, qdb, qdc, qni, qnh, qnj, qkc, qky, qkz, qg6, qag, qm5, nI, qds, qdq, Bool.not_true, Bool.not_false, Bool.and_true, Bool.true_and, Bool.and_false, Bool.false_and, Bool.or_true, Bool.true_or, Bool.or_false, Bool.false_or, beq_self_eq_true, dTT, dFF, dT, dF, bigI, big0, qkb, qn6, qn7, List.length_set, List.length_replicate, Int.toNat_natCast, qcu, qcv, imax, imin]
      rw [show L - i = 0 by omega]
      simp only [marks, List.append_nil]
      rw [List.take_of_length_le (by omega)]
      simp
theorem qbm (k : Nat) (hk : 2000000 ≤ k) (az : Bool) (a : List Int) (b : Int) (hl : (a.length : Int) ≤ 1048576) (h0 : 0 ≤ b) (hb : b ≤ 8796093022208) : go (k + 1) laws_markIntS [(.arr true (az) (.ints .i64 (a))), (.int .i64 (b))] = some [.int .i64 (b + a.length), .arr true az (.ints .i64 (marks b a.length))] := by
  rw [qfd]
  have e := qi6 k hk [] az a az a.length hl k 0 a b rfl (by omega) h0 (by omega) (by omega)
  simpa using e
theorem qi4 (k : Nat) (hk : 2000000 ≤ k) (fu : List (Nat × Nat)) (z : Bool) (L : Nat) (b0 : Int) (hl : (L : Int) ≤ 1048576) (h0 : 0 ≤ b0) (hb : b0 ≤ 8796093022208) : ∀ (n i : Nat), i ≤ L → L - i < n →
    lp k laws_heldIntS [] fu 2 (n) (qlx (b0 + (i : Int)) (i : Int) z (marks b0 L)) = some [.int .i64 (b0 + L)]
  | 0, i, hi, hn => by omega
  | n + 1, i, hi, hn => by
    rw [qhq]
    simp only [qjt]
    by_cases h : i < L
    · simp (disch := omega) only [qaf, nth0, nth1, nth2, nth3, bit, qcw, qcx, qc8, qdd, qde, qdf, qdg, qdh, qdi, qdj, qcy, qcz, qc0, qc1, qc2, qc3, qc4, qc5, qc6, qc7, qc9, qda, qdb, qdc, qni, qnh, qnj, qkc, qky, qkz, qg6, qag, qm5, nI, qds, qdq, Bool.not_true, Bool.not_false, Bool.and_true, Bool.true_and, Bool.and_false, Bool.false_and, Bool.or_true, Bool.true_or, Bool.or_false, Bool.false_or, beq_self_eq_true, dTT, dFF, dT, dF, bigI, big0, qkb, qn6, qn7, List.length_set, List.length_replicate, Int.toNat_natCast, qcu, qcv, imax, imin, qjs]
      have := qi4 k hk fu z L b0 hl h0 hb n (i + 1) (by omega) (by omega)
      rw [show b0 + ((i + 1 : Nat) : Int) = b0 + (i : Int) + 1 by omega] at this
      exact this
    · simp (disch := omega) only [qaf, nth0, nth1, nth2, nth3, bit, qcw, qcx, qc8, qdd, qde, qdf, qdg, qdh, qdi, qdj, qcy, qcz, qc0, qc1, qc2, qc3, qc4, qc5, qc6, qc7, qc9, qda, qdb, qdc, qni, qnh, qnj, qkc, qky, qkz, qg6, qag, qm5, nI, qds, qdq, Bool.not_true, Bool.not_false, Bool.and_true, Bool.true_and, Bool.and_false, Bool.false_and, Bool.or_true, Bool.true_or, Bool.or_false, Bool.false_or, beq_self_eq_true, dTT, dFF, dT, dF, bigI, big0, qkb, qn6, qn7, List.length_set, List.length_replicate, Int.toNat_natCast, qcu, qcv, imax, imin]
      rw [show i = L by omega]
theorem qbi (k : Nat) (hk : 2000000 ≤ k) (z : Bool) (L : Nat) (b0 : Int) (hl : (L : Int) ≤ 1048576) (h0 : 0 ≤ b0) (hb : b0 ≤ 8796093022208) : go (k + 1) laws_heldIntS [.arr false z (.ints .i64 (marks b0 L)), .int .i64 b0] = some [.int .i64 (b0 + L)] := by
  rw [qe9]
  have e := qi4 k hk [] z L b0 hl h0 hb k 0 (by omega) (by omega)
  simpa using e
end Go.Proofs.YtfgccfajhedgdaaGreat
end
section
namespace Go.Proofs.YtfgccfajhedgdaaGreat
open Go.Ev
def qmb (x0 : Int) (z1 : Bool) (l2 : List (Int × Int × Int)) (z3 : Bool) (l4 : List Int) (z5 : Bool) (l6 : List Int) (z7 : Bool) (l8 : List Int) (x9 : Int) : St := ⟨fill 84 [(1, (.ptr 4 (0) (0))), (3, (.int .i64 (x0)))], [], [(.arr false (z1) (.r3 (l2))), (.arr false (z3) (.ints .i64 (l4))), (.arr false (z5) (.ints .i64 (l6))), (.arr false (z7) (.ints .i64 (l8))), (.box true [(.int .i64 (x9)), (.sl 0 none), (.sl 1 none), (.sl 2 none), (.sl 3 none)])]⟩
def qmc (x0 : Int) (z1 : Bool) (l2 : List (Int × Int × Int)) (z3 : Bool) (l4 : List Int) (z5 : Bool) (l6 : List Int) (z7 : Bool) (l8 : List Int) (x9 : Int) : St := ⟨fill 84 [(1, (.ptr 4 (0) (0))), (4, (.int .i64 (x0)))], [], [(.arr false (z1) (.r3 (l2))), (.arr false (z3) (.ints .i64 (l4))), (.arr false (z5) (.ints .i64 (l6))), (.arr false (z7) (.ints .i64 (l8))), (.box true [(.int .i64 (x9)), (.sl 0 none), (.sl 1 none), (.sl 2 none), (.sl 3 none)])]⟩
theorem qf8 (k : Nat) (a0 : Int) (a1z : Bool) (a1 : List (Int × Int × Int)) (a2z : Bool) (a2 : List Int) (a3z : Bool) (a3 : List Int) (a4z : Bool) (a4 : List Int) : go (k + 1) spec_StateOk [(.agg [(.int .i64 (a0)), (.arr false (a1z) (.r3 (a1))), (.arr false (a2z) (.ints .i64 (a2))), (.arr false (a3z) (.ints .i64 (a3))), (.arr false (a4z) (.ints .i64 (a4)))])] =
 (go k spec_IsBalanced [(.agg [(.int .i64 (a0)), (.arr false (a1z) (.r3 (a1)))])]).bind fun r0 =>
 cond (!bit (nth r0 0))
 (some [(.bool (false))])
 (cond (!decide (nI (List.length a2) = nI (List.length a1)))
 (some [(.bool (false))])
 (cond (!decide (nI (List.length a3) = nI (List.length a2)))
 (some [(.bool (false))])
 (cond (!decide (nI (List.length a4) = a0))
 (some [(.bool (false))])
 (lp k spec_StateOk [] [] 4 k (qmb (0 : Int) a1z a1 a2z a2 a3z a3 a4z a4 a0))))) := by kernel_rfl
theorem qh4 (k n : Nat) (fu : List (Nat × Nat)) (x0 : Int) (z1 : Bool) (l2 : List (Int × Int × Int)) (z3 : Bool) (l4 : List Int) (z5 : Bool) (l6 : List Int) (z7 : Bool) (l8 : List Int) (x9 : Int) : lp k spec_StateOk [] fu 4 (n + 1) (qmb x0 z1 l2 z3 l4 z5 l6 z7 l8 x9) =
 cond (decide (x0 < nI (List.length l4)))
 (cond (decide ((0 : Int) ≤ x0) && decide (x0 < nI (List.length l4)))
 ((go k spec_l01In [(.int .i64 (List.getD l4 (Int.toNat x0) (0 : Int))), (.int .i64 (0 : Int)), (.int .i64 ((10000000 : Int)))]).bind fun r0 =>
 cond (!bit (nth r0 0))
 (some [(.bool (false))])
 (cond (decide ((0 : Int) ≤ x0) && decide (x0 < nI (List.length l6)))
 (cond (decide ((0 : Int) ≤ x0) && decide (x0 < nI (List.length l4)))
 ((go k spec_l01In [(.int .i64 (List.getD l6 (Int.toNat x0) (0 : Int))), (.int .i64 (0 : Int)), (.int .i64 (IntKind.wrap .i64 ((1000 : Int) * List.getD l4 (Int.toNat x0) (0 : Int))))]).bind fun r1 =>
 cond (!bit (nth r1 0))
 (some [(.bool (false))])
 (lp k spec_StateOk [] fu 4 n (qmb (IntKind.wrap .i64 (x0 + (1 : Int))) z1 l2 z3 l4 z5 l6 z7 l8 x9)))
 (none))
 (none)))
 (none))
 (lp k spec_StateOk [] fu 9 k (qmc (0 : Int) z1 l2 z3 l4 z5 l6 z7 l8 x9)) := by kernel_rfl
theorem qh5 (k n : Nat) (fu : List (Nat × Nat)) (x0 : Int) (z1 : Bool) (l2 : List (Int × Int × Int)) (z3 : Bool) (l4 : List Int) (z5 : Bool) (l6 : List Int) (z7 : Bool) (l8 : List Int) (x9 : Int) : lp k spec_StateOk [] fu 9 (n + 1) (qmc x0 z1 l2 z3 l4 z5 l6 z7 l8 x9) =
 cond (decide (x0 < nI (List.length l8)))
 (cond (decide ((0 : Int) ≤ x0) && decide (x0 < nI (List.length l8)))
 ((go k spec_l01In [(.int .i64 (List.getD l8 (Int.toNat x0) (0 : Int))), (.int .i64 (0 : Int)), (.int .i64 ((1000000 : Int)))]).bind fun r0 =>
 cond (!bit (nth r0 0))
 (some [(.bool (false))])
 (lp k spec_StateOk [] fu 9 n (qmc (IntKind.wrap .i64 (x0 + (1 : Int))) z1 l2 z3 l4 z5 l6 z7 l8 x9)))
 (none))
 ((go k spec_l07Sum [(.arr false (z3) (.ints .i64 (l4)))]).bind fun r1 =>
 some [(.bool (decide (D.toInt (nth r1 0) ≤ (10000000 : Int))))]) := by kernel_rfl
theorem qek (k : Nat) (a0 : Int) (a1z : Bool) (a1 : List (Int × Int × Int)) (a2z : Bool) (a2 : List Int) (a3z : Bool) (a3 : List Int) (a4z : Bool) (a4 : List Int) : go (k + 1) impl_StateOk [(.agg [(.int .i64 (a0)), (.arr false (a1z) (.r3 (a1))), (.arr false (a2z) (.ints .i64 (a2))), (.arr false (a3z) (.ints .i64 (a3))), (.arr false (a4z) (.ints .i64 (a4)))])] =
 (go k impl_IsBalanced [(.agg [(.int .i64 (a0)), (.arr false (a1z) (.r3 (a1)))])]).bind fun r0 =>
 cond (bit (nth r0 0))
 ((go k impl_State_hasCells [(.agg [(.int .i64 (a0)), (.arr false (a1z) (.r3 (a1))), (.arr false (a2z) (.ints .i64 (a2))), (.arr false (a3z) (.ints .i64 (a3))), (.arr false (a4z) (.ints .i64 (a4)))])]).bind fun r1 =>
 some [(.bool (bit (nth r1 0)))])
 (some [(.bool (false))]) := by kernel_rfl
def qlr (x0 x1 : Int) (z2 : Bool) (l3 : List (Int × Int × Int)) (z4 : Bool) (l5 : List Int) (z6 : Bool) (l7 : List Int) (z8 : Bool) (l9 : List Int) (x10 : Int) : St := ⟨fill 63 [(1, (.ptr 4 (0) (0))), (37, (.sl 1 none)), (38, (.int .i64 (x0))), (39, (.int .i64 (x1)))], [], [(.arr false (z2) (.r3 (l3))), (.arr false (z4) (.ints .i64 (l5))), (.arr false (z6) (.ints .i64 (l7))), (.arr false (z8) (.ints .i64 (l9))), (.box true [(.int .i64 (x10)), (.sl 0 none), (.sl 1 none), (.sl 2 none), (.sl 3 none)])]⟩
theorem qem (k : Nat) (a0 : Int) (a1z : Bool) (a1 : List (Int × Int × Int)) (a2z : Bool) (a2 : List Int) (a3z : Bool) (a3 : List Int) (a4z : Bool) (a4 : List Int) : go (k + 1) impl_State_hasCells [(.agg [(.int .i64 (a0)), (.arr false (a1z) (.r3 (a1))), (.arr false (a2z) (.ints .i64 (a2))), (.arr false (a3z) (.ints .i64 (a3))), (.arr false (a4z) (.ints .i64 (a4)))])] =
 cond (!decide (nI (List.length a2) = nI (List.length a1)))
 (some [(.bool (false))])
 (cond (!decide (nI (List.length a3) = nI (List.length a1)))
 (some [(.bool (false))])
 (cond (!decide (nI (List.length a4) = a0))
 (some [(.bool (false))])
 ((go k slices_ContainsFunc_int_int [(.arr false (a4z) (.ints .i64 (a4))), (.fn impl_State_hasCells_1 [])]).bind fun r0 =>
 cond (bit (nth r0 0))
 (some [(.bool (false))])
 (lp k impl_State_hasCells [] [] 5 k (qlr (nI (List.length a2)) (0 : Int) a1z a1 a2z a2 a3z a3 a4z a4 a0))))) := by kernel_rfl
theorem qhk (k n : Nat) (fu : List (Nat × Nat)) (x0 x1 : Int) (z2 : Bool) (l3 : List (Int × Int × Int)) (z4 : Bool) (l5 : List Int) (z6 : Bool) (l7 : List Int) (z8 : Bool) (l9 : List Int) (x10 : Int) : lp k impl_State_hasCells [] fu 5 (n + 1) (qlr x0 x1 z2 l3 z4 l5 z6 l7 z8 l9 x10) =
 cond (decide (x1 < x0))
 (cond (decide ((0 : Int) ≤ x1) && decide (x1 < nI (List.length l5)))
 ((go k impl_within [(.int .i64 (List.getD l5 (Int.toNat x1) (0 : Int))), (.int .i64 (0 : Int)), (.int .i64 ((10000000 : Int)))]).bind fun r0 =>
 cond (!bit (nth r0 0))
 (some [(.bool (false))])
 (cond (decide ((0 : Int) ≤ x1) && decide (x1 < nI (List.length l7)))
 ((go k impl_within [(.int .i64 (List.getD l7 (Int.toNat x1) (0 : Int))), (.int .i64 (0 : Int)), (.int .i64 (IntKind.wrap .i64 ((1000 : Int) * List.getD l5 (Int.toNat x1) (0 : Int))))]).bind fun r1 =>
 cond (!bit (nth r1 0))
 (some [(.bool (false))])
 (lp k impl_State_hasCells [] fu 5 n (qlr x0 (IntKind.wrap .i64 (x1 + (1 : Int))) z2 l3 z4 l5 z6 l7 z8 l9 x10)))
 (none)))
 (none))
 ((go k impl_sum [(.arr false (z4) (.ints .i64 (l5)))]).bind fun r2 =>
 some [(.bool (decide (D.toInt (nth r2 0) ≤ (10000000 : Int))))]) := by kernel_rfl
theorem qen (k : Nat) (a : Int) : go (k + 1) impl_State_hasCells_1 [(.int .i64 (a))] =
 (go k impl_isBed [(.int .i64 (a))]).bind fun r0 =>
 some [(.bool (!bit (nth r0 0)))] := by kernel_rfl
theorem qey (k : Nat) (a : Int) : go (k + 1) impl_isBed [(.int .i64 (a))] =
 (go k impl_within [(.int .i64 (a)), (.int .i64 (0 : Int)), (.int .i64 ((1000000 : Int)))]).bind fun r0 =>
 some [(.bool (bit (nth r0 0)))] := by kernel_rfl
def qme (x0 x1 : Int) (z2 : Bool) (l3 : List Int) : St := ⟨fill 18 [(0, (.sl 0 none)), (3, (.int .i64 (x0))), (4, (.int .i64 (x1)))], [], [(.arr false (z2) (.ints .i64 (l3)))]⟩
theorem qgi (k : Nat) (az : Bool) (a : List Int) : go (k + 1) spec_l07Sum [(.arr false (az) (.ints .i64 (a)))] =
 lp k spec_l07Sum [] [] 3 k (qme (0 : Int) (0 : Int) az a) := by kernel_rfl
theorem qh7 (k n : Nat) (fu : List (Nat × Nat)) (x0 x1 : Int) (z2 : Bool) (l3 : List Int) : lp k spec_l07Sum [] fu 3 (n + 1) (qme x0 x1 z2 l3) =
 cond (decide (x1 < nI (List.length l3)))
 (cond (decide ((0 : Int) ≤ x1) && decide (x1 < nI (List.length l3)))
 (lp k spec_l07Sum [] fu 3 n (qme (IntKind.wrap .i64 (x0 + List.getD l3 (Int.toNat x1) (0 : Int))) (IntKind.wrap .i64 (x1 + (1 : Int))) z2 l3))
 (none))
 (some [(.int .i64 (x0))]) := by kernel_rfl
def qlt (x0 x1 x2 : Int) (z3 : Bool) (l4 : List Int) : St := ⟨fill 17 [(3, (.int .i64 (x0))), (6, (.sl 0 none)), (7, (.int .i64 (x1))), (8, (.int .i64 (x2)))], [], [(.arr false (z3) (.ints .i64 (l4)))]⟩
theorem qe0 (k : Nat) (az : Bool) (a : List Int) : go (k + 1) impl_sum [(.arr false (az) (.ints .i64 (a)))] =
 lp k impl_sum [] [] 3 k (qlt (0 : Int) (nI (List.length a)) (0 : Int) az a) := by kernel_rfl
theorem qhm (k n : Nat) (fu : List (Nat × Nat)) (x0 x1 x2 : Int) (z3 : Bool) (l4 : List Int) : lp k impl_sum [] fu 3 (n + 1) (qlt x0 x1 x2 z3 l4) =
 cond (decide (x2 < x1))
 (cond (decide ((0 : Int) ≤ x2) && decide (x2 < nI (List.length l4)))
 (lp k impl_sum [] fu 3 n (qlt (IntKind.wrap .i64 (x0 + List.getD l4 (Int.toNat x2) (0 : Int))) x1 (IntKind.wrap .i64 (x2 + (1 : Int))) z3 l4))
 (none))
 (some [(.int .i64 (x0))]) := by kernel_rfl
def ql4 (x0 x1 : Int) (z2 : Bool) (l3 : List Int) : St := ⟨fill 19 [(0, (.sl 0 none)), (1, (.fn impl_State_hasCells_1 [])), (7, (.int .i64 (x0))), (8, (.int .i64 (x1)))], [], [(.arr false (z2) (.ints .i64 (l3)))]⟩
theorem qfu (k : Nat) (v0 : Bool) (v1 : List Int) : go (k + 1) slices_IndexFunc_int_int [(.arr false (v0) (.ints .i64 (v1))), (.fn impl_State_hasCells_1 [])] =
 lp k slices_IndexFunc_int_int [] [] 2 k (ql4 (nI (List.length v1)) (0 : Int) v0 v1) := by kernel_rfl
theorem qhx (k n : Nat) (fu : List (Nat × Nat)) (x0 x1 : Int) (z2 : Bool) (l3 : List Int) : lp k slices_IndexFunc_int_int [] fu 2 (n + 1) (ql4 x0 x1 z2 l3) =
 cond (decide (x1 < x0))
 (cond (decide ((0 : Int) ≤ x1) && decide (x1 < nI (List.length l3)))
 ((go k impl_State_hasCells_1 [(.int .i64 (List.getD l3 (Int.toNat x1) (0 : Int)))]).bind fun r0 =>
 cond (bit (nth r0 0))
 (some [(.int .i64 (x1))])
 (lp k slices_IndexFunc_int_int [] fu 2 n (ql4 x0 (IntKind.wrap .i64 (x1 + (1 : Int))) z2 l3)))
 (none))
 (some [(.int .i64 ((-1 : Int)))]) := by kernel_rfl
theorem qfr (k : Nat) (v0 : Bool) (v1 : List Int) : go (k + 1) slices_ContainsFunc_int_int [(.arr false (v0) (.ints .i64 (v1))), (.fn impl_State_hasCells_1 [])] =
 (go k slices_IndexFunc_int_int [(.arr false (v0) (.ints .i64 (v1))), (.fn impl_State_hasCells_1 [])]).bind fun r0 =>
 some [(.bool (decide ((0 : Int) ≤ D.toInt (nth r0 0))))] := by kernel_rfl
theorem qgc (k : Nat) (a0 : Int) (a1z : Bool) (a1 : List (Int × Int × Int)) : go (k + 1) spec_l04Copy [(.agg [(.int .i64 (a0)), (.arr false (a1z) (.r3 (a1)))])] =
 cond (decide (List.length ([] ++ a1) ≤ bigLen))
 (some [(.agg [(.int .i64 (a0)), (.arr true (false && decide (List.length ([] ++ a1) = 0)) (.r3 ([] ++ a1)))])])
 (none) := by kernel_rfl
theorem qgh (k : Nat) (a0 : Int) (a1z : Bool) (a1 : List (Int × Int × Int)) (a2z : Bool) (a2 : List Int) (a3z : Bool) (a3 : List Int) (a4z : Bool) (a4 : List Int) : go (k + 1) spec_l07Copy [(.agg [(.int .i64 (a0)), (.arr false (a1z) (.r3 (a1))), (.arr false (a2z) (.ints .i64 (a2))), (.arr false (a3z) (.ints .i64 (a3))), (.arr false (a4z) (.ints .i64 (a4)))])] =
 (go k spec_l04Copy [(.agg [(.int .i64 (a0)), (.arr false (a1z) (.r3 (a1)))])]).bind fun r0 =>
 cond (decide (List.length ([] ++ a2) ≤ bigLen))
 (cond (decide (List.length ([] ++ a3) ≤ bigLen))
 (cond (decide (List.length ([] ++ a4) ≤ bigLen))
 (some [(.agg [(.int .i64 (D.toInt (D.cell 0 (nth r0 0)))), (.arr true (D.nil (D.cell 1 (nth r0 0))) (.r3 (D.r3 (D.cell 1 (nth r0 0))))), (.arr true (false && decide (List.length ([] ++ a2) = 0)) (.ints .i64 ([] ++ a2))), (.arr true (false && decide (List.length ([] ++ a3) = 0)) (.ints .i64 ([] ++ a3))), (.arr true (false && decide (List.length ([] ++ a4) = 0)) (.ints .i64 ([] ++ a4)))])])
 (none))
 (none))
 (none) := by kernel_rfl
theorem qev (k : Nat) (a0 : Int) (a1z : Bool) (a1 : List (Int × Int × Int)) : go (k + 1) impl_copyMesh [(.agg [(.int .i64 (a0)), (.arr false (a1z) (.r3 (a1)))])] =
 (go k slices_Clone_impl_Id_impl_Id [(.arr false (a1z) (.r3 (a1)))]).bind fun r0 =>
 some [(.agg [(.int .i64 (a0)), (.arr true (D.nil (nth r0 0)) (.r3 (D.r3 (nth r0 0))))])] := by kernel_rfl
theorem qew (k : Nat) (a0 : Int) (a1z : Bool) (a1 : List (Int × Int × Int)) (a2z : Bool) (a2 : List Int) (a3z : Bool) (a3 : List Int) (a4z : Bool) (a4 : List Int) : go (k + 1) impl_copyState [(.agg [(.int .i64 (a0)), (.arr false (a1z) (.r3 (a1))), (.arr false (a2z) (.ints .i64 (a2))), (.arr false (a3z) (.ints .i64 (a3))), (.arr false (a4z) (.ints .i64 (a4)))])] =
 (go k impl_copyMesh [(.agg [(.int .i64 (a0)), (.arr false (a1z) (.r3 (a1)))])]).bind fun r0 =>
 (go k slices_Clone_int_int [(.arr false (a2z) (.ints .i64 (a2)))]).bind fun r1 =>
 (go k slices_Clone_int_int [(.arr false (a3z) (.ints .i64 (a3)))]).bind fun r2 =>
 (go k slices_Clone_int_int [(.arr false (a4z) (.ints .i64 (a4)))]).bind fun r3 =>
 some [(.agg [(.int .i64 (D.toInt (D.cell 0 (nth r0 0)))), (.arr true (D.nil (D.cell 1 (nth r0 0))) (.r3 (D.r3 (D.cell 1 (nth r0 0))))), (.arr true (D.nil (nth r1 0)) (.ints .i64 (D.ints (nth r1 0)))), (.arr true (D.nil (nth r2 0)) (.ints .i64 (D.ints (nth r2 0)))), (.arr true (D.nil (nth r3 0)) (.ints .i64 (D.ints (nth r3 0))))])] := by kernel_rfl
theorem qfq (k : Nat) (az : Bool) (a : List Int) : go (k + 1) slices_Clone_int_int [(.arr false (az) (.ints .i64 (a)))] =
 cond (az)
 (some [(.arr true (true) (.ints .i64 ([])))])
 (cond (decide (List.length ([] ++ a) ≤ bigLen))
 (some [(.arr true (false && decide (List.length ([] ++ a) = 0)) (.ints .i64 ([] ++ a)))])
 (none)) := by kernel_rfl
theorem qfp (k : Nat) (az : Bool) (a : List (Int × Int × Int)) : go (k + 1) slices_Clone_impl_Id_impl_Id [(.arr false (az) (.r3 (a)))] =
 cond (az)
 (some [(.arr true (true) (.r3 ([])))])
 (cond (decide (List.length ([] ++ a) ≤ bigLen))
 (some [(.arr true (false && decide (List.length ([] ++ a) = 0)) (.r3 ([] ++ a)))])
 (none)) := by kernel_rfl

end Go.Proofs.YtfgccfajhedgdaaGreat
end
section
namespace Go.Proofs.YtfgccfajhedgdaaGreat
open Go.Ev
theorem qdr {α : Type} (a : Bool) (x y : α) : cond (!a) x y = cond a y x := by cases a <;> rfl
theorem qdp {α : Type} (a b : Bool) (x y : α) : cond a (cond b x y) y = cond (a && b) x y := by cases a <;> rfl
abbrev qic (l : List Cell) (i : Nat) : Int := (l.getD i zz3).2.1
def qab (l : List Cell) : Prop := ∀ i, 0 ≤ qic l i ∧ qic l i ≤ 4
theorem qj7 : ∀ (l : List Cell) (r p : Int), qj1 r p l = true → ∀ i, 0 ≤ qic l i ∧ qic l i ≤ 4
  | [], r, p, h, i => by simp [qic]
  | x :: l, r, p, h, i => by
    simp only [qj1, Bool.and_eq_true] at h
    cases i with
    | zero => have := lev0 (qg4 h.1).2.2.1; simpa [qic] using this
    | succ i => have := qj7 l r _ h.2.2 i; simpa [qic] using this
def qnp (l : List Cell) : Nat → Nat → Int
  | 0, _ => -1
  | n + 1, i => if 1 < qic l i - qic l (i + 1) ∨ qic l i - qic l (i + 1) < -1 then (i : Int) else qnp l n (i + 1)
def unb (l : List Cell) : Int := qnp l (l.length - 1) 0
theorem qay (k : Nat) (hk : 2000000 ≤ k) (a : Int) (h : -9223372036854775807 ≤ a) (h' : a ≤ 9223372036854775807) : go (k + 1) impl_absolute [(.int .i64 (a))] = some [.int .i64 (max (0 - a) a)] := by
  rw [qet]; simp (disch := omega) only [qaf, nth0, nth1, nth2, nth3, bit, qcw, qcx, qc8, qdd, qde, qdf, qdg, qdh, qdi, qdj, qcy, qcz, qc0, qc1, qc2, qc3, qc4, qc5, qc6, qc7, qc9, qda, qdb, qdc, qni, qnh, qnj, qkc, qky, qkz, qg6, qag, qm5, nI, qds, qdq, Bool.not_true, Bool.not_false, Bool.and_true, Bool.true_and, Bool.and_false, Bool.false_and, Bool.or_true, Bool.true_or, Bool.or_false, Bool.false_or, beq_self_eq_true, dTT, dFF, dT, dF, bigI, big0, qkb, qn6, qn7, List.length_set, List.length_replicate, Int.toNat_natCast, qcu, qcv, imax, imin]
theorem qjm (k : Nat) (hk : 2000000 ≤ k) (fu : List (Nat × Nat)) (z : Bool) (l : List Cell) (r : Int) (hl : (l.length : Int) ≤ 1048576) (hv : qab l) : ∀ (n i : Nat), i ≤ l.length → l.length - 1 - i < n →
    lp k spec_l05First [] fu 2 (n) (qmd (i : Int) z l r) = some [.int .i64 (qnp l (l.length - 1 - i) i)]
  | 0, i, hi, hn => by omega
  | n + 1, i, hi, hn => by
    rw [qh6]
    by_cases h : i + 1 < l.length
    · have e := qjm k hk fu z l r hl hv n (i + 1) (by omega) (by omega)
      have h1 := hv i; have h2 := hv (i + 1)
      simp only [qic] at h1 h2
      simp (disch := omega) only [qaf, nth0, nth1, nth2, nth3, bit, qcw, qcx, qc8, qdd, qde, qdf, qdg, qdh, qdi, qdj, qcy, qcz, qc0, qc1, qc2, qc3, qc4, qc5, qc6, qc7, qc9, qda, qdb, qdc, qni, qnh, qnj, qkc, qky, qkz, qg6, qag, qm5, nI, qds, qdq, Bool.not_true, Bool.not_false, Bool.and_true, Bool.true_and, Bool.and_false, Bool.false_and, Bool.or_true, Bool.true_or, Bool.or_false, Bool.false_or, beq_self_eq_true, dTT, dFF, dT, dF, bigI, big0, qkb, qn6, qn7, List.length_set, List.length_replicate, Int.toNat_natCast, qcu, qcv, imax, imin, e]
      rw [show l.length - 1 - i = (l.length - 1 - (i + 1)) + 1 by omega, qnp]
      simp only [qic]
      by_cases g : 1 < (l.getD i zz3).2.1 - (l.getD (i + 1) zz3).2.1
      · simp (disch := omega) only [qaf, nth0, nth1, nth2, nth3, bit, qcw, qcx, qc8, qdd, qde, qdf, qdg, qdh, qdi, qdj, qcy, qcz, qc0, qc1, qc2, qc3, qc4, qc5, qc6, qc7, qc9, qda, qdb, qdc, qni, qnh, qnj, qkc, qky, qkz, qg6, qag, qm5, nI, qds, qdq, Bool.not_true, Bool.not_false, Bool.and_true, Bool.true_and, Bool.and_false, Bool.false_and, Bool.or_true, Bool.true_or, Bool.or_false, Bool.false_or, beq_self_eq_true, dTT, dFF, dT, dF, bigI, big0, qkb, qn6, qn7, List.length_set, List.length_replicate, Int.toNat_natCast, qcu, qcv, imax, imin]; rw [if_pos (Or.inl g)]
      · by_cases g2 : (l.getD i zz3).2.1 - (l.getD (i + 1) zz3).2.1 < -1
        · simp (disch := omega) only [qaf, nth0, nth1, nth2, nth3, bit, qcw, qcx, qc8, qdd, qde, qdf, qdg, qdh, qdi, qdj, qcy, qcz, qc0, qc1, qc2, qc3, qc4, qc5, qc6, qc7, qc9, qda, qdb, qdc, qni, qnh, qnj, qkc, qky, qkz, qg6, qag, qm5, nI, qds, qdq, Bool.not_true, Bool.not_false, Bool.and_true, Bool.true_and, Bool.and_false, Bool.false_and, Bool.or_true, Bool.true_or, Bool.or_false, Bool.false_or, beq_self_eq_true, dTT, dFF, dT, dF, bigI, big0, qkb, qn6, qn7, List.length_set, List.length_replicate, Int.toNat_natCast, qcu, qcv, imax, imin]; rw [if_pos (Or.inr g2)]
        · simp (disch := omega) only [qaf, nth0, nth1, nth2, nth3, bit, qcw, qcx, qc8, qdd, qde, qdf, qdg, qdh, qdi, qdj, qcy, qcz, qc0, qc1, qc2, qc3, qc4, qc5, qc6, qc7, qc9, qda, qdb, qdc, qni, qnh, qnj, qkc, qky, qkz, qg6, qag, qm5, nI, qds, qdq, Bool.not_true, Bool.not_false, Bool.and_true, Bool.true_and, Bool.and_false, Bool.false_and, Bool.or_true, Bool.true_or, Bool.or_false, Bool.false_or, beq_self_eq_true, dTT, dFF, dT, dF, bigI, big0, qkb, qn6, qn7, List.length_set, List.length_replicate, Int.toNat_natCast, qcu, qcv, imax, imin]; rw [if_neg (not_or.2 ⟨g, g2⟩)]
    · simp (disch := omega) only [qaf, nth0, nth1, nth2, nth3, bit, qcw, qcx, qc8, qdd, qde, qdf, qdg, qdh, qdi, qdj, qcy, qcz, qc0, qc1, qc2, qc3, qc4, qc5, qc6, qc7, qc9, qda, qdb, qdc, qni, qnh, qnj, qkc, qky, qkz, qg6, qag, qm5, nI, qds, qdq, Bool.not_true, Bool.not_false, Bool.and_true, Bool.true_and, Bool.and_false, Bool.false_and, Bool.or_true, Bool.true_or, Bool.or_false, Bool.false_or, beq_self_eq_true, dTT, dFF, dT, dF, bigI, big0, qkb, qn6, qn7, List.length_set, List.length_replicate, Int.toNat_natCast, qcu, qcv, imax, imin]
      rw [show l.length - 1 - i = 0 by omega]; rfl
theorem qcn (k : Nat) (hk : 2000000 ≤ k) (a0 : Int) (a1z : Bool) (a1 : List (Int × Int × Int)) (hl : (a1.length : Int) ≤ 1048576) (hv : qab a1) : go (k + 1) spec_l05First [(.agg [(.int .i64 (a0)), (.arr false (a1z) (.r3 (a1)))])] = some [.int .i64 (unb a1)] := by
  rw [qge]
  exact qjm k hk [] a1z a1 a0 hl hv _ 0 (by omega) (by omega)
theorem qiz (k : Nat) (hk : 2000000 ≤ k) (fu : List (Nat × Nat)) (z : Bool) (l : List Cell) (r : Int) (hl : (l.length : Int) ≤ 1048576) (hv : qab l) : ∀ (n i : Nat), i ≤ l.length → l.length - 1 - i < n →
    lp (k + 1) impl_Mesh_unbalanced [] fu 2 (n) (qlp ((l.length : Int) - 1) (i : Int) z l r) = some [.int .i64 (qnp l (l.length - 1 - i) i)]
  | 0, i, hi, hn => by omega
  | n + 1, i, hi, hn => by
    rw [qhi]
    by_cases h : i + 1 < l.length
    · have e := qiz k hk fu z l r hl hv n (i + 1) (by omega) (by omega)
      have h1 := hv i; have h2 := hv (i + 1)
      simp only [qic] at h1 h2
      simp (disch := omega) only [qaf, nth0, nth1, nth2, nth3, bit, qcw, qcx, qc8, qdd, qde, qdf, qdg, qdh, qdi, qdj, qcy, qcz, qc0, qc1, qc2, qc3, qc4, qc5, qc6, qc7, qc9, qda, qdb, qdc, qni, qnh, qnj, qkc, qky, qkz, qg6, qag, qm5, nI, qds, qdq, Bool.not_true, Bool.not_false, Bool.and_true, Bool.true_and, Bool.and_false, Bool.false_and, Bool.or_true, Bool.true_or, Bool.or_false, Bool.false_or, beq_self_eq_true, dTT, dFF, dT, dF, bigI, big0, qkb, qn6, qn7, List.length_set, List.length_replicate, Int.toNat_natCast, qcu, qcv, imax, imin, e, qay]
      rw [show l.length - 1 - i = (l.length - 1 - (i + 1)) + 1 by omega, qnp]
      simp only [qic]
      by_cases g : 1 < (l.getD i zz3).2.1 - (l.getD (i + 1) zz3).2.1
      · simp (disch := omega) only [qaf, nth0, nth1, nth2, nth3, bit, qcw, qcx, qc8, qdd, qde, qdf, qdg, qdh, qdi, qdj, qcy, qcz, qc0, qc1, qc2, qc3, qc4, qc5, qc6, qc7, qc9, qda, qdb, qdc, qni, qnh, qnj, qkc, qky, qkz, qg6, qag, qm5, nI, qds, qdq, Bool.not_true, Bool.not_false, Bool.and_true, Bool.true_and, Bool.and_false, Bool.false_and, Bool.or_true, Bool.true_or, Bool.or_false, Bool.false_or, beq_self_eq_true, dTT, dFF, dT, dF, bigI, big0, qkb, qn6, qn7, List.length_set, List.length_replicate, Int.toNat_natCast, qcu, qcv, imax, imin]; rw [if_pos (Or.inl g)]
      · by_cases g2 : (l.getD i zz3).2.1 - (l.getD (i + 1) zz3).2.1 < -1
        · simp (disch := omega) only [qaf, nth0, nth1, nth2, nth3, bit, qcw, qcx, qc8, qdd, qde, qdf, qdg, qdh, qdi, qdj, qcy, qcz, qc0, qc1, qc2, qc3, qc4, qc5, qc6, qc7, qc9, qda, qdb, qdc, qni, qnh, qnj, qkc, qky, qkz, qg6, qag, qm5, nI, qds, qdq, Bool.not_true, Bool.not_false, Bool.and_true, Bool.true_and, Bool.and_false, Bool.false_and, Bool.or_true, Bool.true_or, Bool.or_false, Bool.false_or, beq_self_eq_true, dTT, dFF, dT, dF, bigI, big0, qkb, qn6, qn7, List.length_set, List.length_replicate, Int.toNat_natCast, qcu, qcv, imax, imin]; rw [if_pos (Or.inr g2)]
        · simp (disch := omega) only [qaf, nth0, nth1, nth2, nth3, bit, qcw, qcx, qc8, qdd, qde, qdf, qdg, qdh, qdi, qdj, qcy, qcz, qc0, qc1, qc2, qc3, qc4, qc5, qc6, qc7, qc9, qda, qdb, qdc, qni, qnh, qnj, qkc, qky, qkz, qg6, qag, qm5, nI, qds, qdq, Bool.not_true, Bool.not_false, Bool.and_true, Bool.true_and, Bool.and_false, Bool.false_and, Bool.or_true, Bool.true_or, Bool.or_false, Bool.false_or, beq_self_eq_true, dTT, dFF, dT, dF, bigI, big0, qkb, qn6, qn7, List.length_set, List.length_replicate, Int.toNat_natCast, qcu, qcv, imax, imin]; rw [if_neg (not_or.2 ⟨g, g2⟩)]
    · simp (disch := omega) only [qaf, nth0, nth1, nth2, nth3, bit, qcw, qcx, qc8, qdd, qde, qdf, qdg, qdh, qdi, qdj, qcy, qcz, qc0, qc1, qc2, qc3, qc4, qc5, qc6, qc7, qc9, qda, qdb, qdc, qni, qnh, qnj, qkc, qky, qkz, qg6, qag, qm5, nI, qds, qdq, Bool.not_true, Bool.not_false, Bool.and_true, Bool.true_and, Bool.and_false, Bool.false_and, Bool.or_true, Bool.true_or, Bool.or_false, Bool.false_or, beq_self_eq_true, dTT, dFF, dT, dF, bigI, big0, qkb, qn6, qn7, List.length_set, List.length_replicate, Int.toNat_natCast, qcu, qcv, imax, imin]
      rw [show l.length - 1 - i = 0 by omega]; rfl
theorem qba (k : Nat) (hk : 2000000 ≤ k) (a0 : Int) (a1z : Bool) (a1 : List (Int × Int × Int)) (hl : (a1.length : Int) ≤ 1048576) (hv : qab a1) : go (k + 2) impl_Mesh_unbalanced [(.agg [(.int .i64 (a0)), (.arr false (a1z) (.r3 (a1)))])] = some [.int .i64 (unb a1)] := by
  rw [qed]
  simp (disch := omega) only [qaf, nth0, nth1, nth2, nth3, bit, qcw, qcx, qc8, qdd, qde, qdf, qdg, qdh, qdi, qdj, qcy, qcz, qc0, qc1, qc2, qc3, qc4, qc5, qc6, qc7, qc9, qda, qdb, qdc, qni, qnh, qnj, qkc, qky, qkz, qg6, qag, qm5, nI, qds, qdq, Bool.not_true, Bool.not_false, Bool.and_true, Bool.true_and, Bool.and_false, Bool.false_and, Bool.or_true, Bool.true_or, Bool.or_false, Bool.false_or, beq_self_eq_true, dTT, dFF, dT, dF, bigI, big0, qkb, qn6, qn7, List.length_set, List.length_replicate, Int.toNat_natCast, qcu, qcv, imax, imin]
  exact qiz k hk [] a1z a1 a0 hl hv _ 0 (by omega) (by omega)
def qad (r : Int) (l : List Cell) : Bool := qj1 r 0 l && decide (unb l < 0)
theorem qb6 (k : Nat) (hk : 2000000 ≤ k) (a0 : Int) (a1z : Bool) (a1 : List (Int × Int × Int)) (hl : (a1.length : Int) ≤ 1048576) : go (k + 6) spec_IsBalanced [(.agg [(.int .i64 (a0)), (.arr false (a1z) (.r3 (a1)))])] = some [.bool (qad a0 a1)] := by
  rw [qfz]
  simp (disch := omega) only [qaf, nth0, nth1, nth2, nth3, bit, qcw, qcx, qc8, qdd, qde, qdf, qdg, qdh, qdi, qdj, qcy, qcz, qc0, qc1, qc2, qc3, qc4, qc5, qc6, qc7, qc9, qda, qdb, qdc, qni, qnh, qnj, qkc, qky, qkz, qg6, qag, qm5, nI, qds, qdq, Bool.not_true, Bool.not_false, Bool.and_true, Bool.true_and, Bool.and_false, Bool.false_and, Bool.or_true, Bool.true_or, Bool.or_false, Bool.false_or, beq_self_eq_true, dTT, dFF, dT, dF, bigI, big0, qkb, qn6, qn7, List.length_set, List.length_replicate, Int.toNat_natCast, qcu, qcv, imax, imin, qb9]
  unfold qad
  cases h : qj1 a0 0 a1
  · rfl
  · have hv : qab a1 := qj7 _ _ _ h
    simp (disch := omega) only [qaf, nth0, nth1, nth2, nth3, bit, qcw, qcx, qc8, qdd, qde, qdf, qdg, qdh, qdi, qdj, qcy, qcz, qc0, qc1, qc2, qc3, qc4, qc5, qc6, qc7, qc9, qda, qdb, qdc, qni, qnh, qnj, qkc, qky, qkz, qg6, qag, qm5, nI, qds, qdq, Bool.not_true, Bool.not_false, Bool.and_true, Bool.true_and, Bool.and_false, Bool.false_and, Bool.or_true, Bool.true_or, Bool.or_false, Bool.false_or, beq_self_eq_true, dTT, dFF, dT, dF, bigI, big0, qkb, qn6, qn7, List.length_set, List.length_replicate, Int.toNat_natCast, qcu, qcv, imax, imin, qcn k hk]
    rw [qcn _ (by omega) _ _ _ hl hv]; simp (disch := omega) only [qaf, nth0, nth1, nth2, nth3, bit, qcw, qcx, qc8, qdd, qde, qdf, qdg, qdh, qdi, qdj, qcy, qcz, qc0, qc1, qc2, qc3, qc4, qc5, qc6, qc7, qc9, qda, qdb, qdc, qni, qnh, qnj, qkc, qky, qkz, qg6, qag, qm5, nI, qds, qdq, Bool.not_true, Bool.not_false, Bool.and_true, Bool.true_and, Bool.and_false, Bool.false_and, Bool.or_true, Bool.true_or, Bool.or_false, Bool.false_or, beq_self_eq_true, dTT, dFF, dT, dF, bigI, big0, qkb, qn6, qn7, List.length_set, List.length_replicate, Int.toNat_natCast, qcu, qcv, imax, imin]
theorem qal (k : Nat) (hk : 2000000 ≤ k) (a0 : Int) (a1z : Bool) (a1 : List (Int × Int × Int)) (hl : (a1.length : Int) ≤ 1048576) : go (k + 7) impl_IsBalanced [(.agg [(.int .i64 (a0)), (.arr false (a1z) (.r3 (a1)))])] = some [.bool (qad a0 a1)] := by
  rw [qd7]
  simp (disch := omega) only [qaf, nth0, nth1, nth2, nth3, bit, qcw, qcx, qc8, qdd, qde, qdf, qdg, qdh, qdi, qdj, qcy, qcz, qc0, qc1, qc2, qc3, qc4, qc5, qc6, qc7, qc9, qda, qdb, qdc, qni, qnh, qnj, qkc, qky, qkz, qg6, qag, qm5, nI, qds, qdq, Bool.not_true, Bool.not_false, Bool.and_true, Bool.true_and, Bool.and_false, Bool.false_and, Bool.or_true, Bool.true_or, Bool.or_false, Bool.false_or, beq_self_eq_true, dTT, dFF, dT, dF, bigI, big0, qkb, qn6, qn7, List.length_set, List.length_replicate, Int.toNat_natCast, qcu, qcv, imax, imin, qao]
  unfold qad
  cases h : qj1 a0 0 a1
  · rfl
  · have hv : qab a1 := qj7 _ _ _ h
    rw [qds, qba _ (by omega) _ _ _ hl hv]; simp (disch := omega) only [qaf, nth0, nth1, nth2, nth3, bit, qcw, qcx, qc8, qdd, qde, qdf, qdg, qdh, qdi, qdj, qcy, qcz, qc0, qc1, qc2, qc3, qc4, qc5, qc6, qc7, qc9, qda, qdb, qdc, qni, qnh, qnj, qkc, qky, qkz, qg6, qag, qm5, nI, qds, qdq, Bool.not_true, Bool.not_false, Bool.and_true, Bool.true_and, Bool.and_false, Bool.false_and, Bool.or_true, Bool.true_or, Bool.or_false, Bool.false_or, beq_self_eq_true, dTT, dFF, dT, dF, bigI, big0, qkb, qn6, qn7, List.length_set, List.length_replicate, Int.toNat_natCast, qcu, qcv, imax, imin]
def isum : List Int → Int
  | [] => 0
  | x :: l => x + isum l
theorem qhb {B : Int} : ∀ (l : List Int), (∀ x ∈ l, 0 ≤ x ∧ x ≤ B) → 0 ≤ isum l ∧ isum l ≤ B * l.length
  | [], h => by simp [isum]
  | x :: l, h => by
    have := qhb l fun y hy => h y (by simp [hy])
    have h2 := h x (by simp)
    simp only [isum, List.length_cons, Int.natCast_add, Int.natCast_one, Int.mul_add, Int.mul_one]; omega
theorem qha {B : Int} (hB : 0 ≤ B) : ∀ (l : List Int) (i : Nat), (∀ x ∈ l, 0 ≤ x ∧ x ≤ B) → 0 ≤ isum (l.drop i) ∧ isum (l.drop i) ≤ isum l
  | [], i, h => by simp [isum]
  | x :: l, 0, h => by have := qhb (x :: l) h; simp only [List.drop_zero]; omega
  | x :: l, i + 1, h => by
    have := qha hB l i fun y hy => h y (by simp [hy])
    have h2 := h x (by simp)
    simp only [isum, List.drop_succ_cons]; omega
theorem qjn (k : Nat) (hk : 2000000 ≤ k) (fu : List (Nat × Nat)) (z : Bool) (l : List Int) (hl : (l.length : Int) ≤ 1048576) (hb : ∀ x ∈ l, 0 ≤ x ∧ x ≤ 1000000000000) : ∀ (n i : Nat) (s : Int), i ≤ l.length → l.length - i < n → s + isum (l.drop i) = isum l → 0 ≤ s →
    lp k spec_l07Sum [] fu 3 (n) (qme s (i : Int) z l) = some [.int .i64 (isum l)]
  | 0, i, s, hi, hn, hs, h0 => by omega
  | n + 1, i, s, hi, hn, hs, h0 => by
    rw [qh7]
    by_cases h : i < l.length
    · rw [qd3 h 0] at hs
      simp only [isum] at hs
      have h1 := qhb l hb
      have h2 := qha (by omega) l (i + 1) hb
      have h3 := hb _ (qgy h 0)
      simp (disch := omega) only [qaf, nth0, nth1, nth2, nth3, bit, qcw, qcx, qc8, qdd, qde, qdf, qdg, qdh, qdi, qdj, qcy, qcz, qc0, qc1, qc2, qc3, qc4, qc5, qc6, qc7, qc9, qda, qdb, qdc, qni, qnh, qnj, qkc, qky, qkz, qg6, qag, qm5, nI, qds, qdq, Bool.not_true, Bool.not_false, Bool.and_true, Bool.true_and, Bool.and_false, Bool.false_and, Bool.or_true, Bool.true_or, Bool.or_false, Bool.false_or, beq_self_eq_true, dTT, dFF, dT, dF, bigI, big0, qkb, qn6, qn7, List.length_set, List.length_replicate, Int.toNat_natCast, qcu, qcv, imax, imin]
      exact qjn k hk fu z l hl hb n (i + 1) _ (by omega) (by omega) (by omega) (by omega)
    · rw [List.drop_of_length_le (by omega)] at hs
      simp only [isum] at hs
      simp (disch := omega) only [qaf, nth0, nth1, nth2, nth3, bit, qcw, qcx, qc8, qdd, qde, qdf, qdg, qdh, qdi, qdj, qcy, qcz, qc0, qc1, qc2, qc3, qc4, qc5, qc6, qc7, qc9, qda, qdb, qdc, qni, qnh, qnj, qkc, qky, qkz, qg6, qag, qm5, nI, qds, qdq, Bool.not_true, Bool.not_false, Bool.and_true, Bool.true_and, Bool.and_false, Bool.false_and, Bool.or_true, Bool.true_or, Bool.or_false, Bool.false_or, beq_self_eq_true, dTT, dFF, dT, dF, bigI, big0, qkb, qn6, qn7, List.length_set, List.length_replicate, Int.toNat_natCast, qcu, qcv, imax, imin]
      rw [show s = isum l by omega]
theorem qcr (k : Nat) (hk : 2000000 ≤ k) (az : Bool) (a : List Int) (hl : (a.length : Int) ≤ 1048576) (hb : ∀ x ∈ a, 0 ≤ x ∧ x ≤ 1000000000000) : go (k + 1) spec_l07Sum [(.arr false (az) (.ints .i64 (a)))] = some [.int .i64 (isum a)] := by
  rw [qgi]
  exact qjn k hk [] az a hl hb _ 0 0 (by omega) (by omega) (by simp) (by omega)
theorem qiy (k : Nat) (hk : 2000000 ≤ k) (fu : List (Nat × Nat)) (z : Bool) (l : List Int) (hl : (l.length : Int) ≤ 1048576) (hb : ∀ x ∈ l, 0 ≤ x ∧ x ≤ 1000000000000) : ∀ (n i : Nat) (s : Int), i ≤ l.length → l.length - i < n → s + isum (l.drop i) = isum l → 0 ≤ s →
    lp k impl_sum [] fu 3 (n) (qlt s (l.length : Int) (i : Int) z l) = some [.int .i64 (isum l)]
  | 0, i, s, hi, hn, hs, h0 => by omega
  | n + 1, i, s, hi, hn, hs, h0 => by
    rw [qhm]
    by_cases h : i < l.length
    · rw [qd3 h 0] at hs
      simp only [isum] at hs
      have h1 := qhb l hb
      have h2 := qha (by omega) l (i + 1) hb
      have h3 := hb _ (qgy h 0)
      simp (disch := omega) only [qaf, nth0, nth1, nth2, nth3, bit, qcw, qcx, qc8, qdd, qde, qdf, qdg, qdh, qdi, qdj, qcy, qcz, qc0, qc1, qc2, qc3, qc4, qc5, qc6, qc7, qc9, qda, qdb, qdc, qni, qnh, qnj, qkc, qky, qkz, qg6, qag, qm5, nI, qds, qdq, Bool.not_true, Bool.not_false, Bool.and_true, Bool.true_and, Bool.and_false, Bool.false_and, Bool.or_true, Bool.true_or, Bool.or_false, Bool.false_or, beq_self_eq_true, dTT, dFF, dT, dF, bigI, big0, qkb, qn6, qn7, List.length_set, List.length_replicate, Int.toNat_natCast, qcu, qcv, imax, imin]
      exact qiy k hk fu z l hl hb n (i + 1) _ (by omega) (by omega) (by omega) (by omega)
    · rw [List.drop_of_length_le (by omega)] at hs
      simp only [isum] at hs
      simp (disch := omega) only [qaf, nth0, nth1, nth2, nth3, bit, qcw, qcx, qc8, qdd, qde, qdf, qdg, qdh, qdi, qdj, qcy, qcz, qc0, qc1, qc2, qc3, qc4, qc5, qc6, qc7, qc9, qda, qdb, qdc, qni, qnh, qnj, qkc, qky, qkz, qg6, qag, qm5, nI, qds, qdq, Bool.not_true, Bool.not_false, Bool.and_true, Bool.true_and, Bool.and_false, Bool.false_and, Bool.or_true, Bool.true_or, Bool.or_false, Bool.false_or, beq_self_eq_true, dTT, dFF, dT, dF, bigI, big0, qkb, qn6, qn7, List.length_set, List.length_replicate, Int.toNat_natCast, qcu, qcv, imax, imin]
      rw [show s = isum l by omega]
theorem qa9 (k : Nat) (hk : 2000000 ≤ k) (az : Bool) (a : List Int) (hl : (a.length : Int) ≤ 1048576) (hb : ∀ x ∈ a, 0 ≤ x ∧ x ≤ 1000000000000) : go (k + 1) impl_sum [(.arr false (az) (.ints .i64 (a)))] = some [.int .i64 (isum a)] := by
  rw [qe0]
  exact qiy k hk [] az a hl hb _ 0 0 (by omega) (by omega) (by simp) (by omega)
def qju : List Int → List Int → Bool
  | m :: ms, t :: ts => inR m 0 10000000 && (inR t 0 (1000 * m) && qju ms ts)
  | _, _ => true
theorem qjw : ∀ (ms ts : List Int), ms.length = ts.length → qju ms ts = true → (∀ x ∈ ms, 0 ≤ x ∧ x ≤ 10000000) ∧ (∀ x ∈ ts, 0 ≤ x ∧ x ≤ 10000000000)
  | [], ts, hl, h => by cases ts <;> simp_all
  | m :: ms, [], hl, h => by simp at hl
  | m :: ms, t :: ts, hl, h => by
    simp only [qju, Bool.and_eq_true, qg5] at h
    have := qjw ms ts (by simpa using hl) h.2.2
    refine ⟨fun x hx => ?_, fun x hx => ?_⟩
    · rcases List.mem_cons.1 hx with rfl | hx
      · exact h.1
      · exact this.1 x hx
    · rcases List.mem_cons.1 hx with rfl | hx
      · omega
      · exact this.2 x hx
theorem qjv : ∀ (ms ts : List Int), ms.length = ts.length → qju ms ts = true → ∀ i, 0 ≤ ms.getD i 0 ∧ ms.getD i 0 ≤ 10000000 ∧ 0 ≤ ts.getD i 0 ∧ ts.getD i 0 ≤ 1000 * ms.getD i 0
  | [], ts, hl, h, i => by cases ts <;> simp_all
  | m :: ms, [], hl, h, i => by simp at hl
  | m :: ms, t :: ts, hl, h, i => by
    simp only [qju, Bool.and_eq_true, qg5] at h
    cases i with
    | zero => simp; omega
    | succ i => have := qjv ms ts (by simpa using hl) h.2.2 i; simpa using this
def qae : List Int → Bool
  | [] => true
  | b :: l => inR b 0 1000000 && qae l
def stOk (r : Int) (l : List Cell) (m t b : List Int) : Bool :=
  qad r l && (decide (m.length = l.length) && (decide (t.length = l.length) && (decide ((b.length : Int) = r) && (qju m t && (qae b && decide (isum m ≤ 10000000))))))
theorem qjj (k : Nat) (hk : 2000000 ≤ k) (fu : List (Nat × Nat)) (r : Int) (z1 z2 z3 z4 : Bool) (l : List Cell) (m t b : List Int) (hm : (m.length : Int) ≤ 1048576) (hb : (b.length : Int) ≤ 1048576) (hx : ∀ x ∈ m, 0 ≤ x ∧ x ≤ 10000000) : ∀ (n i : Nat), i ≤ b.length → b.length - i < n →
    lp (k + 6) spec_StateOk [] fu 9 (n) (qmc (i : Int) z1 l z2 m z3 t z4 b r) = some [.bool (qae (b.drop i) && decide (isum m ≤ 10000000))]
  | 0, i, hi, hn => by omega
  | n + 1, i, hi, hn => by
    rw [qh5]
    by_cases h : i < b.length
    · rw [qd3 h 0]
      have e := qjj k hk fu r z1 z2 z3 z4 l m t b hm hb hx n (i + 1) (by omega) (by omega)
      simp (disch := omega) only [qaf, nth0, nth1, nth2, nth3, bit, qcw, qcx, qc8, qdd, qde, qdf, qdg, qdh, qdi, qdj, qcy, qcz, qc0, qc1, qc2, qc3, qc4, qc5, qc6, qc7, qc9, qda, qdb, qdc, qni, qnh, qnj, qkc, qky, qkz, qg6, qag, qm5, nI, qds, qdq, Bool.not_true, Bool.not_false, Bool.and_true, Bool.true_and, Bool.and_false, Bool.false_and, Bool.or_true, Bool.true_or, Bool.or_false, Bool.false_or, beq_self_eq_true, dTT, dFF, dT, dF, bigI, big0, qkb, qn6, qn7, List.length_set, List.length_replicate, Int.toNat_natCast, qcu, qcv, imax, imin, qck, qae, e, qdt, Bool.and_assoc]
    · rw [List.drop_of_length_le (by omega)]
      have hx' : ∀ x ∈ m, 0 ≤ x ∧ x ≤ 1000000000000 := fun x hh => by have := hx x hh; omega
      rw [show decide ((i : Int) < nI b.length) = false by apply dF; simp only [nI]; omega, qdq, qcr _ (by omega) _ _ hm hx']
      simp (disch := omega) only [qaf, nth0, nth1, nth2, nth3, bit, qcw, qcx, qc8, qdd, qde, qdf, qdg, qdh, qdi, qdj, qcy, qcz, qc0, qc1, qc2, qc3, qc4, qc5, qc6, qc7, qc9, qda, qdb, qdc, qni, qnh, qnj, qkc, qky, qkz, qg6, qag, qm5, nI, qds, qdq, Bool.not_true, Bool.not_false, Bool.and_true, Bool.true_and, Bool.and_false, Bool.false_and, Bool.or_true, Bool.true_or, Bool.or_false, Bool.false_or, beq_self_eq_true, dTT, dFF, dT, dF, bigI, big0, qkb, qn6, qn7, List.length_set, List.length_replicate, Int.toNat_natCast, qcu, qcv, imax, imin, qae]
theorem qji (k : Nat) (hk : 2000000 ≤ k) (fu : List (Nat × Nat)) (r : Int) (z1 z2 z3 z4 : Bool) (l : List Cell) (m t b : List Int) (hm : (m.length : Int) ≤ 1048576) (ht : t.length = m.length) : ∀ (n i : Nat), i ≤ m.length → m.length - i < n →
    lp (k + 6) spec_StateOk [] fu 4 (n) (qmb (i : Int) z1 l z2 m z3 t z4 b r) = cond (qju (m.drop i) (t.drop i)) (lp (k + 6) spec_StateOk [] fu 9 (k + 6) (qmc 0 z1 l z2 m z3 t z4 b r)) (some [.bool false])
  | 0, i, hi, hn => by omega
  | n + 1, i, hi, hn => by
    rw [qh4]
    by_cases h : i < m.length
    · rw [qd3 h 0, qd3 (l := t) (by omega : i < t.length) 0]
      have e := qji k hk fu r z1 z2 z3 z4 l m t b hm ht n (i + 1) (by omega) (by omega)
      by_cases h1 : inR (m.getD i 0) 0 10000000 = true
      · have h2 := qg5.1 h1
        simp (disch := omega) only [qaf, nth0, nth1, nth2, nth3, bit, qcw, qcx, qc8, qdd, qde, qdf, qdg, qdh, qdi, qdj, qcy, qcz, qc0, qc1, qc2, qc3, qc4, qc5, qc6, qc7, qc9, qda, qdb, qdc, qni, qnh, qnj, qkc, qky, qkz, qg6, qag, qm5, nI, qds, qdq, Bool.not_true, Bool.not_false, Bool.and_true, Bool.true_and, Bool.and_false, Bool.false_and, Bool.or_true, Bool.true_or, Bool.or_false, Bool.false_or, beq_self_eq_true, dTT, dFF, dT, dF, bigI, big0, qkb, qn6, qn7, List.length_set, List.length_replicate, Int.toNat_natCast, qcu, qcv, imax, imin, qck, qju, e, h1, qdr, qdp]
      · have h1 : inR (m.getD i 0) 0 10000000 = false := by simpa using h1
        simp (disch := omega) only [qaf, nth0, nth1, nth2, nth3, bit, qcw, qcx, qc8, qdd, qde, qdf, qdg, qdh, qdi, qdj, qcy, qcz, qc0, qc1, qc2, qc3, qc4, qc5, qc6, qc7, qc9, qda, qdb, qdc, qni, qnh, qnj, qkc, qky, qkz, qg6, qag, qm5, nI, qds, qdq, Bool.not_true, Bool.not_false, Bool.and_true, Bool.true_and, Bool.and_false, Bool.false_and, Bool.or_true, Bool.true_or, Bool.or_false, Bool.false_or, beq_self_eq_true, dTT, dFF, dT, dF, bigI, big0, qkb, qn6, qn7, List.length_set, List.length_replicate, Int.toNat_natCast, qcu, qcv, imax, imin, qck, qju, h1]
    · rw [List.drop_of_length_le (by omega), List.drop_of_length_le (by omega)]
      simp (disch := omega) only [qaf, nth0, nth1, nth2, nth3, bit, qcw, qcx, qc8, qdd, qde, qdf, qdg, qdh, qdi, qdj, qcy, qcz, qc0, qc1, qc2, qc3, qc4, qc5, qc6, qc7, qc9, qda, qdb, qdc, qni, qnh, qnj, qkc, qky, qkz, qg6, qag, qm5, nI, qds, qdq, Bool.not_true, Bool.not_false, Bool.and_true, Bool.true_and, Bool.and_false, Bool.false_and, Bool.or_true, Bool.true_or, Bool.or_false, Bool.false_or, beq_self_eq_true, dTT, dFF, dT, dF, bigI, big0, qkb, qn6, qn7, List.length_set, List.length_replicate, Int.toNat_natCast, qcu, qcv, imax, imin, qju]
theorem qcf (k : Nat) (hk : 2000000 ≤ k) (a0 : Int) (a1z : Bool) (a1 : List (Int × Int × Int)) (a2z : Bool) (a2 : List Int) (a3z : Bool) (a3 : List Int) (a4z : Bool) (a4 : List Int) (hl : (a1.length : Int) ≤ 1048576) (hb : (a4.length : Int) ≤ 1048576) : go (k + 7) spec_StateOk [(.agg [(.int .i64 (a0)), (.arr false (a1z) (.r3 (a1))), (.arr false (a2z) (.ints .i64 (a2))), (.arr false (a3z) (.ints .i64 (a3))), (.arr false (a4z) (.ints .i64 (a4)))])] = some [.bool (stOk a0 a1 a2 a3 a4)] := by
  rw [qf8]
  simp (disch := omega) only [qaf, nth0, nth1, nth2, nth3, bit, qcw, qcx, qc8, qdd, qde, qdf, qdg, qdh, qdi, qdj, qcy, qcz, qc0, qc1, qc2, qc3, qc4, qc5, qc6, qc7, qc9, qda, qdb, qdc, qni, qnh, qnj, qkc, qky, qkz, qg6, qag, qm5, nI, qds, qdq, Bool.not_true, Bool.not_false, Bool.and_true, Bool.true_and, Bool.and_false, Bool.false_and, Bool.or_true, Bool.true_or, Bool.or_false, Bool.false_or, beq_self_eq_true, dTT, dFF, dT, dF, bigI, big0, qkb, qn6, qn7, List.length_set, List.length_replicate, Int.toNat_natCast, qcu, qcv, imax, imin, qb6]
  unfold stOk
  cases qad a0 a1
  · rfl
  by_cases h1 : a2.length = a1.length
  case neg => simp (disch := omega) only [qaf, nth0, nth1, nth2, nth3, bit, qcw, qcx, qc8, qdd, qde, qdf, qdg, qdh, qdi, qdj, qcy, qcz, qc0, qc1, qc2, qc3, qc4, qc5, qc6, qc7, qc9, qda, qdb, qdc, qni, qnh, qnj, qkc, qky, qkz, qg6, qag, qm5, nI, qds, qdq, Bool.not_true, Bool.not_false, Bool.and_true, Bool.true_and, Bool.and_false, Bool.false_and, Bool.or_true, Bool.true_or, Bool.or_false, Bool.false_or, beq_self_eq_true, dTT, dFF, dT, dF, bigI, big0, qkb, qn6, qn7, List.length_set, List.length_replicate, Int.toNat_natCast, qcu, qcv, imax, imin]
  by_cases h2 : a3.length = a1.length
  case neg => simp (disch := omega) only [qaf, nth0, nth1, nth2, nth3, bit, qcw, qcx, qc8, qdd, qde, qdf, qdg, qdh, qdi, qdj, qcy, qcz, qc0, qc1, qc2, qc3, qc4, qc5, qc6, qc7, qc9, qda, qdb, qdc, qni, qnh, qnj, qkc, qky, qkz, qg6, qag, qm5, nI, qds, qdq, Bool.not_true, Bool.not_false, Bool.and_true, Bool.true_and, Bool.and_false, Bool.false_and, Bool.or_true, Bool.true_or, Bool.or_false, Bool.false_or, beq_self_eq_true, dTT, dFF, dT, dF, bigI, big0, qkb, qn6, qn7, List.length_set, List.length_replicate, Int.toNat_natCast, qcu, qcv, imax, imin]
  by_cases h3 : (a4.length : Int) = a0
  case neg => simp (disch := omega) only [qaf, nth0, nth1, nth2, nth3, bit, qcw, qcx, qc8, qdd, qde, qdf, qdg, qdh, qdi, qdj, qcy, qcz, qc0, qc1, qc2, qc3, qc4, qc5, qc6, qc7, qc9, qda, qdb, qdc, qni, qnh, qnj, qkc, qky, qkz, qg6, qag, qm5, nI, qds, qdq, Bool.not_true, Bool.not_false, Bool.and_true, Bool.true_and, Bool.and_false, Bool.false_and, Bool.or_true, Bool.true_or, Bool.or_false, Bool.false_or, beq_self_eq_true, dTT, dFF, dT, dF, bigI, big0, qkb, qn6, qn7, List.length_set, List.length_replicate, Int.toNat_natCast, qcu, qcv, imax, imin]
  simp (disch := omega) only [qaf, nth0, nth1, nth2, nth3, bit, qcw, qcx, qc8, qdd, qde, qdf, qdg, qdh, qdi, qdj, qcy, qcz, qc0, qc1, qc2, qc3, qc4, qc5, qc6, qc7, qc9, qda, qdb, qdc, qni, qnh, qnj, qkc, qky, qkz, qg6, qag, qm5, nI, qds, qdq, Bool.not_true, Bool.not_false, Bool.and_true, Bool.true_and, Bool.and_false, Bool.false_and, Bool.or_true, Bool.true_or, Bool.or_false, Bool.false_or, beq_self_eq_true, dTT, dFF, dT, dF, bigI, big0, qkb, qn6, qn7, List.length_set, List.length_replicate, Int.toNat_natCast, qcu, qcv, imax, imin]
  refine Eq.trans (qji k hk [] a0 a1z a2z a3z a4z a1 a2 a3 a4 (by omega) (by omega) _ 0 (by omega) (by omega)) ?_
  simp only [List.drop_zero]
  cases h4 : qju a2 a3
  · rfl
  · have hx := (qjw a2 a3 (by omega) h4).1
    have e := qjj k hk [] a0 a1z a2z a3z a4z a1 a2 a3 a4 (by omega) hb hx (k + 6) 0 (by omega) (by omega)
    simp only [List.drop_zero] at e
    simp only [qds, Bool.true_and, dT (h1), dT (h2), dT (h3), decide_true]
    exact e
theorem qa5 (k : Nat) (hk : 2000000 ≤ k) (a : Int) : go (k + 2) impl_isBed [(.int .i64 (a))] = some [.bool (inR a 0 1000000)] := by
  rw [qey]; simp (disch := omega) only [qaf, nth0, nth1, nth2, nth3, bit, qcw, qcx, qc8, qdd, qde, qdf, qdg, qdh, qdi, qdj, qcy, qcz, qc0, qc1, qc2, qc3, qc4, qc5, qc6, qc7, qc9, qda, qdb, qdc, qni, qnh, qnj, qkc, qky, qkz, qg6, qag, qm5, nI, qds, qdq, Bool.not_true, Bool.not_false, Bool.and_true, Bool.true_and, Bool.and_false, Bool.false_and, Bool.or_true, Bool.true_or, Bool.or_false, Bool.false_or, beq_self_eq_true, dTT, dFF, dT, dF, bigI, big0, qkb, qn6, qn7, List.length_set, List.length_replicate, Int.toNat_natCast, qcu, qcv, imax, imin, qbb]
theorem qa4 (k : Nat) (hk : 2000000 ≤ k) (a : Int) : go (k + 3) impl_State_hasCells_1 [(.int .i64 (a))] = some [.bool (!inR a 0 1000000)] := by
  rw [qen]; simp (disch := omega) only [qaf, nth0, nth1, nth2, nth3, bit, qcw, qcx, qc8, qdd, qde, qdf, qdg, qdh, qdi, qdj, qcy, qcz, qc0, qc1, qc2, qc3, qc4, qc5, qc6, qc7, qc9, qda, qdb, qdc, qni, qnh, qnj, qkc, qky, qkz, qg6, qag, qm5, nI, qds, qdq, Bool.not_true, Bool.not_false, Bool.and_true, Bool.true_and, Bool.and_false, Bool.false_and, Bool.or_true, Bool.true_or, Bool.or_false, Bool.false_or, beq_self_eq_true, dTT, dFF, dT, dF, bigI, big0, qkb, qn6, qn7, List.length_set, List.length_replicate, Int.toNat_natCast, qcu, qcv, imax, imin, qa5]
theorem qi0 (k : Nat) (hk : 2000000 ≤ k) (fu : List (Nat × Nat)) (z : Bool) (l : List Int) (hl : (l.length : Int) ≤ 1048576) : ∀ (n i : Nat), i ≤ l.length → l.length - i < n →
    ∃ j : Int, lp (k + 3) slices_IndexFunc_int_int [] fu 2 (n) (ql4 (l.length : Int) (i : Int) z l) = some [.int .i64 j] ∧ decide (0 ≤ j) = !qae (l.drop i)
  | 0, i, hi, hn => by omega
  | n + 1, i, hi, hn => by
    rw [qhx]
    by_cases h : i < l.length
    · rw [qd3 h 0]
      obtain ⟨j, e1, e2⟩ := qi0 k hk fu z l hl n (i + 1) (by omega) (by omega)
      simp (disch := omega) only [qaf, nth0, nth1, nth2, nth3, bit, qcw, qcx, qc8, qdd, qde, qdf, qdg, qdh, qdi, qdj, qcy, qcz, qc0, qc1, qc2, qc3, qc4, qc5, qc6, qc7, qc9, qda, qdb, qdc, qni, qnh, qnj, qkc, qky, qkz, qg6, qag, qm5, nI, qds, qdq, Bool.not_true, Bool.not_false, Bool.and_true, Bool.true_and, Bool.and_false, Bool.false_and, Bool.or_true, Bool.true_or, Bool.or_false, Bool.false_or, beq_self_eq_true, dTT, dFF, dT, dF, bigI, big0, qkb, qn6, qn7, List.length_set, List.length_replicate, Int.toNat_natCast, qcu, qcv, imax, imin, qa4, qae, e1]
      cases inR (l.getD i 0) 0 1000000
      · exact ⟨i, rfl, by rw [dT (by omega)]; rfl⟩
      · exact ⟨j, rfl, by rw [e2]; rfl⟩
    · rw [List.drop_of_length_le (by omega)]
      simp (disch := omega) only [qaf, nth0, nth1, nth2, nth3, bit, qcw, qcx, qc8, qdd, qde, qdf, qdg, qdh, qdi, qdj, qcy, qcz, qc0, qc1, qc2, qc3, qc4, qc5, qc6, qc7, qc9, qda, qdb, qdc, qni, qnh, qnj, qkc, qky, qkz, qg6, qag, qm5, nI, qds, qdq, Bool.not_true, Bool.not_false, Bool.and_true, Bool.true_and, Bool.and_false, Bool.false_and, Bool.or_true, Bool.true_or, Bool.or_false, Bool.false_or, beq_self_eq_true, dTT, dFF, dT, dF, bigI, big0, qkb, qn6, qn7, List.length_set, List.length_replicate, Int.toNat_natCast, qcu, qcv, imax, imin, qae]
      exact ⟨-1, rfl, rfl⟩
theorem qai (k : Nat) (hk : 2000000 ≤ k) (z : Bool) (l : List Int) (hl : (l.length : Int) ≤ 1048576) : go (k + 5) slices_ContainsFunc_int_int [.arr false z (.ints .i64 l), .fn impl_State_hasCells_1 []] = some [.bool (!qae l)] := by
  rw [qfr, qfu]
  obtain ⟨j, e1, e2⟩ := qi0 k hk [] z l hl (k + 3) 0 (by omega) (by omega)
  have e1' := e1
  simp only [nI] at *
  rw [show ((0 : Nat) : Int) = 0 from rfl] at e1'
  rw [e1']
  simp (disch := omega) only [qaf, nth0, nth1, nth2, nth3, bit, qcw, qcx, qc8, qdd, qde, qdf, qdg, qdh, qdi, qdj, qcy, qcz, qc0, qc1, qc2, qc3, qc4, qc5, qc6, qc7, qc9, qda, qdb, qdc, qni, qnh, qnj, qkc, qky, qkz, qg6, qag, qm5, nI, qds, qdq, Bool.not_true, Bool.not_false, Bool.and_true, Bool.true_and, Bool.and_false, Bool.false_and, Bool.or_true, Bool.true_or, Bool.or_false, Bool.false_or, beq_self_eq_true, dTT, dFF, dT, dF, bigI, big0, qkb, qn6, qn7, List.length_set, List.length_replicate, Int.toNat_natCast, qcu, qcv, imax, imin]
  rw [show decide ((0 : Int) ≤ j) = !qae l from e2]
theorem qis (k : Nat) (hk : 2000000 ≤ k) (fu : List (Nat × Nat)) (r : Int) (z1 z2 z3 z4 : Bool) (l : List Cell) (m t b : List Int) (hm : (m.length : Int) ≤ 1048576) (ht : t.length = m.length) (s : List D)
    (hs : qju m t = true → go (k + 5) impl_sum [.arr false z2 (.ints .i64 m)] = some [.int .i64 (isum m)]) (P : Bool) : ∀ (n i : Nat), i ≤ m.length → m.length - i < n → (qju (m.drop i) (t.drop i) = true → qju m t = true) →
    lp (k + 5) impl_State_hasCells [] fu 5 (n) (qlr (m.length : Int) (i : Int) z1 l z2 m z3 t z4 b r) = some [.bool (qju (m.drop i) (t.drop i) && decide (isum m ≤ 10000000))]
  | 0, i, hi, hn, hq => by omega
  | n + 1, i, hi, hn, hq => by
    rw [qhk]
    by_cases h : i < m.length
    · rw [qd3 h 0, qd3 (l := t) (by omega : i < t.length) 0] at hq ⊢
      by_cases h1 : inR (m.getD i 0) 0 10000000 = true
      · have h2 := qg5.1 h1
        by_cases h3 : inR (t.getD i 0) 0 (1000 * m.getD i 0) = true
        · have e := qis k hk fu r z1 z2 z3 z4 l m t b hm ht s hs P n (i + 1) (by omega) (by omega) (fun hh => hq (by simp only [qju, h1, h3, hh, Bool.and_self]))
          simp (disch := omega) only [qaf, nth0, nth1, nth2, nth3, bit, qcw, qcx, qc8, qdd, qde, qdf, qdg, qdh, qdi, qdj, qcy, qcz, qc0, qc1, qc2, qc3, qc4, qc5, qc6, qc7, qc9, qda, qdb, qdc, qni, qnh, qnj, qkc, qky, qkz, qg6, qag, qm5, nI, qds, qdq, Bool.not_true, Bool.not_false, Bool.and_true, Bool.true_and, Bool.and_false, Bool.false_and, Bool.or_true, Bool.true_or, Bool.or_false, Bool.false_or, beq_self_eq_true, dTT, dFF, dT, dF, bigI, big0, qkb, qn6, qn7, List.length_set, List.length_replicate, Int.toNat_natCast, qcu, qcv, imax, imin, qbb, qju, e, h1, h3]
        · have h3 : inR (t.getD i 0) 0 (1000 * m.getD i 0) = false := by simpa using h3
          simp (disch := omega) only [qaf, nth0, nth1, nth2, nth3, bit, qcw, qcx, qc8, qdd, qde, qdf, qdg, qdh, qdi, qdj, qcy, qcz, qc0, qc1, qc2, qc3, qc4, qc5, qc6, qc7, qc9, qda, qdb, qdc, qni, qnh, qnj, qkc, qky, qkz, qg6, qag, qm5, nI, qds, qdq, Bool.not_true, Bool.not_false, Bool.and_true, Bool.true_and, Bool.and_false, Bool.false_and, Bool.or_true, Bool.true_or, Bool.or_false, Bool.false_or, beq_self_eq_true, dTT, dFF, dT, dF, bigI, big0, qkb, qn6, qn7, List.length_set, List.length_replicate, Int.toNat_natCast, qcu, qcv, imax, imin, qbb, qju, h1, h3]
      · have h1 : inR (m.getD i 0) 0 10000000 = false := by simpa using h1
        simp (disch := omega) only [qaf, nth0, nth1, nth2, nth3, bit, qcw, qcx, qc8, qdd, qde, qdf, qdg, qdh, qdi, qdj, qcy, qcz, qc0, qc1, qc2, qc3, qc4, qc5, qc6, qc7, qc9, qda, qdb, qdc, qni, qnh, qnj, qkc, qky, qkz, qg6, qag, qm5, nI, qds, qdq, Bool.not_true, Bool.not_false, Bool.and_true, Bool.true_and, Bool.and_false, Bool.false_and, Bool.or_true, Bool.true_or, Bool.or_false, Bool.false_or, beq_self_eq_true, dTT, dFF, dT, dF, bigI, big0, qkb, qn6, qn7, List.length_set, List.length_replicate, Int.toNat_natCast, qcu, qcv, imax, imin, qbb, qju, h1]
    · rw [List.drop_of_length_le (by omega), List.drop_of_length_le (by omega)] at hq ⊢
      have e := hs (hq rfl)
      simp (disch := omega) only [qaf, nth0, nth1, nth2, nth3, bit, qcw, qcx, qc8, qdd, qde, qdf, qdg, qdh, qdi, qdj, qcy, qcz, qc0, qc1, qc2, qc3, qc4, qc5, qc6, qc7, qc9, qda, qdb, qdc, qni, qnh, qnj, qkc, qky, qkz, qg6, qag, qm5, nI, qds, qdq, Bool.not_true, Bool.not_false, Bool.and_true, Bool.true_and, Bool.and_false, Bool.false_and, Bool.or_true, Bool.true_or, Bool.or_false, Bool.false_or, beq_self_eq_true, dTT, dFF, dT, dF, bigI, big0, qkb, qn6, qn7, List.length_set, List.length_replicate, Int.toNat_natCast, qcu, qcv, imax, imin, qju, e]
theorem qa3 (k : Nat) (hk : 2000000 ≤ k) (a0 : Int) (a1z : Bool) (a1 : List (Int × Int × Int)) (a2z : Bool) (a2 : List Int) (a3z : Bool) (a3 : List Int) (a4z : Bool) (a4 : List Int) (hl : (a1.length : Int) ≤ 1048576) (hb : (a4.length : Int) ≤ 1048576) : go (k + 6) impl_State_hasCells [(.agg [(.int .i64 (a0)), (.arr false (a1z) (.r3 (a1))), (.arr false (a2z) (.ints .i64 (a2))), (.arr false (a3z) (.ints .i64 (a3))), (.arr false (a4z) (.ints .i64 (a4)))])] = some [.bool (decide (a2.length = a1.length) && (decide (a3.length = a1.length) && (decide ((a4.length : Int) = a0) && (qju a2 a3 && (qae a4 && decide (isum a2 ≤ 10000000))))))] := by
  rw [qem]
  by_cases h1 : a2.length = a1.length
  case neg => simp (disch := omega) only [qaf, nth0, nth1, nth2, nth3, bit, qcw, qcx, qc8, qdd, qde, qdf, qdg, qdh, qdi, qdj, qcy, qcz, qc0, qc1, qc2, qc3, qc4, qc5, qc6, qc7, qc9, qda, qdb, qdc, qni, qnh, qnj, qkc, qky, qkz, qg6, qag, qm5, nI, qds, qdq, Bool.not_true, Bool.not_false, Bool.and_true, Bool.true_and, Bool.and_false, Bool.false_and, Bool.or_true, Bool.true_or, Bool.or_false, Bool.false_or, beq_self_eq_true, dTT, dFF, dT, dF, bigI, big0, qkb, qn6, qn7, List.length_set, List.length_replicate, Int.toNat_natCast, qcu, qcv, imax, imin]
  by_cases h2 : a3.length = a1.length
  case neg => simp (disch := omega) only [qaf, nth0, nth1, nth2, nth3, bit, qcw, qcx, qc8, qdd, qde, qdf, qdg, qdh, qdi, qdj, qcy, qcz, qc0, qc1, qc2, qc3, qc4, qc5, qc6, qc7, qc9, qda, qdb, qdc, qni, qnh, qnj, qkc, qky, qkz, qg6, qag, qm5, nI, qds, qdq, Bool.not_true, Bool.not_false, Bool.and_true, Bool.true_and, Bool.and_false, Bool.false_and, Bool.or_true, Bool.true_or, Bool.or_false, Bool.false_or, beq_self_eq_true, dTT, dFF, dT, dF, bigI, big0, qkb, qn6, qn7, List.length_set, List.length_replicate, Int.toNat_natCast, qcu, qcv, imax, imin]
  by_cases h3 : (a4.length : Int) = a0
  case neg => simp (disch := omega) only [qaf, nth0, nth1, nth2, nth3, bit, qcw, qcx, qc8, qdd, qde, qdf, qdg, qdh, qdi, qdj, qcy, qcz, qc0, qc1, qc2, qc3, qc4, qc5, qc6, qc7, qc9, qda, qdb, qdc, qni, qnh, qnj, qkc, qky, qkz, qg6, qag, qm5, nI, qds, qdq, Bool.not_true, Bool.not_false, Bool.and_true, Bool.true_and, Bool.and_false, Bool.false_and, Bool.or_true, Bool.true_or, Bool.or_false, Bool.false_or, beq_self_eq_true, dTT, dFF, dT, dF, bigI, big0, qkb, qn6, qn7, List.length_set, List.length_replicate, Int.toNat_natCast, qcu, qcv, imax, imin]
  simp (disch := omega) only [qaf, nth0, nth1, nth2, nth3, bit, qcw, qcx, qc8, qdd, qde, qdf, qdg, qdh, qdi, qdj, qcy, qcz, qc0, qc1, qc2, qc3, qc4, qc5, qc6, qc7, qc9, qda, qdb, qdc, qni, qnh, qnj, qkc, qky, qkz, qg6, qag, qm5, nI, qds, qdq, Bool.not_true, Bool.not_false, Bool.and_true, Bool.true_and, Bool.and_false, Bool.false_and, Bool.or_true, Bool.true_or, Bool.or_false, Bool.false_or, beq_self_eq_true, dTT, dFF, dT, dF, bigI, big0, qkb, qn6, qn7, List.length_set, List.length_replicate, Int.toNat_natCast, qcu, qcv, imax, imin, qai]
  cases h5 : qae a4
  · cases qju a2 a3 <;> rfl
  have e := qis k hk [] a0 a1z a2z a3z a4z a1 a2 a3 a4 (by omega) (by omega) [] (fun hm => by
    have hx := (qjw a2 a3 (by omega) hm).1
    exact qa9 _ (by omega) _ _ (by omega) (fun x hh => by have := hx x hh; omega)) true (k + 5) 0 (by omega) (by omega) (fun h => h)
  simp only [List.drop_zero] at e
  simp only [Bool.not_true, qdq, Bool.true_and]
  exact e
theorem qav (k : Nat) (hk : 2000000 ≤ k) (a0 : Int) (a1z : Bool) (a1 : List (Int × Int × Int)) (a2z : Bool) (a2 : List Int) (a3z : Bool) (a3 : List Int) (a4z : Bool) (a4 : List Int) (hl : (a1.length : Int) ≤ 1048576) (hb : (a4.length : Int) ≤ 1048576) : go (k + 8) impl_StateOk [(.agg [(.int .i64 (a0)), (.arr false (a1z) (.r3 (a1))), (.arr false (a2z) (.ints .i64 (a2))), (.arr false (a3z) (.ints .i64 (a3))), (.arr false (a4z) (.ints .i64 (a4)))])] = some [.bool (stOk a0 a1 a2 a3 a4)] := by
  rw [qek]
  simp (disch := omega) only [qaf, nth0, nth1, nth2, nth3, bit, qcw, qcx, qc8, qdd, qde, qdf, qdg, qdh, qdi, qdj, qcy, qcz, qc0, qc1, qc2, qc3, qc4, qc5, qc6, qc7, qc9, qda, qdb, qdc, qni, qnh, qnj, qkc, qky, qkz, qg6, qag, qm5, nI, qds, qdq, Bool.not_true, Bool.not_false, Bool.and_true, Bool.true_and, Bool.and_false, Bool.false_and, Bool.or_true, Bool.true_or, Bool.or_false, Bool.false_or, beq_self_eq_true, dTT, dFF, dT, dF, bigI, big0, qkb, qn6, qn7, List.length_set, List.length_replicate, Int.toNat_natCast, qcu, qcv, imax, imin, qal, qa3]
  unfold stOk
  cases qad a0 a1 <;> rfl
end Go.Proofs.YtfgccfajhedgdaaGreat
end
section
namespace Go.Proofs.YtfgccfajhedgdaaGreat
open Go.Ev
theorem qn1 {l : Int} (h : inR l 0 4 = true) : 1 ≤ qn0 l ∧ qn0 l ≤ 16 := by
  rcases lev h with rfl | rfl | rfl | rfl | rfl <;> decide
theorem qnz {x : Cell} (h : idOk x.1 x.2.1 x.2.2 = true) : qmz x.1 x.2.1 x.2.2 = x.1 * 16 + x.2.2 * qn0 x.2.1 ∧ 0 ≤ x.2.2 * qn0 x.2.1 ∧ 1 ≤ qn0 x.2.1 := by
  have := qg4 h
  exact ⟨by simp [qmz, h], (iw h).1, (qn1 this.2.2.1).1⟩
theorem qj5 : ∀ (l : List Cell) (r p : Int), qj1 r p l = true → 1 ≤ r ∧ r ≤ 8 ∧ p + l.length ≤ 16 * r ∧ (∀ i, i < l.length → 0 ≤ (l.getD i zz3).1 ∧ (l.getD i zz3).1 < r ∧ idOk (l.getD i zz3).1 (l.getD i zz3).2.1 (l.getD i zz3).2.2 = true) ∧ (l = [] → p = 16 * r)
  | [], r, p, h => by
    simp only [qj1, Bool.and_eq_true, qg5, decide_eq_true_eq] at h
    simp; omega
  | x :: l, r, p, h => by
    simp only [qj1, Bool.and_eq_true, decide_eq_true_eq] at h
    obtain ⟨h1, h2, h3⟩ := h
    have w := qnz h1
    have ih := qj5 l r _ h3
    have ds := qg4 h1
    refine ⟨ih.1, ih.2.1, by simp only [List.length_cons]; omega, fun i hi => ?_, by simp⟩
    cases i with
    | zero => simp only [List.getD_cons_zero]; refine ⟨by omega, by omega, h1⟩
    | succ i => simp only [List.getD_cons_succ]; exact ih.2.2.2.1 i (by simpa using hi)
theorem qj6 {l : List Cell} {r : Int} (h : qj1 r 0 l = true) : 1 ≤ l.length ∧ l.length ≤ 128 := by
  have f := qj5 l r 0 h
  cases l with
  | nil => have := f.2.2.2.2 rfl; omega
  | cons x l => simp only [List.length_cons] at f ⊢; omega
structure StF (r : Int) (l : List Cell) (m t b : List Int) : Prop where
  mesh : qj1 r 0 l = true
  bal : unb l < 0
  ml : m.length = l.length
  tl : t.length = l.length
  bl : (b.length : Int) = r
  mt : qju m t = true
  bed : qae b = true
  sum : isum m ≤ 10000000
theorem stF {r : Int} {l : List Cell} {m t b : List Int} : stOk r l m t b = true ↔ StF r l m t b := by
  unfold stOk qad
  simp only [Bool.and_eq_true, decide_eq_true_eq]
  exact ⟨fun h => ⟨h.1.1, h.1.2, h.2.1, h.2.2.1, h.2.2.2.1, h.2.2.2.2.1, h.2.2.2.2.2.1, h.2.2.2.2.2.2⟩, fun h => ⟨⟨h.mesh, h.bal⟩, h.ml, h.tl, h.bl, h.mt, h.bed, h.sum⟩⟩
theorem shp {l : Int} (h : inR l 0 4 = true) : (2 : Int) ^ shiftN .i64 l = pow2 l := by
  rcases lev h with rfl | rfl | rfl | rfl | rfl <;> simp [sh0, sh1, sh2, sh3, sh4, p20, p21, p22, p23, p24]
section
variable {r : Int} {l : List Cell} {m t b : List Int}
theorem StF.len (F : StF r l m t b) : 1 ≤ l.length ∧ l.length ≤ 128 := qj6 F.mesh
theorem StF.rr (F : StF r l m t b) : 1 ≤ r ∧ r ≤ 8 := ⟨(qj5 l r 0 F.mesh).1, (qj5 l r 0 F.mesh).2.1⟩
theorem StF.lev (F : StF r l m t b) (i : Nat) : inR (l.getD i zz3).2.1 0 4 = true := by
  have := qj7 l r 0 F.mesh i
  simp only [qic] at this
  rw [qg5]; exact this
theorem StF.at (F : StF r l m t b) (i : Nat) : 0 ≤ m.getD i 0 ∧ m.getD i 0 ≤ 10000000 ∧ 0 ≤ t.getD i 0 ∧ t.getD i 0 ≤ 1000 * m.getD i 0 := qjv m t (by rw [F.ml, F.tl]) F.mt i
end
def surf (l : List Cell) (m b : List Int) (i : Nat) : Int := b.getD (l.getD i zz3).1.toNat 0 + m.getD i 0 * pow2 (l.getD i zz3).2.1
end Go.Proofs.YtfgccfajhedgdaaGreat
end
section
namespace Go.Proofs.YtfgccfajhedgdaaGreat
open Go.Ev
theorem qfo (k : Nat) (a0 : Int) (a1z : Bool) (a1 : List (Int × Int × Int)) (a2z : Bool) (a2 : List Int) (a3z : Bool) (a3 : List Int) (a4z : Bool) (a4 : List Int) : go (k + 1) laws_toState [(.agg [(.int .i64 (a0)), (.arr false (a1z) (.r3 (a1))), (.arr false (a2z) (.ints .i64 (a2))), (.arr false (a3z) (.ints .i64 (a3))), (.arr false (a4z) (.ints .i64 (a4)))])] =
 (go k laws_toMesh [(.agg [(.int .i64 (a0)), (.arr false (a1z) (.r3 (a1)))])]).bind fun r0 =>
 (go k laws_toIntS [(.arr false (a2z) (.ints .i64 (a2)))]).bind fun r1 =>
 (go k laws_toIntS [(.arr false (a3z) (.ints .i64 (a3)))]).bind fun r2 =>
 (go k laws_toIntS [(.arr false (a4z) (.ints .i64 (a4)))]).bind fun r3 =>
 some [(.agg [(.int .i64 (D.toInt (D.cell 0 (nth r0 0)))), (.arr true (D.nil (D.cell 1 (nth r0 0))) (.r3 (D.r3 (D.cell 1 (nth r0 0))))), (.arr true (D.nil (nth r1 0)) (.ints .i64 (D.ints (nth r1 0)))), (.arr true (D.nil (nth r2 0)) (.ints .i64 (D.ints (nth r2 0)))), (.arr true (D.nil (nth r3 0)) (.ints .i64 (D.ints (nth r3 0))))])] := by kernel_rfl
theorem qfj (k : Nat) (a0 : Int) (a1z : Bool) (a1 : List (Int × Int × Int)) (a2z : Bool) (a2 : List Int) (a3z : Bool) (a3 : List Int) (a4z : Bool) (a4 : List Int) (b : Int) : go (k + 1) laws_szState [(.agg [(.int .i64 (a0)), (.arr false (a1z) (.r3 (a1))), (.arr false (a2z) (.ints .i64 (a2))), (.arr false (a3z) (.ints .i64 (a3))), (.arr false (a4z) (.ints .i64 (a4)))]), (.int .i64 (b))] =
 (go k laws_szMesh [(.agg [(.int .i64 (a0)), (.arr false (a1z) (.r3 (a1)))]), (.int .i64 (b))]).bind fun r0 =>
 cond (decide (D.toInt (nth r0 0) < (0 : Int)))
 (some [(.int .i64 ((-1 : Int)))])
 ((go k laws_szIntS [(.arr false (a2z) (.ints .i64 (a2))), (.int .i64 (D.toInt (nth r0 0)))]).bind fun r1 =>
 cond (decide (D.toInt (nth r1 0) < (0 : Int)))
 (some [(.int .i64 ((-1 : Int)))])
 ((go k laws_szIntS [(.arr false (a3z) (.ints .i64 (a3))), (.int .i64 (D.toInt (nth r1 0)))]).bind fun r2 =>
 cond (decide (D.toInt (nth r2 0) < (0 : Int)))
 (some [(.int .i64 ((-1 : Int)))])
 ((go k laws_szIntS [(.arr false (a4z) (.ints .i64 (a4))), (.int .i64 (D.toInt (nth r2 0)))]).bind fun r3 =>
 cond (decide (D.toInt (nth r3 0) < (0 : Int)))
 (some [(.int .i64 ((-1 : Int)))])
 (some [(.int .i64 (D.toInt (nth r3 0)))])))) := by kernel_rfl
theorem qe7 (k : Nat) (a0 : Int) (a1z : Bool) (a1 : List (Int × Int × Int)) (a2z : Bool) (a2 : List Int) (a3z : Bool) (a3 : List Int) (a4z : Bool) (a4 : List Int) (b0 : Int) (b1z : Bool) (b1 : List (Int × Int × Int)) (b2z : Bool) (b2 : List Int) (b3z : Bool) (b3 : List Int) (b4z : Bool) (b4 : List Int) : go (k + 1) laws_eqState [(.agg [(.int .i64 (a0)), (.arr false (a1z) (.r3 (a1))), (.arr false (a2z) (.ints .i64 (a2))), (.arr false (a3z) (.ints .i64 (a3))), (.arr false (a4z) (.ints .i64 (a4)))]), (.agg [(.int .i64 (b0)), (.arr false (b1z) (.r3 (b1))), (.arr false (b2z) (.ints .i64 (b2))), (.arr false (b3z) (.ints .i64 (b3))), (.arr false (b4z) (.ints .i64 (b4)))])] =
 (go k laws_eqMesh [(.agg [(.int .i64 (a0)), (.arr false (a1z) (.r3 (a1)))]), (.agg [(.int .i64 (b0)), (.arr false (b1z) (.r3 (b1)))])]).bind fun r0 =>
 cond (!bit (nth r0 0))
 (some [(.bool (false))])
 ((go k laws_eqIntS [(.arr false (a2z) (.ints .i64 (a2))), (.arr false (b2z) (.ints .i64 (b2)))]).bind fun r1 =>
 cond (!bit (nth r1 0))
 (some [(.bool (false))])
 ((go k laws_eqIntS [(.arr false (a3z) (.ints .i64 (a3))), (.arr false (b3z) (.ints .i64 (b3)))]).bind fun r2 =>
 cond (!bit (nth r2 0))
 (some [(.bool (false))])
 ((go k laws_eqIntS [(.arr false (a4z) (.ints .i64 (a4))), (.arr false (b4z) (.ints .i64 (b4)))]).bind fun r3 =>
 cond (!bit (nth r3 0))
 (some [(.bool (false))])
 (some [(.bool (true))])))) := by kernel_rfl
theorem qff (k : Nat) (a0 : Int) (a1z : Bool) (a1 : List (Int × Int × Int)) (a2z : Bool) (a2 : List Int) (a3z : Bool) (a3 : List Int) (a4z : Bool) (a4 : List Int) (b : Int) : go (k + 1) laws_markState [(.agg [(.int .i64 (a0)), (.arr true (a1z) (.r3 (a1))), (.arr true (a2z) (.ints .i64 (a2))), (.arr true (a3z) (.ints .i64 (a3))), (.arr true (a4z) (.ints .i64 (a4)))]), (.int .i64 (b))] =
 (go k laws_markMesh [(.agg [(.int .i64 (a0)), (.arr true (a1z) (.r3 (a1)))]), (.int .i64 (b))]).bind fun r0 =>
 (go k laws_markIntS [(.arr true (a2z) (.ints .i64 (a2))), (.int .i64 (D.toInt (nth r0 0)))]).bind fun r1 =>
 (go k laws_markIntS [(.arr true (a3z) (.ints .i64 (a3))), (.int .i64 (D.toInt (nth r1 0)))]).bind fun r2 =>
 (go k laws_markIntS [(.arr true (a4z) (.ints .i64 (a4))), (.int .i64 (D.toInt (nth r2 0)))]).bind fun r3 =>
 some [(.int .i64 (D.toInt (nth r3 0))), (.agg [(.int .i64 (a0)), (.arr true (a1z) (.r3 (D.r3 (D.cell 1 (nth r0 1))))), (.arr true (a2z) (.ints .i64 (D.ints (nth r1 1)))), (.arr true (a3z) (.ints .i64 (D.ints (nth r2 1)))), (.arr true (a4z) (.ints .i64 (D.ints (nth r3 1))))])] := by kernel_rfl
theorem qfb (k : Nat) (a0 : Int) (a1z : Bool) (a1 : List (Int × Int × Int)) (a2z : Bool) (a2 : List Int) (a3z : Bool) (a3 : List Int) (a4z : Bool) (a4 : List Int) (b : Int) : go (k + 1) laws_heldState [(.agg [(.int .i64 (a0)), (.arr false (a1z) (.r3 (a1))), (.arr false (a2z) (.ints .i64 (a2))), (.arr false (a3z) (.ints .i64 (a3))), (.arr false (a4z) (.ints .i64 (a4)))]), (.int .i64 (b))] =
 (go k laws_heldMesh [(.agg [(.int .i64 (a0)), (.arr false (a1z) (.r3 (a1)))]), (.int .i64 (b))]).bind fun r0 =>
 cond (decide (D.toInt (nth r0 0) < (0 : Int)))
 (some [(.int .i64 ((-1 : Int)))])
 ((go k laws_heldIntS [(.arr false (a2z) (.ints .i64 (a2))), (.int .i64 (D.toInt (nth r0 0)))]).bind fun r1 =>
 cond (decide (D.toInt (nth r1 0) < (0 : Int)))
 (some [(.int .i64 ((-1 : Int)))])
 ((go k laws_heldIntS [(.arr false (a3z) (.ints .i64 (a3))), (.int .i64 (D.toInt (nth r1 0)))]).bind fun r2 =>
 cond (decide (D.toInt (nth r2 0) < (0 : Int)))
 (some [(.int .i64 ((-1 : Int)))])
 ((go k laws_heldIntS [(.arr false (a4z) (.ints .i64 (a4))), (.int .i64 (D.toInt (nth r2 0)))]).bind fun r3 =>
 cond (decide (D.toInt (nth r3 0) < (0 : Int)))
 (some [(.int .i64 ((-1 : Int)))])
 (some [(.int .i64 (D.toInt (nth r3 0)))])))) := by kernel_rfl
theorem qfa (k : Nat) (a0 : Int) (a1z : Bool) (a1 : List (Int × Int × Int)) (b : Int) : go (k + 1) laws_heldMesh [(.agg [(.int .i64 (a0)), (.arr false (a1z) (.r3 (a1)))]), (.int .i64 (b))] =
 (go k laws_heldIdS [(.arr false (a1z) (.r3 (a1))), (.int .i64 (b))]).bind fun r0 =>
 cond (decide (D.toInt (nth r0 0) < (0 : Int)))
 (some [(.int .i64 ((-1 : Int)))])
 (some [(.int .i64 (D.toInt (nth r0 0)))]) := by kernel_rfl
def qlw (x0 x1 : Int) (z2 : Bool) (l3 : List (Int × Int × Int)) : St := ⟨fill 40 [(0, (.sl 0 none)), (1, (.int .i64 (x0))), (5, (.int .i64 (x1)))], [], [(.arr false (z2) (.r3 (l3)))]⟩
theorem qe8 (k : Nat) (az : Bool) (a : List (Int × Int × Int)) (b : Int) : go (k + 1) laws_heldIdS [(.arr false (az) (.r3 (a))), (.int .i64 (b))] =
 lp k laws_heldIdS [] [] 2 k (qlw b (0 : Int) az a) := by kernel_rfl
theorem qhp (k n : Nat) (fu : List (Nat × Nat)) (x0 x1 : Int) (z2 : Bool) (l3 : List (Int × Int × Int)) : lp k laws_heldIdS [] fu 2 (n + 1) (qlw x0 x1 z2 l3) =
 cond (decide (x1 < nI (List.length l3)))
 (cond (decide ((0 : Int) ≤ x1) && decide (x1 < nI (List.length l3)))
 (cond (!decide (Prod.fst (List.getD l3 (Int.toNat x1) zz3) = x0))
 (some [(.int .i64 ((-1 : Int)))])
 (cond (decide ((0 : Int) ≤ x1) && decide (x1 < nI (List.length l3)))
 (cond (!decide (Prod.fst (Prod.snd (List.getD l3 (Int.toNat x1) zz3)) = IntKind.wrap .i64 (x0 + (1 : Int))))
 (some [(.int .i64 ((-1 : Int)))])
 (cond (decide ((0 : Int) ≤ x1) && decide (x1 < nI (List.length l3)))
 (cond (!decide (Prod.snd (Prod.snd (List.getD l3 (Int.toNat x1) zz3)) = IntKind.wrap .i64 (IntKind.wrap .i64 (x0 + (1 : Int)) + (1 : Int))))
 (some [(.int .i64 ((-1 : Int)))])
 (lp k laws_heldIdS [] fu 2 n (qlw (IntKind.wrap .i64 (IntKind.wrap .i64 (IntKind.wrap .i64 (x0 + (1 : Int)) + (1 : Int)) + (1 : Int))) (IntKind.wrap .i64 (x1 + (1 : Int))) z2 l3)))
 (none)))
 (none)))
 (none))
 (some [(.int .i64 (x0))]) := by kernel_rfl

end Go.Proofs.YtfgccfajhedgdaaGreat
end
section
namespace Go.Proofs.YtfgccfajhedgdaaGreat
open Go.Ev
theorem qbx (k : Nat) (hk : 2000000 ≤ k) (a0 : Int) (a1z : Bool) (a1 : List (Int × Int × Int)) (a2z : Bool) (a2 : List Int) (a3z : Bool) (a3 : List Int) (a4z : Bool) (a4 : List Int) (h1 : (a1.length : Int) ≤ 1048576) (h2 : (a2.length : Int) ≤ 1048576) (h3 : (a3.length : Int) ≤ 1048576) (h4 : (a4.length : Int) ≤ 1048576) :
    go (k + 4) laws_toState [(.agg [(.int .i64 (a0)), (.arr false (a1z) (.r3 (a1))), (.arr false (a2z) (.ints .i64 (a2))), (.arr false (a3z) (.ints .i64 (a3))), (.arr false (a4z) (.ints .i64 (a4)))])] = some [.agg [.int .i64 a0, .arr true false (.r3 a1), .arr true false (.ints .i64 a2), .arr true false (.ints .i64 a3), .arr true false (.ints .i64 a4)]] := by
  rw [qfo]
  simp (disch := omega) only [qaf, nth0, nth1, nth2, nth3, bit, qcw, qcx, qc8, qdd, qde, qdf, qdg, qdh, qdi, qdj, qcy, qcz, qc0, qc1, qc2, qc3, qc4, qc5, qc6, qc7, qc9, qda, qdb, qdc, qni, qnh, qnj, qkc, qky, qkz, qg6, qag, qm5, nI, qds, qdq, Bool.not_true, Bool.not_false, Bool.and_true, Bool.true_and, Bool.and_false, Bool.false_and, Bool.or_true, Bool.true_or, Bool.or_false, Bool.false_or, beq_self_eq_true, dTT, dFF, dT, dF, bigI, big0, qkb, qn6, qn7, List.length_set, List.length_replicate, Int.toNat_natCast, qcu, qcv, imax, imin, qbw, qbv]
theorem qbs (k : Nat) (hk : 2000000 ≤ k) (a0 : Int) (a1z : Bool) (a1 : List (Int × Int × Int)) (a2z : Bool) (a2 : List Int) (a3z : Bool) (a3 : List Int) (a4z : Bool) (a4 : List Int) (b : Int) (h1 : (a1.length : Int) ≤ 9223372036854775807) (h2 : (a2.length : Int) ≤ 9223372036854775807) (h3 : (a3.length : Int) ≤ 9223372036854775807) (h4 : (a4.length : Int) ≤ 9223372036854775807) (hb : 0 ≤ b) (hb' : b ≤ 1048576) :
    go (k + 3) laws_szState [(.agg [(.int .i64 (a0)), (.arr false (a1z) (.r3 (a1))), (.arr false (a2z) (.ints .i64 (a2))), (.arr false (a3z) (.ints .i64 (a3))), (.arr false (a4z) (.ints .i64 (a4)))]), (.int .i64 (b))] = some [.int .i64 (if (a1.length : Int) + a2.length + a3.length + a4.length ≤ b then b - a1.length - a2.length - a3.length - a4.length else -1)] := by
  rw [qfj]
  by_cases g1 : (a1.length : Int) ≤ b
  case neg => rw [if_neg (c := (a1.length : Int) + a2.length + a3.length + a4.length ≤ b) (by omega)]; simp (disch := omega) only [qaf, nth0, nth1, nth2, nth3, bit, qcw, qcx, qc8, qdd, qde, qdf, qdg, qdh, qdi, qdj, qcy, qcz, qc0, qc1, qc2, qc3, qc4, qc5, qc6, qc7, qc9, qda, qdb, qdc, qni, qnh, qnj, qkc, qky, qkz, qg6, qag, qm5, nI, qds, qdq, Bool.not_true, Bool.not_false, Bool.and_true, Bool.true_and, Bool.and_false, Bool.false_and, Bool.or_true, Bool.true_or, Bool.or_false, Bool.false_or, beq_self_eq_true, dTT, dFF, dT, dF, bigI, big0, qkb, qn6, qn7, List.length_set, List.length_replicate, Int.toNat_natCast, qcu, qcv, imax, imin, qbr, if_neg g1]
  by_cases g2 : (a2.length : Int) ≤ b - a1.length
  case neg => rw [if_neg (c := (a1.length : Int) + a2.length + a3.length + a4.length ≤ b) (by omega)]; simp (disch := omega) only [qaf, nth0, nth1, nth2, nth3, bit, qcw, qcx, qc8, qdd, qde, qdf, qdg, qdh, qdi, qdj, qcy, qcz, qc0, qc1, qc2, qc3, qc4, qc5, qc6, qc7, qc9, qda, qdb, qdc, qni, qnh, qnj, qkc, qky, qkz, qg6, qag, qm5, nI, qds, qdq, Bool.not_true, Bool.not_false, Bool.and_true, Bool.true_and, Bool.and_false, Bool.false_and, Bool.or_true, Bool.true_or, Bool.or_false, Bool.false_or, beq_self_eq_true, dTT, dFF, dT, dF, bigI, big0, qkb, qn6, qn7, List.length_set, List.length_replicate, Int.toNat_natCast, qcu, qcv, imax, imin, qbr, qbq, if_pos g1, if_neg g2]
  by_cases g3 : (a3.length : Int) ≤ b - a1.length - a2.length
  case neg => rw [if_neg (c := (a1.length : Int) + a2.length + a3.length + a4.length ≤ b) (by omega)]; simp (disch := omega) only [qaf, nth0, nth1, nth2, nth3, bit, qcw, qcx, qc8, qdd, qde, qdf, qdg, qdh, qdi, qdj, qcy, qcz, qc0, qc1, qc2, qc3, qc4, qc5, qc6, qc7, qc9, qda, qdb, qdc, qni, qnh, qnj, qkc, qky, qkz, qg6, qag, qm5, nI, qds, qdq, Bool.not_true, Bool.not_false, Bool.and_true, Bool.true_and, Bool.and_false, Bool.false_and, Bool.or_true, Bool.true_or, Bool.or_false, Bool.false_or, beq_self_eq_true, dTT, dFF, dT, dF, bigI, big0, qkb, qn6, qn7, List.length_set, List.length_replicate, Int.toNat_natCast, qcu, qcv, imax, imin, qbr, qbq, if_pos g1, if_pos g2, if_neg g3]
  by_cases g4 : (a4.length : Int) ≤ b - a1.length - a2.length - a3.length
  case neg => rw [if_neg (c := (a1.length : Int) + a2.length + a3.length + a4.length ≤ b) (by omega)]; simp (disch := omega) only [qaf, nth0, nth1, nth2, nth3, bit, qcw, qcx, qc8, qdd, qde, qdf, qdg, qdh, qdi, qdj, qcy, qcz, qc0, qc1, qc2, qc3, qc4, qc5, qc6, qc7, qc9, qda, qdb, qdc, qni, qnh, qnj, qkc, qky, qkz, qg6, qag, qm5, nI, qds, qdq, Bool.not_true, Bool.not_false, Bool.and_true, Bool.true_and, Bool.and_false, Bool.false_and, Bool.or_true, Bool.true_or, Bool.or_false, Bool.false_or, beq_self_eq_true, dTT, dFF, dT, dF, bigI, big0, qkb, qn6, qn7, List.length_set, List.length_replicate, Int.toNat_natCast, qcu, qcv, imax, imin, qbr, qbq, if_pos g1, if_pos g2, if_pos g3, if_neg g4]
  rw [if_pos (c := (a1.length : Int) + a2.length + a3.length + a4.length ≤ b) (by omega)]; simp (disch := omega) only [qaf, nth0, nth1, nth2, nth3, bit, qcw, qcx, qc8, qdd, qde, qdf, qdg, qdh, qdi, qdj, qcy, qcz, qc0, qc1, qc2, qc3, qc4, qc5, qc6, qc7, qc9, qda, qdb, qdc, qni, qnh, qnj, qkc, qky, qkz, qg6, qag, qm5, nI, qds, qdq, Bool.not_true, Bool.not_false, Bool.and_true, Bool.true_and, Bool.and_false, Bool.false_and, Bool.or_true, Bool.true_or, Bool.or_false, Bool.false_or, beq_self_eq_true, dTT, dFF, dT, dF, bigI, big0, qkb, qn6, qn7, List.length_set, List.length_replicate, Int.toNat_natCast, qcu, qcv, imax, imin, qbr, qbq, if_pos g1, if_pos g2, if_pos g3, if_pos g4]
theorem qbg (k : Nat) (hk : 2000000 ≤ k) (r : Int) (z1 z2 z3 z4 y1 y2 y3 y4 : Bool) (l : List Cell) (m t b : List Int) (h1 : (l.length : Int) ≤ 1048576) (h2 : (m.length : Int) ≤ 1048576) (h3 : (t.length : Int) ≤ 1048576) (h4 : (b.length : Int) ≤ 1048576) :
    go (k + 4) laws_eqState [.agg [.int .i64 r, .arr false z1 (.r3 l), .arr false z2 (.ints .i64 m), .arr false z3 (.ints .i64 t), .arr false z4 (.ints .i64 b)], .agg [.int .i64 r, .arr false y1 (.r3 l), .arr false y2 (.ints .i64 m), .arr false y3 (.ints .i64 t), .arr false y4 (.ints .i64 b)]] = some [.bool true] := by
  rw [qe7]
  simp (disch := omega) only [qaf, nth0, nth1, nth2, nth3, bit, qcw, qcx, qc8, qdd, qde, qdf, qdg, qdh, qdi, qdj, qcy, qcz, qc0, qc1, qc2, qc3, qc4, qc5, qc6, qc7, qc9, qda, qdb, qdc, qni, qnh, qnj, qkc, qky, qkz, qg6, qag, qm5, nI, qds, qdq, Bool.not_true, Bool.not_false, Bool.and_true, Bool.true_and, Bool.and_false, Bool.false_and, Bool.or_true, Bool.true_or, Bool.or_false, Bool.false_or, beq_self_eq_true, dTT, dFF, dT, dF, bigI, big0, qkb, qn6, qn7, List.length_set, List.length_replicate, Int.toNat_natCast, qcu, qcv, imax, imin, qbf, qbe]
end Go.Proofs.YtfgccfajhedgdaaGreat
end
section
namespace Go.Proofs.YtfgccfajhedgdaaGreat
open Go.Ev
def qjp (b : Int) : Nat → List Cell
  | 0 => []
  | n + 1 => (b, b + 1, b + 2) :: qjp (b + 3) n
theorem qjr : ∀ (n : Nat) (b : Int), (qjp b n).length = n
  | 0, b => rfl
  | n + 1, b => by simp [qjp, qjr n]
theorem qjq : ∀ (n i : Nat) (b : Int), i < n → (qjp b n).getD i zz3 = (b + 3 * i, b + 3 * i + 1, b + 3 * i + 2)
  | 0, i, b, h => by omega
  | n + 1, 0, b, h => by simp [qjp]
  | n + 1, i + 1, b, h => by
    have := qjq n i (b + 3) (by omega)
    simp only [qjp, List.getD_cons_succ, this]
    rw [show b + 3 + 3 * (i : Int) = b + 3 * ((i + 1 : Nat) : Int) by omega]
theorem qmo {α : Type} (l : List α) (i : Nat) (x y : α) : (l.set i x).set i y = l.set i y := List.set_set ..
theorem qgz {α : Type} {l : List α} {i : Nat} (h : i < l.length) (x d : α) : (l.set i x).getD i d = x := by rw [qml]; simp [h]
theorem qi5 (k : Nat) (hk : 2000000 ≤ k) (fu : List (Nat × Nat)) (az : Bool) (a : List Cell) (z : Bool) (L : Nat) (hl : (L : Int) ≤ 1048576) : ∀ (n i : Nat) (l : List Cell) (b : Int), l.length = L → i ≤ L → 0 ≤ b → b ≤ 8796093022208 + 3 * i → L - i < n →
    lp k laws_markIdS [(.arr true (az) (.r3 (a)))] fu 2 (n) (qly b (i : Int) z l) = some [.int .i64 (b + 3 * (L - i : Nat)), .arr true z (.r3 (l.take i ++ qjp b (L - i)))]
  | 0, i, l, b, hL, hi, h0, hb, hn => by omega
  | n + 1, i, l, b, hL, hi, h0, hb, hn => by
    rw [qhr]
    by_cases h : i < L
    · have e := qi5 k hk fu az a z L hl n (i + 1) (l.set i (b, b + 1, b + 2)) (b + 3) (by simp [hL]) (by omega) (by omega) (by omega) (by omega)
      rw [qmm l l i _ _ (by omega)] at e
      rw [show L - i = (L - (i + 1)) + 1 by omega]
      simp only [qjp]
      simp (disch := omega) only [qaf, nth0, nth1, nth2, nth3, bit, qcw, qcx, qc8, qdd, qde, qdf, qdg, qdh, qdi, qdj, qcy, qcz, qc0, qc1, qc2, qc3, qc4, qc5, qc6, qc7, qc9, qda, qdb, qdc, qni, qnh, qnj, qkc, qky, qkz, qg6, qag, qm5, nI, qds, qdq, Bool.not_true, Bool.not_false, Bool.and_true, Bool.true_and, Bool.and_false, Bool.false_and, Bool.or_true, Bool.true_or, Bool.or_false, Bool.false_or, beq_self_eq_true, dTT, dFF, dT, dF, bigI, big0, qkb, qn6, qn7, List.length_set, List.length_replicate, Int.toNat_natCast, qcu, qcv, imax, imin, qmo, qgz, show b + 1 + 1 = b + 2 by omega, show b + 2 + 1 = b + 3 by omega]
      rw [e, show b + 3 + 3 * ((L - (i + 1) : Nat) : Int) = b + 3 * ((L - (i + 1) + 1 : Nat) : Int) by omega]
    · simp (disch := omega) only [qaf, nth0, nth1, nth2, nth3, bit, qcw, qcx, qc8, qdd, qde, qdf, qdg, qdh, qdi, qdj, qcy, qcz, qc0, qc1, qc2, qc3, qc4, qc5, qc6, qc7, qc9, qda, qdb, qdc, qni, qnh, qnj, qkc, qky, qkz, qg6, qag, qm5, nI, qds, qdq, Bool.not_true, Bool.not_false, Bool.and_true, Bool.true_and, Bool.and_false, Bool.false_and, Bool.or_true, Bool.true_or, Bool.or_false, Bool.false_or, beq_self_eq_true, dTT, dFF, dT, dF, bigI, big0, qkb, qn6, qn7, List.length_set, List.length_replicate, Int.toNat_natCast, qcu, qcv, imax, imin]
      rw [show L - i = 0 by omega]
      simp only [qjp, List.append_nil]
      rw [List.take_of_length_le (by omega)]
      simp
theorem qbl (k : Nat) (hk : 2000000 ≤ k) (az : Bool) (a : List (Int × Int × Int)) (b : Int) (hl : (a.length : Int) ≤ 1048576) (h0 : 0 ≤ b) (hb : b ≤ 8796093022208) : go (k + 1) laws_markIdS [(.arr true (az) (.r3 (a))), (.int .i64 (b))] = some [.int .i64 (b + 3 * a.length), .arr true az (.r3 (qjp b a.length))] := by
  rw [qfc]
  have e := qi5 k hk [] az a az a.length hl (k + 0) 0 a b rfl (by omega) h0 (by omega) (by omega)
  simpa using e
theorem qbn (k : Nat) (hk : 2000000 ≤ k) (a0 : Int) (a1z : Bool) (a1 : List (Int × Int × Int)) (b : Int) (hl : (a1.length : Int) ≤ 1048576) (h0 : 0 ≤ b) (hb : b ≤ 8796093022208) : go (k + 2) laws_markMesh [(.agg [(.int .i64 (a0)), (.arr true (a1z) (.r3 (a1)))]), (.int .i64 (b))] = some [.int .i64 (b + 3 * a1.length), .agg [.int .i64 a0, .arr true a1z (.r3 (qjp b a1.length))]] := by
  rw [qfe]
  simp (disch := omega) only [qaf, nth0, nth1, nth2, nth3, bit, qcw, qcx, qc8, qdd, qde, qdf, qdg, qdh, qdi, qdj, qcy, qcz, qc0, qc1, qc2, qc3, qc4, qc5, qc6, qc7, qc9, qda, qdb, qdc, qni, qnh, qnj, qkc, qky, qkz, qg6, qag, qm5, nI, qds, qdq, Bool.not_true, Bool.not_false, Bool.and_true, Bool.true_and, Bool.and_false, Bool.false_and, Bool.or_true, Bool.true_or, Bool.or_false, Bool.false_or, beq_self_eq_true, dTT, dFF, dT, dF, bigI, big0, qkb, qn6, qn7, List.length_set, List.length_replicate, Int.toNat_natCast, qcu, qcv, imax, imin, qbl]
theorem qbo (k : Nat) (hk : 2000000 ≤ k) (a0 : Int) (a1z : Bool) (a1 : List (Int × Int × Int)) (a2z : Bool) (a2 : List Int) (a3z : Bool) (a3 : List Int) (a4z : Bool) (a4 : List Int) (b : Int) (h1 : (a1.length : Int) ≤ 1048576) (h2 : (a2.length : Int) ≤ 1048576) (h3 : (a3.length : Int) ≤ 1048576) (h4 : (a4.length : Int) ≤ 1048576) (h0 : 0 ≤ b) (hb : b ≤ 8700000000000) :
    go (k + 3) laws_markState [(.agg [(.int .i64 (a0)), (.arr true (a1z) (.r3 (a1))), (.arr true (a2z) (.ints .i64 (a2))), (.arr true (a3z) (.ints .i64 (a3))), (.arr true (a4z) (.ints .i64 (a4)))]), (.int .i64 (b))] = some [.int .i64 (b + 3 * a1.length + a2.length + a3.length + a4.length), .agg [.int .i64 a0, .arr true a1z (.r3 (qjp b a1.length)), .arr true a2z (.ints .i64 (marks (b + 3 * a1.length) a2.length)), .arr true a3z (.ints .i64 (marks (b + 3 * a1.length + a2.length) a3.length)), .arr true a4z (.ints .i64 (marks (b + 3 * a1.length + a2.length + a3.length) a4.length))]] := by
  rw [qff]
  simp (disch := omega) only [qaf, nth0, nth1, nth2, nth3, bit, qcw, qcx, qc8, qdd, qde, qdf, qdg, qdh, qdi, qdj, qcy, qcz, qc0, qc1, qc2, qc3, qc4, qc5, qc6, qc7, qc9, qda, qdb, qdc, qni, qnh, qnj, qkc, qky, qkz, qg6, qag, qm5, nI, qds, qdq, Bool.not_true, Bool.not_false, Bool.and_true, Bool.true_and, Bool.and_false, Bool.false_and, Bool.or_true, Bool.true_or, Bool.or_false, Bool.false_or, beq_self_eq_true, dTT, dFF, dT, dF, bigI, big0, qkb, qn6, qn7, List.length_set, List.length_replicate, Int.toNat_natCast, qcu, qcv, imax, imin, qbn, qbm]
theorem qi3 (k : Nat) (hk : 2000000 ≤ k) (fu : List (Nat × Nat)) (z : Bool) (L : Nat) (b0 : Int) (hl : (L : Int) ≤ 1048576) (h0 : 0 ≤ b0) (hb : b0 ≤ 8796093022208) : ∀ (n i : Nat), i ≤ L → L - i < n →
    lp k laws_heldIdS [] fu 2 (n) (qlw (b0 + 3 * (i : Int)) (i : Int) z (qjp b0 L)) = some [.int .i64 (b0 + 3 * L)]
  | 0, i, hi, hn => by omega
  | n + 1, i, hi, hn => by
    rw [qhp]
    simp only [qjr]
    by_cases h : i < L
    · have e := qi3 k hk fu z L b0 hl h0 hb n (i + 1) (by omega) (by omega)
      rw [show b0 + 3 * ((i + 1 : Nat) : Int) = b0 + 3 * (i : Int) + 3 by omega] at e
      simp (disch := omega) only [qaf, nth0, nth1, nth2, nth3, bit, qcw, qcx, qc8, qdd, qde, qdf, qdg, qdh, qdi, qdj, qcy, qcz, qc0, qc1, qc2, qc3, qc4, qc5, qc6, qc7, qc9, qda, qdb, qdc, qni, qnh, qnj, qkc, qky, qkz, qg6, qag, qm5, nI, qds, qdq, Bool.not_true, Bool.not_false, Bool.and_true, Bool.true_and, Bool.and_false, Bool.false_and, Bool.or_true, Bool.true_or, Bool.or_false, Bool.false_or, beq_self_eq_true, dTT, dFF, dT, dF, bigI, big0, qkb, qn6, qn7, List.length_set, List.length_replicate, Int.toNat_natCast, qcu, qcv, imax, imin, qjq, show b0 + 3 * (i : Int) + 1 + 1 = b0 + 3 * (i : Int) + 2 by omega, show b0 + 3 * (i : Int) + 2 + 1 = b0 + 3 * (i : Int) + 3 by omega]
      exact e
    · simp (disch := omega) only [qaf, nth0, nth1, nth2, nth3, bit, qcw, qcx, qc8, qdd, qde, qdf, qdg, qdh, qdi, qdj, qcy, qcz, qc0, qc1, qc2, qc3, qc4, qc5, qc6, qc7, qc9, qda, qdb, qdc, qni, qnh, qnj, qkc, qky, qkz, qg6, qag, qm5, nI, qds, qdq, Bool.not_true, Bool.not_false, Bool.and_true, Bool.true_and, Bool.and_false, Bool.false_and, Bool.or_true, Bool.true_or, Bool.or_false, Bool.false_or, beq_self_eq_true, dTT, dFF, dT, dF, bigI, big0, qkb, qn6, qn7, List.length_set, List.length_replicate, Int.toNat_natCast, qcu, qcv, imax, imin]
      rw [show i = L by omega]
theorem qbh (k : Nat) (hk : 2000000 ≤ k) (z : Bool) (L : Nat) (b0 : Int) (hl : (L : Int) ≤ 1048576) (h0 : 0 ≤ b0) (hb : b0 ≤ 8796093022208) : go (k + 1) laws_heldIdS [.arr false z (.r3 (qjp b0 L)), .int .i64 b0] = some [.int .i64 (b0 + 3 * L)] := by
  rw [qe8]
  have e := qi3 k hk [] z L b0 hl h0 hb (k + 0) 0 (by omega) (by omega)
  simpa using e
theorem qbj (k : Nat) (hk : 2000000 ≤ k) (r : Int) (z : Bool) (L : Nat) (b0 : Int) (hl : (L : Int) ≤ 1048576) (h0 : 0 ≤ b0) (hb : b0 ≤ 8796093022208) : go (k + 2) laws_heldMesh [.agg [.int .i64 r, .arr false z (.r3 (qjp b0 L))], .int .i64 b0] = some [.int .i64 (b0 + 3 * L)] := by
  rw [qfa]
  simp (disch := omega) only [qaf, nth0, nth1, nth2, nth3, bit, qcw, qcx, qc8, qdd, qde, qdf, qdg, qdh, qdi, qdj, qcy, qcz, qc0, qc1, qc2, qc3, qc4, qc5, qc6, qc7, qc9, qda, qdb, qdc, qni, qnh, qnj, qkc, qky, qkz, qg6, qag, qm5, nI, qds, qdq, Bool.not_true, Bool.not_false, Bool.and_true, Bool.true_and, Bool.and_false, Bool.false_and, Bool.or_true, Bool.true_or, Bool.or_false, Bool.false_or, beq_self_eq_true, dTT, dFF, dT, dF, bigI, big0, qkb, qn6, qn7, List.length_set, List.length_replicate, Int.toNat_natCast, qcu, qcv, imax, imin, qbh]
theorem qbk (k : Nat) (hk : 2000000 ≤ k) (r : Int) (z1 z2 z3 z4 : Bool) (L1 L2 L3 L4 : Nat) (b : Int) (h1 : (L1 : Int) ≤ 1048576) (h2 : (L2 : Int) ≤ 1048576) (h3 : (L3 : Int) ≤ 1048576) (h4 : (L4 : Int) ≤ 1048576) (h0 : 0 ≤ b) (hb : b ≤ 8700000000000) :
    go (k + 3) laws_heldState [.agg [.int .i64 r, .arr false z1 (.r3 (qjp b L1)), .arr false z2 (.ints .i64 (marks (b + 3 * L1) L2)), .arr false z3 (.ints .i64 (marks (b + 3 * L1 + L2) L3)), .arr false z4 (.ints .i64 (marks (b + 3 * L1 + L2 + L3) L4))], .int .i64 b] = some [.int .i64 (b + 3 * L1 + L2 + L3 + L4)] := by
  rw [qfb]
  simp (disch := omega) only [qaf, nth0, nth1, nth2, nth3, bit, qcw, qcx, qc8, qdd, qde, qdf, qdg, qdh, qdi, qdj, qcy, qcz, qc0, qc1, qc2, qc3, qc4, qc5, qc6, qc7, qc9, qda, qdb, qdc, qni, qnh, qnj, qkc, qky, qkz, qg6, qag, qm5, nI, qds, qdq, Bool.not_true, Bool.not_false, Bool.and_true, Bool.true_and, Bool.and_false, Bool.false_and, Bool.or_true, Bool.true_or, Bool.or_false, Bool.false_or, beq_self_eq_true, dTT, dFF, dT, dF, bigI, big0, qkb, qn6, qn7, List.length_set, List.length_replicate, Int.toNat_natCast, qcu, qcv, imax, imin, qbj, qbi]
end Go.Proofs.YtfgccfajhedgdaaGreat
end
section
namespace Go.Proofs.YtfgccfajhedgdaaGreat
open Go.Ev
theorem qcl (k : Nat) (hk : 2000000 ≤ k) (a0 : Int) (a1z : Bool) (a1 : List (Int × Int × Int)) (h1 : (a1.length : Int) ≤ 1048576) : go (k + 1) spec_l04Copy [(.agg [(.int .i64 (a0)), (.arr false (a1z) (.r3 (a1)))])] = some [.agg [.int .i64 a0, .arr true false (.r3 a1)]] := by
  rw [qgc]
  simp (disch := omega) only [qaf, nth0, nth1, nth2, nth3, bit, qcw, qcx, qc8, qdd, qde, qdf, qdg, qdh, qdi, qdj, qcy, qcz, qc0, qc1, qc2, qc3, qc4, qc5, qc6, qc7, qc9, qda, qdb, qdc, qni, qnh, qnj, qkc, qky, qkz, qg6, qag, qm5, nI, qds, qdq, Bool.not_true, Bool.not_false, Bool.and_true, Bool.true_and, Bool.and_false, Bool.false_and, Bool.or_true, Bool.true_or, Bool.or_false, Bool.false_or, beq_self_eq_true, dTT, dFF, dT, dF, bigI, big0, qkb, qn6, qn7, List.length_set, List.length_replicate, Int.toNat_natCast, qcu, qcv, imax, imin]
theorem qcq (k : Nat) (hk : 2000000 ≤ k) (a0 : Int) (a1z : Bool) (a1 : List (Int × Int × Int)) (a2z : Bool) (a2 : List Int) (a3z : Bool) (a3 : List Int) (a4z : Bool) (a4 : List Int) (h1 : (a1.length : Int) ≤ 1048576) (h2 : (a2.length : Int) ≤ 1048576) (h3 : (a3.length : Int) ≤ 1048576) (h4 : (a4.length : Int) ≤ 1048576) : go (k + 2) spec_l07Copy [(.agg [(.int .i64 (a0)), (.arr false (a1z) (.r3 (a1))), (.arr false (a2z) (.ints .i64 (a2))), (.arr false (a3z) (.ints .i64 (a3))), (.arr false (a4z) (.ints .i64 (a4)))])] = some [.agg [.int .i64 a0, .arr true false (.r3 a1), .arr true false (.ints .i64 a2), .arr true false (.ints .i64 a3), .arr true false (.ints .i64 a4)]] := by
  rw [qgh]
  simp (disch := omega) only [qaf, nth0, nth1, nth2, nth3, bit, qcw, qcx, qc8, qdd, qde, qdf, qdg, qdh, qdi, qdj, qcy, qcz, qc0, qc1, qc2, qc3, qc4, qc5, qc6, qc7, qc9, qda, qdb, qdc, qni, qnh, qnj, qkc, qky, qkz, qg6, qag, qm5, nI, qds, qdq, Bool.not_true, Bool.not_false, Bool.and_true, Bool.true_and, Bool.and_false, Bool.false_and, Bool.or_true, Bool.true_or, Bool.or_false, Bool.false_or, beq_self_eq_true, dTT, dFF, dT, dF, bigI, big0, qkb, qn6, qn7, List.length_set, List.length_replicate, Int.toNat_natCast, qcu, qcv, imax, imin, qcl]
theorem qbz (k : Nat) (hk : 2000000 ≤ k) (a : List Int) (hl : (a.length : Int) ≤ 1048576) : go (k + 1) slices_Clone_int_int [.arr false false (.ints .i64 a)] = some [.arr true false (.ints .i64 a)] := by
  rw [qfq]
  simp (disch := omega) only [qaf, nth0, nth1, nth2, nth3, bit, qcw, qcx, qc8, qdd, qde, qdf, qdg, qdh, qdi, qdj, qcy, qcz, qc0, qc1, qc2, qc3, qc4, qc5, qc6, qc7, qc9, qda, qdb, qdc, qni, qnh, qnj, qkc, qky, qkz, qg6, qag, qm5, nI, qds, qdq, Bool.not_true, Bool.not_false, Bool.and_true, Bool.true_and, Bool.and_false, Bool.false_and, Bool.or_true, Bool.true_or, Bool.or_false, Bool.false_or, beq_self_eq_true, dTT, dFF, dT, dF, bigI, big0, qkb, qn6, qn7, List.length_set, List.length_replicate, Int.toNat_natCast, qcu, qcv, imax, imin]
theorem qby (k : Nat) (hk : 2000000 ≤ k) (a : List Cell) (hl : (a.length : Int) ≤ 1048576) : go (k + 1) slices_Clone_impl_Id_impl_Id [.arr false false (.r3 a)] = some [.arr true false (.r3 a)] := by
  rw [qfp]
  simp (disch := omega) only [qaf, nth0, nth1, nth2, nth3, bit, qcw, qcx, qc8, qdd, qde, qdf, qdg, qdh, qdi, qdj, qcy, qcz, qc0, qc1, qc2, qc3, qc4, qc5, qc6, qc7, qc9, qda, qdb, qdc, qni, qnh, qnj, qkc, qky, qkz, qg6, qag, qm5, nI, qds, qdq, Bool.not_true, Bool.not_false, Bool.and_true, Bool.true_and, Bool.and_false, Bool.false_and, Bool.or_true, Bool.true_or, Bool.or_false, Bool.false_or, beq_self_eq_true, dTT, dFF, dT, dF, bigI, big0, qkb, qn6, qn7, List.length_set, List.length_replicate, Int.toNat_natCast, qcu, qcv, imax, imin]
theorem qa0 (k : Nat) (hk : 2000000 ≤ k) (a0 : Int) (a1 : List Cell) (h1 : (a1.length : Int) ≤ 1048576) : go (k + 2) impl_copyMesh [.agg [.int .i64 a0, .arr false false (.r3 a1)]] = some [.agg [.int .i64 a0, .arr true false (.r3 a1)]] := by
  rw [qev]
  simp (disch := omega) only [qaf, nth0, nth1, nth2, nth3, bit, qcw, qcx, qc8, qdd, qde, qdf, qdg, qdh, qdi, qdj, qcy, qcz, qc0, qc1, qc2, qc3, qc4, qc5, qc6, qc7, qc9, qda, qdb, qdc, qni, qnh, qnj, qkc, qky, qkz, qg6, qag, qm5, nI, qds, qdq, Bool.not_true, Bool.not_false, Bool.and_true, Bool.true_and, Bool.and_false, Bool.false_and, Bool.or_true, Bool.true_or, Bool.or_false, Bool.false_or, beq_self_eq_true, dTT, dFF, dT, dF, bigI, big0, qkb, qn6, qn7, List.length_set, List.length_replicate, Int.toNat_natCast, qcu, qcv, imax, imin, qby]
theorem qa1 (k : Nat) (hk : 2000000 ≤ k) (a0 : Int) (a1 : List Cell) (a2 a3 a4 : List Int) (h1 : (a1.length : Int) ≤ 1048576) (h2 : (a2.length : Int) ≤ 1048576) (h3 : (a3.length : Int) ≤ 1048576) (h4 : (a4.length : Int) ≤ 1048576) :
    go (k + 3) impl_copyState [.agg [.int .i64 a0, .arr false false (.r3 a1), .arr false false (.ints .i64 a2), .arr false false (.ints .i64 a3), .arr false false (.ints .i64 a4)]] = some [.agg [.int .i64 a0, .arr true false (.r3 a1), .arr true false (.ints .i64 a2), .arr true false (.ints .i64 a3), .arr true false (.ints .i64 a4)]] := by
  rw [qew]
  simp (disch := omega) only [qaf, nth0, nth1, nth2, nth3, bit, qcw, qcx, qc8, qdd, qde, qdf, qdg, qdh, qdi, qdj, qcy, qcz, qc0, qc1, qc2, qc3, qc4, qc5, qc6, qc7, qc9, qda, qdb, qdc, qni, qnh, qnj, qkc, qky, qkz, qg6, qag, qm5, nI, qds, qdq, Bool.not_true, Bool.not_false, Bool.and_true, Bool.true_and, Bool.and_false, Bool.false_and, Bool.or_true, Bool.true_or, Bool.or_false, Bool.false_or, beq_self_eq_true, dTT, dFF, dT, dF, bigI, big0, qkb, qn6, qn7, List.length_set, List.length_replicate, Int.toNat_natCast, qcu, qcv, imax, imin, qa0, qbz]
end Go.Proofs.YtfgccfajhedgdaaGreat
end
section
namespace Go.Proofs.YtfgccfajhedgdaaGreat
open Go.Ev
def ql2 (x0 x1 : Int) (z2 : Bool) (l3 : List (Int × Int × Int)) (z4 : Bool) (l5 : List (Int × Int × Int)) (x6 : Int) : St := ⟨fill 19 [(0, (.sl 0 none)), (1, (.fn impl_RemapState_1 [(.ptr 2 (0) (0))])), (7, (.int .i64 (x0))), (8, (.int .i64 (x1)))], [], [(.arr false (z2) (.r3 (l3))), (.arr false (z4) (.r3 (l5))), (.box false [(.int .i64 (x6)), (.sl 1 none)])]⟩
def ql3 (x0 x1 : Int) (z2 : Bool) (l3 : List (Int × Int × Int)) (x4 x5 x6 : Int) : St := ⟨fill 19 [(0, (.sl 0 none)), (1, (.fn impl_State_remap_1 [(.ptr 1 (0) (0))])), (7, (.int .i64 (x0))), (8, (.int .i64 (x1)))], [], [(.arr false (z2) (.r3 (l3))), (.box false [(.int .i64 (x4)), (.int .i64 (x5)), (.int .i64 (x6))])]⟩
theorem qfs (k : Nat) (v0 : Bool) (v1 : List (Int × Int × Int)) (v2 : Int) (v3 : Bool) (v4 : List (Int × Int × Int)) : go (k + 1) slices_IndexFunc_impl_Id_impl_Id [(.arr false (v0) (.r3 (v1))), (.fn impl_RemapState_1 [(.ptr false [(.int .i64 (v2)), (.arr false (v3) (.r3 (v4)))])])] =
 lp k slices_IndexFunc_impl_Id_impl_Id [] [] 2 k (ql2 (nI (List.length v1)) (0 : Int) v0 v1 v3 v4 v2) := by kernel_rfl
theorem qft (k : Nat) (v0 : Bool) (v1 : List (Int × Int × Int)) (v2 v3 v4 : Int) : go (k + 1) slices_IndexFunc_impl_Id_impl_Id [(.arr false (v0) (.r3 (v1))), (.fn impl_State_remap_1 [(.ptr false [(.int .i64 (v2)), (.int .i64 (v3)), (.int .i64 (v4))])])] =
 lp k slices_IndexFunc_impl_Id_impl_Id [] [] 2 k (ql3 (nI (List.length v1)) (0 : Int) v0 v1 v2 v3 v4) := by kernel_rfl
theorem qhv (k n : Nat) (fu : List (Nat × Nat)) (x0 x1 : Int) (z2 : Bool) (l3 : List (Int × Int × Int)) (z4 : Bool) (l5 : List (Int × Int × Int)) (x6 : Int) : lp k slices_IndexFunc_impl_Id_impl_Id [] fu 2 (n + 1) (ql2 x0 x1 z2 l3 z4 l5 x6) =
 cond (decide (x1 < x0))
 (cond (decide ((0 : Int) ≤ x1) && decide (x1 < nI (List.length l3)))
 ((go k impl_RemapState_1 [(.agg [(.int .i64 (Prod.fst (List.getD l3 (Int.toNat x1) zz3))), (.int .i64 (Prod.fst (Prod.snd (List.getD l3 (Int.toNat x1) zz3)))), (.int .i64 (Prod.snd (Prod.snd (List.getD l3 (Int.toNat x1) zz3))))]), (.ptr false [(.int .i64 (x6)), (.arr false (z4) (.r3 (l5)))])]).bind fun r0 =>
 cond (bit (nth r0 0))
 (some [(.int .i64 (x1))])
 (lp k slices_IndexFunc_impl_Id_impl_Id [] fu 2 n (ql2 x0 (IntKind.wrap .i64 (x1 + (1 : Int))) z2 l3 z4 l5 x6)))
 (none))
 (some [(.int .i64 ((-1 : Int)))]) := by kernel_rfl
theorem qhw (k n : Nat) (fu : List (Nat × Nat)) (x0 x1 : Int) (z2 : Bool) (l3 : List (Int × Int × Int)) (x4 x5 x6 : Int) : lp k slices_IndexFunc_impl_Id_impl_Id [] fu 2 (n + 1) (ql3 x0 x1 z2 l3 x4 x5 x6) =
 cond (decide (x1 < x0))
 (cond (decide ((0 : Int) ≤ x1) && decide (x1 < nI (List.length l3)))
 ((go k impl_State_remap_1 [(.agg [(.int .i64 (Prod.fst (List.getD l3 (Int.toNat x1) zz3))), (.int .i64 (Prod.fst (Prod.snd (List.getD l3 (Int.toNat x1) zz3)))), (.int .i64 (Prod.snd (Prod.snd (List.getD l3 (Int.toNat x1) zz3))))]), (.ptr false [(.int .i64 (x4)), (.int .i64 (x5)), (.int .i64 (x6))])]).bind fun r0 =>
 cond (bit (nth r0 0))
 (some [(.int .i64 (x1))])
 (lp k slices_IndexFunc_impl_Id_impl_Id [] fu 2 n (ql3 x0 (IntKind.wrap .i64 (x1 + (1 : Int))) z2 l3 x4 x5 x6)))
 (none))
 (some [(.int .i64 ((-1 : Int)))]) := by kernel_rfl

end Go.Proofs.YtfgccfajhedgdaaGreat
end
section
namespace Go.Proofs.YtfgccfajhedgdaaGreat
open Go.Ev
abbrev cst (x : Cell) : Int := qmz x.1 x.2.1 x.2.2
end Go.Proofs.YtfgccfajhedgdaaGreat
end
section
namespace Go.Proofs.YtfgccfajhedgdaaGreat
open Go.Ev
def okp : Int → List Cell → Bool
  | _, [] => true
  | p, x :: l => idOk x.1 x.2.1 x.2.2 && (decide (qmz x.1 x.2.1 x.2.2 = p) && okp (p + qn0 x.2.1) l)
def endp : Int → List Cell → Int
  | p, [] => p
  | p, x :: l => endp (p + qn0 x.2.1) l
theorem qj2 : ∀ (l : List Cell) (r p : Int), qj1 r p l = (okp p l && (inR r 1 8 && decide (endp p l = r * 16)))
  | [], r, p => rfl
  | x :: l, r, p => by
    simp only [qj1, okp, endp]
    by_cases h : qmz x.1 x.2.1 x.2.2 = p
    · rw [h, qj2 l r]; simp only [Bool.and_assoc]; rfl
    · rw [dF h]; simp
theorem qj3 {l : List Cell} {r p : Int} : qj1 r p l = true ↔ okp p l = true ∧ (1 ≤ r ∧ r ≤ 8) ∧ endp p l = r * 16 := by
  rw [qj2]; simp only [Bool.and_eq_true, qg5, decide_eq_true_eq]
theorem qkj {x : Cell} {l : List Cell} {p : Int} : okp p (x :: l) = true ↔ idOk x.1 x.2.1 x.2.2 = true ∧ qmz x.1 x.2.1 x.2.2 = p ∧ okp (p + qn0 x.2.1) l = true := by
  simp only [okp, Bool.and_eq_true, decide_eq_true_eq]
theorem qgs (x : Cell) (l : List Cell) (p : Int) : endp p (x :: l) = endp (p + qn0 x.2.1) l := rfl
theorem qkh : ∀ (a b : List Cell) (p : Int), okp p (a ++ b) = (okp p a && okp (endp p a) b)
  | [], b, p => by simp [okp, endp]
  | x :: a, b, p => by simp only [List.cons_append, okp, endp, qkh a b, Bool.and_assoc]
theorem qgr : ∀ (a b : List Cell) (p : Int), endp p (a ++ b) = endp (endp p a) b
  | [], b, p => by simp [endp]
  | x :: a, b, p => by simp only [List.cons_append, endp, qgr a b]
end Go.Proofs.YtfgccfajhedgdaaGreat
end
section
namespace Go.Proofs.YtfgccfajhedgdaaGreat
open Go.Ev
theorem w0 : qn0 0 = 16 := by decide
theorem w1_ : qn0 1 = 8 := by decide
theorem w2_ : qn0 2 = 4 := by decide
theorem w3_ : qn0 3 = 2 := by decide
theorem w4_ : qn0 4 = 1 := by decide
theorem qg3 {r l i : Int} : idOk r l i = true ↔ (0 ≤ r ∧ r ≤ 7) ∧ (0 ≤ l ∧ l ≤ 4) ∧ 0 ≤ i ∧ i < pow2 l := by
  simp only [idOk, Bool.and_eq_true, qg5, decide_eq_true_eq]
theorem qm1 {r l i : Int} (h : idOk r l i = true) : qmz r l i = r * 16 + i * qn0 l := by simp [qmz, h]
abbrev ch0 (x : Cell) : Cell := (x.1, x.2.1 + 1, 2 * x.2.2)
abbrev ch1 (x : Cell) : Cell := (x.1, x.2.1 + 1, 2 * x.2.2 + 1)
theorem qdl {r l i : Int} (h : idOk r l i = true) (hl : l < 4) : idOk r (l + 1) (2 * i) = true ∧ idOk r (l + 1) (2 * i + 1) = true ∧ qmz r (l + 1) (2 * i) = qmz r l i ∧ qmz r (l + 1) (2 * i + 1) = qmz r l i + qn0 (l + 1) ∧ qn0 (l + 1) + qn0 (l + 1) = qn0 l := by
  have h' := qg3.1 h
  rcases lev (qg5.2 h'.2.1) with rfl | rfl | rfl | rfl | rfl
  · have p := h'.2.2; simp only [p20] at p
    have a : idOk r 1 (2 * i) = true := qg3.2 ⟨h'.1, by omega, by rw [p21]; omega⟩
    have b : idOk r 1 (2 * i + 1) = true := qg3.2 ⟨h'.1, by omega, by rw [p21]; omega⟩
    refine ⟨a, b, ?_, ?_, rfl⟩
    · show qmz r 1 (2 * i) = _; rw [qm1 a, qm1 h, w0, w1_]; omega
    · show qmz r 1 (2 * i + 1) = _ + qn0 1; rw [qm1 b, qm1 h, w0, w1_]; omega
  · have p := h'.2.2; simp only [p21] at p
    have a : idOk r 2 (2 * i) = true := qg3.2 ⟨h'.1, by omega, by rw [p22]; omega⟩
    have b : idOk r 2 (2 * i + 1) = true := qg3.2 ⟨h'.1, by omega, by rw [p22]; omega⟩
    refine ⟨a, b, ?_, ?_, rfl⟩
    · show qmz r 2 (2 * i) = _; rw [qm1 a, qm1 h, w1_, w2_]; omega
    · show qmz r 2 (2 * i + 1) = _ + qn0 2; rw [qm1 b, qm1 h, w1_, w2_]; omega
  · have p := h'.2.2; simp only [p22] at p
    have a : idOk r 3 (2 * i) = true := qg3.2 ⟨h'.1, by omega, by rw [p23]; omega⟩
    have b : idOk r 3 (2 * i + 1) = true := qg3.2 ⟨h'.1, by omega, by rw [p23]; omega⟩
    refine ⟨a, b, ?_, ?_, rfl⟩
    · show qmz r 3 (2 * i) = _; rw [qm1 a, qm1 h, w2_, w3_]; omega
    · show qmz r 3 (2 * i + 1) = _ + qn0 3; rw [qm1 b, qm1 h, w2_, w3_]; omega
  · have p := h'.2.2; simp only [p23] at p
    have a : idOk r 4 (2 * i) = true := qg3.2 ⟨h'.1, by omega, by rw [p24]; omega⟩
    have b : idOk r 4 (2 * i + 1) = true := qg3.2 ⟨h'.1, by omega, by rw [p24]; omega⟩
    refine ⟨a, b, ?_, ?_, rfl⟩
    · show qmz r 4 (2 * i) = _; rw [qm1 a, qm1 h, w3_, w4_]; omega
    · show qmz r 4 (2 * i + 1) = _ + qn0 4; rw [qm1 b, qm1 h, w3_, w4_]; omega
  · omega
def qmv (l : List Cell) (i : Nat) : List Cell := l.take i ++ ch0 (l.getD i zz3) :: ch1 (l.getD i zz3) :: l.drop (i + 1)
theorem qmw {l : List Cell} {i : Nat} (h : i < l.length) : (qmv l i).length = l.length + 1 := by
  simp only [qmv, List.length_append, List.length_take, List.length_cons, List.length_drop]; omega
theorem qdx {α : Type} {l : List α} {i : Nat} (h : i < l.length) (d : α) : l = l.take i ++ l.getD i d :: l.drop (i + 1) := by
  rw [← qd3 h d, List.take_append_drop]
theorem qmx {l : List Cell} {r p : Int} {i : Nat} (h : qj1 r p l = true) (hi : i < l.length) (hl : (l.getD i zz3).2.1 < 4) : qj1 r p (qmv l i) = true := by
  rw [qj3] at *
  have e := qdx hi zz3
  have h1 := h
  rw [e, qkh, qgr] at h1
  unfold qmv
  rw [qkh, qgr]
  simp only [qkj, qgs, Bool.and_eq_true] at h1 ⊢
  have c := qdl h1.1.2.1 hl
  refine ⟨⟨h1.1.1, c.1, ?_, c.2.1, ?_, ?_⟩, h1.2.1, ?_⟩
  · rw [c.2.2.1]; exact h1.1.2.2.1
  · rw [c.2.2.2.1, h1.1.2.2.1]
  · rw [Int.add_assoc, c.2.2.2.2]; exact h1.1.2.2.2
  · rw [Int.add_assoc, c.2.2.2.2]; exact h1.2.2
def qdo (l : List Cell) (i : Nat) : Nat := if qic l (i + 1) < qic l i then i + 1 else i
def balN : Nat → List Cell → List Cell
  | 0, l => l
  | n + 1, l => if unb l < 0 then l else balN n (qmv l (qdo l (unb l).toNat))
def bal (l : List Cell) : List Cell := balN (129 - l.length) l
abbrev par (x : Cell) : Cell := (x.1, x.2.1 - 1, x.2.2 / 2)
def sib (a b : Cell) : Bool := idOk a.1 a.2.1 a.2.2 && (idOk b.1 b.2.1 b.2.2 && (decide (a.1 = b.1) && (decide (a.2.1 = b.2.1) && (decide (a.2.2 % 2 = 0) && decide (b.2.2 = a.2.2 + 1)))))
theorem qkt {r l i : Int} (h : idOk r l i = true) (h' : idOk r l (i + 1) = true) (he : i % 2 = 0) : 1 ≤ l ∧ idOk r (l - 1) (i / 2) = true ∧ qmz r (l - 1) (i / 2) = qmz r l i ∧ qmz r l (i + 1) = qmz r l i + qn0 l ∧ qn0 l + qn0 l = qn0 (l - 1) := by
  have a := qg3.1 h; have b := qg3.1 h'
  have hl : 1 ≤ l := by
    rcases Int.lt_or_le l 1 with g | g
    · have : l = 0 := by omega
      subst this; rw [p20] at b; omega
    · exact g
  have q : l - 1 + 1 = l := by omega
  have hi : 2 * (i / 2) = i := by omega
  have p0 : idOk r (l - 1) (i / 2) = true := by
    rcases lev (qg5.2 a.2.1) with rfl | rfl | rfl | rfl | rfl
    · omega
    · rw [p21] at b; exact qg3.2 ⟨a.1, by omega, by rw [show (1 : Int) - 1 = 0 from rfl, p20]; omega⟩
    · rw [p22] at b; exact qg3.2 ⟨a.1, by omega, by rw [show (2 : Int) - 1 = 1 from rfl, p21]; omega⟩
    · rw [p23] at b; exact qg3.2 ⟨a.1, by omega, by rw [show (3 : Int) - 1 = 2 from rfl, p22]; omega⟩
    · rw [p24] at b; exact qg3.2 ⟨a.1, by omega, by rw [show (4 : Int) - 1 = 3 from rfl, p23]; omega⟩
  have c := qdl p0 (by omega)
  rw [q, hi] at c
  exact ⟨hl, p0, c.2.2.1.symm, by rw [c.2.2.2.1, c.2.2.1], c.2.2.2.2⟩
def qjy (l : List Cell) (i : Nat) : List Cell := l.take i ++ par (l.getD i zz3) :: l.drop (i + 2)
theorem qjz {l : List Cell} {i : Nat} (h : i + 1 < l.length) : (qjy l i).length + 1 = l.length := by
  simp only [qjy, List.length_append, List.length_take, List.length_cons, List.length_drop]; omega
theorem qj0 {l : List Cell} {r p : Int} {i : Nat} (h : qj1 r p l = true) (hi : i + 1 < l.length) (hs : sib (l.getD i zz3) (l.getD (i + 1) zz3) = true) : qj1 r p (qjy l i) = true := by
  rw [qj3] at *
  have e := qdx (by omega : i < l.length) zz3
  rw [qd3 hi zz3] at e
  have h1 := h
  rw [e, qkh, qgr] at h1
  unfold qjy
  rw [qkh, qgr]
  simp only [sib, Bool.and_eq_true, decide_eq_true_eq] at hs
  simp only [qkj, qgs, Bool.and_eq_true] at h1 ⊢
  obtain ⟨s1, s2, s3, s4, s5, s6⟩ := hs
  have s2' := s2
  rw [← s3, ← s4, s6] at s2'
  have c := qkt s1 s2' s5
  have e2 : qn0 (l.getD (i + 1) zz3).2.1 = qn0 (l.getD i zz3).2.1 := by rw [s4]
  rw [e2] at h1
  refine ⟨⟨h1.1.1, c.2.1, ?_, ?_⟩, h1.2.1, ?_⟩
  · rw [c.2.2.1]; exact h1.1.2.2.1
  · rw [← c.2.2.2.2, ← Int.add_assoc]; exact h1.1.2.2.2.2.2
  · rw [← c.2.2.2.2, ← Int.add_assoc]; exact h1.2.2
end Go.Proofs.YtfgccfajhedgdaaGreat
end
section
namespace Go.Proofs.YtfgccfajhedgdaaGreat
open Go.Ev
theorem qng {x y B : Int} (hy : 0 < y) (h : -B ≤ x) (h' : x ≤ B) : -B ≤ Int.tdiv x y ∧ Int.tdiv x y ≤ B := by
  by_cases hx : 0 ≤ x
  · rw [Int.tdiv_eq_ediv_of_nonneg hx]
    have h1 := Int.ediv_nonneg hx (by omega : 0 ≤ y)
    have h2 := Int.ediv_le_self y hx
    omega
  · obtain ⟨z, rfl⟩ : ∃ z, x = -z := ⟨-x, by omega⟩
    rw [Int.neg_tdiv, Int.tdiv_eq_ediv_of_nonneg (by omega : 0 ≤ z)]
    have h1 := Int.ediv_nonneg (by omega : 0 ≤ z) (by omega : 0 ≤ y)
    have h2 := Int.ediv_le_self y (by omega : 0 ≤ z)
    omega
def qmp (t p m : Int) : Int := cond (inR m 1 10000000 && (inR p 0 m && inR t 0 (1000 * m))) (Int.tdiv (t * p) m) 0
theorem qms {t p m : Int} (hm : inR m 1 10000000 = true) (hp : inR p 0 m = true) (ht : inR t 0 (1000 * m) = true) : 0 ≤ t * p ∧ t * p ≤ 100000000000000000 := by
  rw [qg5] at *
  refine ⟨Int.mul_nonneg (by omega) (by omega), ?_⟩
  calc t * p ≤ 10000000000 * p := Int.mul_le_mul_of_nonneg_right (by omega) (by omega)
    _ ≤ 10000000000 * 10000000 := Int.mul_le_mul_of_nonneg_left (by omega) (by omega)
theorem qmq (t p m : Int) : 0 ≤ qmp t p m ∧ qmp t p m ≤ 100000000000000000 := by
  unfold qmp
  cases hm : inR m 1 10000000
  · simp
  cases hp : inR p 0 m
  · simp
  cases ht : inR t 0 (1000 * m)
  · simp
  have := qms hm hp ht
  have hm' := qg5.1 hm
  simp only [Bool.and_self, qds]
  rw [Int.tdiv_eq_ediv_of_nonneg this.1]
  exact ⟨Int.ediv_nonneg this.1 (by omega), Int.le_trans (Int.ediv_le_self m this.1) this.2⟩
theorem qmr {t p m : Int} (ht : 0 ≤ t) (hp : 0 ≤ p) (h : t ≤ 1000 * m) : qmp t p m ≤ 1000 * p := by
  unfold qmp
  cases hh : (inR m 1 10000000 && (inR p 0 m && inR t 0 (1000 * m)))
  · simp only [qdq]; omega
  · simp only [Bool.and_eq_true, qg5] at hh
    simp only [qds]
    rw [Int.tdiv_eq_ediv_of_nonneg (Int.mul_nonneg ht hp)]
    apply Int.ediv_le_of_le_mul (by omega)
    calc t * p ≤ (1000 * m) * p := Int.mul_le_mul_of_nonneg_right h hp
      _ = 1000 * p * m := by rw [Int.mul_assoc, Int.mul_assoc, Int.mul_comm m p]
def quo (sa sb la lb : Int) : Int := Int.tdiv ((sa - sb) * qn0 (max lb la)) (32 * (qn0 la + qn0 lb))
def qks (sa sb ma mb la lb : Int) : Int := max (0 - mb / 4) (min (ma / 4) (quo sa sb la lb))
def fl (l : List Cell) (m b : List Int) (i : Nat) : Int := qks (surf l m b i) (surf l m b (i + 1)) (m.getD i 0) (m.getD (i + 1) 0) (qic l i) (qic l (i + 1))
end Go.Proofs.YtfgccfajhedgdaaGreat
end
section
namespace Go.Proofs.YtfgccfajhedgdaaGreat
open Go.Ev
theorem qf5 (k : Nat) (a b c : Int) : go (k + 1) spec_ShareOut [(.int .i64 (a)), (.int .i64 (b)), (.int .i64 (c))] =
 (go k spec_l01In [(.int .i64 (c)), (.int .i64 ((1 : Int))), (.int .i64 ((10000000 : Int)))]).bind fun r0 =>
 cond (!bit (nth r0 0))
 (some [(.int .i64 (0 : Int))])
 ((go k spec_l01In [(.int .i64 (b)), (.int .i64 (0 : Int)), (.int .i64 (c))]).bind fun r1 =>
 cond (!bit (nth r1 0))
 (some [(.int .i64 (0 : Int))])
 ((go k spec_l01In [(.int .i64 (a)), (.int .i64 (0 : Int)), (.int .i64 (IntKind.wrap .i64 ((1000 : Int) * c)))]).bind fun r2 =>
 cond (!bit (nth r2 0))
 (some [(.int .i64 (0 : Int))])
 (cond (!decide (c = (0 : Int)))
 (some [(.int .i64 (IntKind.wrap .i64 (Int.tdiv (IntKind.wrap .i64 (a * b)) c)))])
 (none)))) := by kernel_rfl

end Go.Proofs.YtfgccfajhedgdaaGreat
end
section
namespace Go.Proofs.YtfgccfajhedgdaaGreat
open Go.Ev
theorem qcc (k : Nat) (hk : 2000000 ≤ k) (a : Int) (b : Int) (c : Int) : go (k + 2) spec_ShareOut [(.int .i64 (a)), (.int .i64 (b)), (.int .i64 (c))] = some [.int .i64 (qmp a b c)] := by
  rw [qf5]
  unfold qmp
  cases hm : inR c 1 10000000
  · simp (disch := omega) only [qaf, nth0, nth1, nth2, nth3, bit, qcw, qcx, qc8, qdd, qde, qdf, qdg, qdh, qdi, qdj, qcy, qcz, qc0, qc1, qc2, qc3, qc4, qc5, qc6, qc7, qc9, qda, qdb, qdc, qni, qnh, qnj, qkc, qky, qkz, qg6, qag, qm5, nI, qds, qdq, Bool.not_true, Bool.not_false, Bool.and_true, Bool.true_and, Bool.and_false, Bool.false_and, Bool.or_true, Bool.true_or, Bool.or_false, Bool.false_or, beq_self_eq_true, dTT, dFF, dT, dF, bigI, big0, qkb, qn6, qn7, List.length_set, List.length_replicate, Int.toNat_natCast, qcu, qcv, imax, imin, qck, hm]
  cases hp : inR b 0 c
  · simp (disch := omega) only [qaf, nth0, nth1, nth2, nth3, bit, qcw, qcx, qc8, qdd, qde, qdf, qdg, qdh, qdi, qdj, qcy, qcz, qc0, qc1, qc2, qc3, qc4, qc5, qc6, qc7, qc9, qda, qdb, qdc, qni, qnh, qnj, qkc, qky, qkz, qg6, qag, qm5, nI, qds, qdq, Bool.not_true, Bool.not_false, Bool.and_true, Bool.true_and, Bool.and_false, Bool.false_and, Bool.or_true, Bool.true_or, Bool.or_false, Bool.false_or, beq_self_eq_true, dTT, dFF, dT, dF, bigI, big0, qkb, qn6, qn7, List.length_set, List.length_replicate, Int.toNat_natCast, qcu, qcv, imax, imin, qck, hm, hp]
  have hm' := qg5.1 hm
  cases ht : inR a 0 (1000 * c)
  · simp (disch := omega) only [qaf, nth0, nth1, nth2, nth3, bit, qcw, qcx, qc8, qdd, qde, qdf, qdg, qdh, qdi, qdj, qcy, qcz, qc0, qc1, qc2, qc3, qc4, qc5, qc6, qc7, qc9, qda, qdb, qdc, qni, qnh, qnj, qkc, qky, qkz, qg6, qag, qm5, nI, qds, qdq, Bool.not_true, Bool.not_false, Bool.and_true, Bool.true_and, Bool.and_false, Bool.false_and, Bool.or_true, Bool.true_or, Bool.or_false, Bool.false_or, beq_self_eq_true, dTT, dFF, dT, dF, bigI, big0, qkb, qn6, qn7, List.length_set, List.length_replicate, Int.toNat_natCast, qcu, qcv, imax, imin, qck, hm, hp, ht]
  have q := qms hm hp ht
  have q2 : 0 ≤ Int.tdiv (a * b) c ∧ Int.tdiv (a * b) c ≤ 100000000000000000 := by
    have := qng (x := a * b) (y := c) (B := 100000000000000000) (by omega) (by omega) (by omega)
    rw [Int.tdiv_eq_ediv_of_nonneg q.1] at *
    exact ⟨Int.ediv_nonneg q.1 (by omega), this.2⟩
  simp (disch := omega) only [qaf, nth0, nth1, nth2, nth3, bit, qcw, qcx, qc8, qdd, qde, qdf, qdg, qdh, qdi, qdj, qcy, qcz, qc0, qc1, qc2, qc3, qc4, qc5, qc6, qc7, qc9, qda, qdb, qdc, qni, qnh, qnj, qkc, qky, qkz, qg6, qag, qm5, nI, qds, qdq, Bool.not_true, Bool.not_false, Bool.and_true, Bool.true_and, Bool.and_false, Bool.false_and, Bool.or_true, Bool.true_or, Bool.or_false, Bool.false_or, beq_self_eq_true, dTT, dFF, dT, dF, bigI, big0, qkb, qn6, qn7, List.length_set, List.length_replicate, Int.toNat_natCast, qcu, qcv, imax, imin, qck, hm, hp, ht]
end Go.Proofs.YtfgccfajhedgdaaGreat
end
section
namespace Go.Proofs.YtfgccfajhedgdaaGreat
open Go.Ev
def qm8 (g : Nat → Int) : Nat → Int
  | 0 => 0
  | n + 1 => qm8 g n + g n
theorem qg7 : ∀ (a b : List Int), isum (a ++ b) = isum a + isum b
  | [], b => by simp [isum]
  | x :: a, b => by simp only [List.cons_append, isum, qg7 a b]; omega
section
variable {r : Int} {l : List Cell} {m t b : List Int}
end
end Go.Proofs.YtfgccfajhedgdaaGreat
end
section
namespace Go.Proofs.YtfgccfajhedgdaaGreat
open Go.Ev
theorem qeh (k : Nat) (a b c : Int) : go (k + 1) impl_ShareOut [(.int .i64 (a)), (.int .i64 (b)), (.int .i64 (c))] =
 (go k impl_within [(.int .i64 (c)), (.int .i64 ((1 : Int))), (.int .i64 ((10000000 : Int)))]).bind fun r0 =>
 cond (!bit (nth r0 0))
 (some [(.int .i64 (0 : Int))])
 ((go k impl_within [(.int .i64 (b)), (.int .i64 (0 : Int)), (.int .i64 (c))]).bind fun r1 =>
 cond (!bit (nth r1 0))
 (some [(.int .i64 (0 : Int))])
 ((go k impl_within [(.int .i64 (a)), (.int .i64 (0 : Int)), (.int .i64 (IntKind.wrap .i64 ((1000 : Int) * c)))]).bind fun r2 =>
 cond (!bit (nth r2 0))
 (some [(.int .i64 (0 : Int))])
 (cond (!decide (c = (0 : Int)))
 (some [(.int .i64 (IntKind.wrap .i64 (Int.tdiv (IntKind.wrap .i64 (a * b)) c)))])
 (none)))) := by kernel_rfl

end Go.Proofs.YtfgccfajhedgdaaGreat
end
section
namespace Go.Proofs.YtfgccfajhedgdaaGreat
open Go.Ev
set_option maxRecDepth 20000
theorem qas (k : Nat) (hk : 2000000 ≤ k) (a : Int) (b : Int) (c : Int) : go (k + 2) impl_ShareOut [(.int .i64 (a)), (.int .i64 (b)), (.int .i64 (c))] = some [.int .i64 (qmp a b c)] := by
  rw [qeh]
  unfold qmp
  cases hm : inR c 1 10000000
  · simp (disch := omega) only [qaf, nth0, nth1, nth2, nth3, bit, qcw, qcx, qc8, qdd, qde, qdf, qdg, qdh, qdi, qdj, qcy, qcz, qc0, qc1, qc2, qc3, qc4, qc5, qc6, qc7, qc9, qda, qdb, qdc, qni, qnh, qnj, qkc, qky, qkz, qg6, qag, qm5, nI, qds, qdq, Bool.not_true, Bool.not_false, Bool.and_true, Bool.true_and, Bool.and_false, Bool.false_and, Bool.or_true, Bool.true_or, Bool.or_false, Bool.false_or, beq_self_eq_true, dTT, dFF, dT, dF, bigI, big0, qkb, qn6, qn7, List.length_set, List.length_replicate, Int.toNat_natCast, qcu, qcv, imax, imin, qbb, hm]
  cases hp : inR b 0 c
  · simp (disch := omega) only [qaf, nth0, nth1, nth2, nth3, bit, qcw, qcx, qc8, qdd, qde, qdf, qdg, qdh, qdi, qdj, qcy, qcz, qc0, qc1, qc2, qc3, qc4, qc5, qc6, qc7, qc9, qda, qdb, qdc, qni, qnh, qnj, qkc, qky, qkz, qg6, qag, qm5, nI, qds, qdq, Bool.not_true, Bool.not_false, Bool.and_true, Bool.true_and, Bool.and_false, Bool.false_and, Bool.or_true, Bool.true_or, Bool.or_false, Bool.false_or, beq_self_eq_true, dTT, dFF, dT, dF, bigI, big0, qkb, qn6, qn7, List.length_set, List.length_replicate, Int.toNat_natCast, qcu, qcv, imax, imin, qbb, hm, hp]
  have hm' := qg5.1 hm
  cases ht : inR a 0 (1000 * c)
  · simp (disch := omega) only [qaf, nth0, nth1, nth2, nth3, bit, qcw, qcx, qc8, qdd, qde, qdf, qdg, qdh, qdi, qdj, qcy, qcz, qc0, qc1, qc2, qc3, qc4, qc5, qc6, qc7, qc9, qda, qdb, qdc, qni, qnh, qnj, qkc, qky, qkz, qg6, qag, qm5, nI, qds, qdq, Bool.not_true, Bool.not_false, Bool.and_true, Bool.true_and, Bool.and_false, Bool.false_and, Bool.or_true, Bool.true_or, Bool.or_false, Bool.false_or, beq_self_eq_true, dTT, dFF, dT, dF, bigI, big0, qkb, qn6, qn7, List.length_set, List.length_replicate, Int.toNat_natCast, qcu, qcv, imax, imin, qbb, hm, hp, ht]
  have q := qms hm hp ht
  have q2 : 0 ≤ Int.tdiv (a * b) c ∧ Int.tdiv (a * b) c ≤ 100000000000000000 := by
    have := qng (x := a * b) (y := c) (B := 100000000000000000) (by omega) (by omega) (by omega)
    rw [Int.tdiv_eq_ediv_of_nonneg q.1] at *
    exact ⟨Int.ediv_nonneg q.1 (by omega), this.2⟩
  simp (disch := omega) only [qaf, nth0, nth1, nth2, nth3, bit, qcw, qcx, qc8, qdd, qde, qdf, qdg, qdh, qdi, qdj, qcy, qcz, qc0, qc1, qc2, qc3, qc4, qc5, qc6, qc7, qc9, qda, qdb, qdc, qni, qnh, qnj, qkc, qky, qkz, qg6, qag, qm5, nI, qds, qdq, Bool.not_true, Bool.not_false, Bool.and_true, Bool.true_and, Bool.and_false, Bool.false_and, Bool.or_true, Bool.true_or, Bool.or_false, Bool.false_or, beq_self_eq_true, dTT, dFF, dT, dF, bigI, big0, qkb, qn6, qn7, List.length_set, List.length_replicate, Int.toNat_natCast, qcu, qcv, imax, imin, qbb, hm, hp, ht]
end Go.Proofs.YtfgccfajhedgdaaGreat
end
section
namespace Go.Proofs.YtfgccfajhedgdaaGreat
open Go.Ev
set_option maxRecDepth 20000
def sh (G : Nat → Int) (i u : Nat) (x : Int) (j : Nat) : Int := if j = u then G u + x else if j = i then G i - x else G j
end Go.Proofs.YtfgccfajhedgdaaGreat
end
section
namespace Go.Proofs.YtfgccfajhedgdaaGreat
open Go.Ev
theorem qfw (k : Nat) (a0 a1 a2 b : Int) : go (k + 1) spec_ChildOf [(.agg [(.int .i64 (a0)), (.int .i64 (a1)), (.int .i64 (a2))]), (.int .i64 (b))] =
 (go k spec_IdOk [(.agg [(.int .i64 (a0)), (.int .i64 (a1)), (.int .i64 (a2))])]).bind fun r0 =>
 cond (!bit (nth r0 0))
 (some [(.agg [(.int .i64 (0 : Int)), (.int .i64 (0 : Int)), (.int .i64 (0 : Int))]), (.bool (false))])
 (cond (decide (a1 = (4 : Int)))
 (some [(.agg [(.int .i64 (0 : Int)), (.int .i64 (0 : Int)), (.int .i64 (0 : Int))]), (.bool (false))])
 ((go k spec_l01In [(.int .i64 (b)), (.int .i64 (0 : Int)), (.int .i64 ((1 : Int)))]).bind fun r1 =>
 cond (!bit (nth r1 0))
 (some [(.agg [(.int .i64 (0 : Int)), (.int .i64 (0 : Int)), (.int .i64 (0 : Int))]), (.bool (false))])
 (some [(.agg [(.int .i64 (a0)), (.int .i64 (IntKind.wrap .i64 (a1 + (1 : Int)))), (.int .i64 (IntKind.wrap .i64 (IntKind.wrap .i64 ((2 : Int) * a2) + b)))]), (.bool (true))]))) := by kernel_rfl
theorem qgf (k : Nat) (a0 : Int) (a1z : Bool) (a1 : List (Int × Int × Int)) (b : Int) : go (k + 1) spec_l05Split [(.agg [(.int .i64 (a0)), (.arr false (a1z) (.r3 (a1)))]), (.int .i64 (b))] =
 cond (decide ((0 : Int) ≤ b) && decide (b < nI (List.length a1)))
 ((go k spec_ChildOf [(.agg [(.int .i64 (Prod.fst (List.getD a1 (Int.toNat b) zz3))), (.int .i64 (Prod.fst (Prod.snd (List.getD a1 (Int.toNat b) zz3)))), (.int .i64 (Prod.snd (Prod.snd (List.getD a1 (Int.toNat b) zz3))))]), (.int .i64 (0 : Int))]).bind fun r0 =>
 cond (decide ((0 : Int) ≤ b) && decide (b < nI (List.length a1)))
 ((go k spec_ChildOf [(.agg [(.int .i64 (Prod.fst (List.getD a1 (Int.toNat b) zz3))), (.int .i64 (Prod.fst (Prod.snd (List.getD a1 (Int.toNat b) zz3)))), (.int .i64 (Prod.snd (Prod.snd (List.getD a1 (Int.toNat b) zz3))))]), (.int .i64 ((1 : Int)))]).bind fun r1 =>
 cond (decide ((0 : Int) ≤ (0 : Int)) && decide ((0 : Int) ≤ b) && decide (b ≤ nI (List.length a1)))
 (cond (decide (List.length ([] ++ List.take (Int.toNat b - Int.toNat (0 : Int)) (List.drop (0 + Int.toNat (0 : Int)) a1)) ≤ bigLen))
 (cond (decide (List.length ([] ++ List.take (Int.toNat b - Int.toNat (0 : Int)) (List.drop (0 + Int.toNat (0 : Int)) a1) ++ [(D.toInt (D.cell 0 (nth r0 0)), D.toInt (D.cell 1 (nth r0 0)), D.toInt (D.cell 2 (nth r0 0))), (D.toInt (D.cell 0 (nth r1 0)), D.toInt (D.cell 1 (nth r1 0)), D.toInt (D.cell 2 (nth r1 0)))]) ≤ bigLen))
 (cond (decide ((0 : Int) ≤ IntKind.wrap .i64 (b + (1 : Int))) && decide (IntKind.wrap .i64 (b + (1 : Int)) ≤ nI (List.length a1)) && decide (nI (List.length a1) ≤ nI (List.length a1)))
 (cond (decide (List.length ([] ++ List.take (Int.toNat b - Int.toNat (0 : Int)) (List.drop (0 + Int.toNat (0 : Int)) a1) ++ [(D.toInt (D.cell 0 (nth r0 0)), D.toInt (D.cell 1 (nth r0 0)), D.toInt (D.cell 2 (nth r0 0))), (D.toInt (D.cell 0 (nth r1 0)), D.toInt (D.cell 1 (nth r1 0)), D.toInt (D.cell 2 (nth r1 0)))] ++ List.take (Int.toNat (nI (List.length a1)) - Int.toNat (IntKind.wrap .i64 (b + (1 : Int)))) (List.drop (0 + Int.toNat (IntKind.wrap .i64 (b + (1 : Int)))) a1)) ≤ bigLen))
 (some [(.agg [(.int .i64 (a0)), (.arr true (false && decide (List.length ([] ++ List.take (Int.toNat b - Int.toNat (0 : Int)) (List.drop (0 + Int.toNat (0 : Int)) a1)) = 0) && decide (List.length ([] ++ List.take (Int.toNat b - Int.toNat (0 : Int)) (List.drop (0 + Int.toNat (0 : Int)) a1) ++ [(D.toInt (D.cell 0 (nth r0 0)), D.toInt (D.cell 1 (nth r0 0)), D.toInt (D.cell 2 (nth r0 0))), (D.toInt (D.cell 0 (nth r1 0)), D.toInt (D.cell 1 (nth r1 0)), D.toInt (D.cell 2 (nth r1 0)))]) = 0) && decide (List.length ([] ++ List.take (Int.toNat b - Int.toNat (0 : Int)) (List.drop (0 + Int.toNat (0 : Int)) a1) ++ [(D.toInt (D.cell 0 (nth r0 0)), D.toInt (D.cell 1 (nth r0 0)), D.toInt (D.cell 2 (nth r0 0))), (D.toInt (D.cell 0 (nth r1 0)), D.toInt (D.cell 1 (nth r1 0)), D.toInt (D.cell 2 (nth r1 0)))] ++ List.take (Int.toNat (nI (List.length a1)) - Int.toNat (IntKind.wrap .i64 (b + (1 : Int)))) (List.drop (0 + Int.toNat (IntKind.wrap .i64 (b + (1 : Int)))) a1)) = 0)) (.r3 ([] ++ List.take (Int.toNat b - Int.toNat (0 : Int)) (List.drop (0 + Int.toNat (0 : Int)) a1) ++ [(D.toInt (D.cell 0 (nth r0 0)), D.toInt (D.cell 1 (nth r0 0)), D.toInt (D.cell 2 (nth r0 0))), (D.toInt (D.cell 0 (nth r1 0)), D.toInt (D.cell 1 (nth r1 0)), D.toInt (D.cell 2 (nth r1 0)))] ++ List.take (Int.toNat (nI (List.length a1)) - Int.toNat (IntKind.wrap .i64 (b + (1 : Int)))) (List.drop (0 + Int.toNat (IntKind.wrap .i64 (b + (1 : Int)))) a1))))])])
 (none))
 (none))
 (none))
 (none))
 (none))
 (none))
 (none) := by kernel_rfl

end Go.Proofs.YtfgccfajhedgdaaGreat
end
section
namespace Go.Proofs.YtfgccfajhedgdaaGreat
open Go.Ev
set_option maxRecDepth 20000
theorem qkv (o : Bool) (d0 : D) (l : List D) : (D.ptr o (d0 :: l)).cell 0 = d0 := Eq.trans rfl rfl
theorem qkw (o : Bool) (d0 d1 : D) (l : List D) : (D.ptr o (d0 :: d1 :: l)).cell 1 = d1 := Eq.trans rfl rfl
theorem qkx (o : Bool) (d0 d1 d2 : D) (l : List D) : (D.ptr o (d0 :: d1 :: d2 :: l)).cell 2 = d2 := Eq.trans rfl rfl
theorem qb2 (k : Nat) (hk : 2000000 ≤ k) (r v ix b : Int) (hid : idOk r v ix = true) (hv : v < 4) (hb : b = 0 ∨ b = 1) : go (k + 3) spec_ChildOf [.agg [.int .i64 r, .int .i64 v, .int .i64 ix], .int .i64 b] = some [.agg [.int .i64 r, .int .i64 (v + 1), .int .i64 (2 * ix + b)], .bool true] := by
  rw [qfw]
  have h := qg3.1 hid
  have hp : pow2 v ≤ 16 := by
    rcases lev (qg5.2 h.2.1) with rfl | rfl | rfl | rfl | rfl <;> decide
  have hi : inR b 0 1 = true := qg5.2 (by omega)
  simp (disch := omega) only [qaf, nth0, nth1, nth2, nth3, bit, qcw, qcx, qc8, qdd, qde, qdf, qdg, qdh, qdi, qdj, qcy, qcz, qc0, qc1, qc2, qc3, qc4, qc5, qc6, qc7, qc9, qda, qdb, qdc, qni, qnh, qnj, qkc, qky, qkz, qg6, qag, qm5, nI, qds, qdq, Bool.not_true, Bool.not_false, Bool.and_true, Bool.true_and, Bool.and_false, Bool.false_and, Bool.or_true, Bool.true_or, Bool.or_false, Bool.false_or, beq_self_eq_true, dTT, dFF, dT, dF, bigI, big0, qkb, qn6, qn7, List.length_set, List.length_replicate, Int.toNat_natCast, qcu, qcv, imax, imin, qb5, hid, qck, hi]
end Go.Proofs.YtfgccfajhedgdaaGreat
end
section
namespace Go.Proofs.YtfgccfajhedgdaaGreat
open Go.Ev
set_option maxRecDepth 20000
theorem qne {α : Type} (l : List α) (i : Nat) : List.take (l.length - i) (List.drop i l) = l.drop i := by
  apply List.take_of_length_le; rw [List.length_drop]; omega
theorem ton0 : Int.toNat 0 = 0 := Eq.trans rfl rfl
theorem qco (k : Nat) (hk : 2000000 ≤ k) (a0 : Int) (a1z : Bool) (a1 : List Cell) (i : Nat) (hl : (a1.length : Int) ≤ 1000000) (hi : i < a1.length) (hid : idOk (a1.getD i zz3).1 (a1.getD i zz3).2.1 (a1.getD i zz3).2.2 = true) (hv : (a1.getD i zz3).2.1 < 4) : go (k + 4) spec_l05Split [.agg [.int .i64 a0, .arr false a1z (.r3 a1)], .int .i64 (i : Int)] = some [.agg [.int .i64 a0, .arr true false (.r3 (qmv a1 i))]] := by
  rw [qgf]
  have cA := qb2 k (by omega) _ _ _ 0 hid hv (Or.inl rfl)
  have cB := qb2 k (by omega) _ _ _ 1 hid hv (Or.inr rfl)
  rw [Int.add_zero] at cA
  have l1 : (a1.take i).length = i := by rw [List.length_take]; omega
  have l2 : ∀ x y : Cell, (a1.take i ++ [x, y]).length = i + 2 := fun x y => by rw [List.length_append, l1]; rfl
  have l3 : ∀ x y : Cell, (a1.take i ++ [x, y] ++ a1.drop (i + 1)).length = a1.length + 1 := fun x y => by rw [List.length_append, l2, List.length_drop]; omega
  simp (disch := omega) only [qaf, nth0, nth1, nth2, nth3, bit, qcw, qcx, qc8, qdd, qde, qdf, qdg, qdh, qdi, qdj, qcy, qcz, qc0, qc1, qc2, qc3, qc4, qc5, qc6, qc7, qc9, qda, qdb, qdc, qni, qnh, qnj, qkc, qky, qkz, qg6, qag, qm5, nI, qds, qdq, Bool.not_true, Bool.not_false, Bool.and_true, Bool.true_and, Bool.and_false, Bool.false_and, Bool.or_true, Bool.true_or, Bool.or_false, Bool.false_or, beq_self_eq_true, dTT, dFF, dT, dF, bigI, big0, qkb, qn6, qn7, List.length_set, List.length_replicate, Int.toNat_natCast, qcu, qcv, imax, imin, cA, cB, ton0, Nat.sub_zero, Nat.zero_add, List.drop_zero, qne, l1, l2, l3]
  rw [List.append_assoc]; rfl
end Go.Proofs.YtfgccfajhedgdaaGreat
end
section
namespace Go.Proofs.YtfgccfajhedgdaaGreat
open Go.RowKit Go.Lib Go.Ev Go.Shelf
def qac (Q : Nat → Ending → World → Prop) (en : Ending) (w' : World) : Prop := ∃ q, Q q en w'

theorem qg2 : (Tryz.prog.info? 3).map (fun i => (i.zero, i.size, i.bytes)) = some (some (.int .i64 0), 1, 8) := by kernel_rfl
theorem qnd : (Tryz.prog.info? 3).map (·.size) = some 1 := by kernel_rfl
theorem qnn : Tryz.prog.underlying 25 = some (.slice 3) := by kernel_rfl
theorem qm7 : ∀ w, (Go.sizeOf 3).run Tryz.prog w = .ok 1 w := fun w => by
  obtain ⟨i0, hi, h0, h1, h2⟩ := info_parts qg2
  simp [Go.sizeOf, typeInfo, hi, h1]

set_option maxHeartbeats 4000000 in
set_option maxRecDepth 100000 in
theorem qk3 (g n c i j m vc c1 : Nat) (a b1 : Addr) (w w1 : World) (hij : i < j) (hj : j = n) (hnc : n ≤ c) (hn : n ≤ 1099511627776) (hc : c ≤ 9223372036854775807) (hm : n ≤ i + m) (hmb : m ≤ 1099511627776)
    (hr : (Builtin.append_ #[25, 25] 25 #[.slice (some ⟨g, 0, none⟩) i c, .slice (some a) m vc]).run Tryz.prog w = .ok (.slice (some b1) (i + m) c1) w1) :
    Calls Tryz.prog 88 #[.slice (some ⟨g, 0, none⟩) n c, .int .i64 i, .int .i64 j, .slice (some a) m vc] w fun en w' => en = .returned (.slice (some b1) (i + m) c1) ∧ w' = w1 := by
  subst hj
  have t0 := qnn
  have hz1 : ¬ ((i : Int) = (j : Int)) := by omega
  have hb6 : j ≤ j := by omega
  have hb7 : (j : Int) ≤ (j : Int) := by omega
  have mixed : Tryz.prog.follows Departure.mixedOrders = true := by kernel_rfl
  have hlen : IntKind.i64.wrap ((i : Int) + (m : Int)) = (i : Int) + (m : Int) := by rw [IntKind.wrap_i64]; omega
  have hb1 : (0 : Int) ≤ (i : Int) + (m : Int) := by omega
  have htn : ((i : Int) + (m : Int)).toNat = i + m := by omega
  have hb8 : ¬ ((i + m : Nat) < j) := by omega
  go_enter Tryz.func88, Tryz.ntmps88
  go_wp2_with (at_builtin; refine Lib.wpList_append_run _ rfl _ _ _ _ rfl _ _ rfl rfl _ _ hr ?_)
  go_ret
  exact ⟨rfl, rfl⟩
set_option maxHeartbeats 4000000 in
set_option maxRecDepth 100000 in
theorem qk1 (g n c i j m vc c1 : Nat) (a b1 : Addr) (w w1 w2 : World) (hij : i < j) (hj : j = n) (hnc : n ≤ c) (hn : n ≤ 1099511627776) (hc : c ≤ 9223372036854775807) (hm : i + m < n) (hmb : m ≤ 1099511627776)
    (hr : (Builtin.append_ #[25, 25] 25 #[.slice (some ⟨g, 0, none⟩) i c, .slice (some a) m vc]).run Tryz.prog w = .ok (.slice (some b1) (i + m) c1) w1)
    (hk : ∀ ty kc, (Builtin.clear_ #[25] ty #[.slice (some ⟨g, i + m, none⟩) (n - (i + m)) kc]).run Tryz.prog w1 = .ok (.tuple #[]) w2) :
    Calls Tryz.prog 88 #[.slice (some ⟨g, 0, none⟩) n c, .int .i64 i, .int .i64 j, .slice (some a) m vc] w fun en w' => en = .returned (.slice (some b1) (i + m) c1) ∧ w' = w2 := by
  subst hj
  have t0 := qnn
  have hz1 : ¬ ((i : Int) = (j : Int)) := by omega
  have hb6 : j ≤ j := by omega
  have hb7 : (j : Int) ≤ (j : Int) := by omega
  have mixed : Tryz.prog.follows Departure.mixedOrders = true := by kernel_rfl
  have hlen : IntKind.i64.wrap ((i : Int) + (m : Int)) = (i : Int) + (m : Int) := by rw [IntKind.wrap_i64]; omega
  have hb1 : (0 : Int) ≤ (i : Int) + (m : Int) := by omega
  have htn : ((i : Int) + (m : Int)).toNat = i + m := by omega
  have hb8 : (i + m : Nat) < j := by omega
  have hb9 : ¬ (c = i + m) := by omega
  go_enter Tryz.func88, Tryz.ntmps88
  go_wp2_with (at_builtin; refine Lib.wpList_append_run _ rfl _ _ _ _ rfl _ _ rfl rfl _ _ hr ?_)
  go_ret
  exact ⟨rfl, rfl⟩
set_option maxHeartbeats 4000000 in
set_option maxRecDepth 100000 in
theorem qlb (g n c i j m vc : Nat) (a : Addr) (w : World) (W1 W2 : Nat → World) (hij : i < j) (hj : j < n) (hnc : n ≤ c) (hn : n ≤ 1099511627776) (hc : c ≤ 9223372036854775807) (hm : j < i + m) (hmb : m ≤ 1099511627776) (hroom : i + m + (n - j) ≤ c)
    (hov : ∀ q lb cb, (callFunc 96 #[.slice (some ⟨g, i + m, none⟩) lb cb, .slice (some a) m vc]).run Tryz.prog (w.drewN q) = .ok (.value (.bool false)) (w.drewN q))
    (hcpa : ∀ q ty dc sc, (Builtin.copy_ #[25, 25] ty #[.slice (some ⟨g, i + m, none⟩) (n - j) dc, .slice (some ⟨g, j, none⟩) (n - j) sc]).run Tryz.prog (w.drewN q) = .ok (goInt (n - j : Nat)) (W1 q))
    (hcpb : ∀ q ty dc, (Builtin.copy_ #[25, 25] ty #[.slice (some ⟨g, i, none⟩) (i + m + (n - j) - i) dc, .slice (some a) m vc]).run Tryz.prog (W1 q) = .ok (goInt m) (W2 q)) :
    Calls Tryz.prog 88 #[.slice (some ⟨g, 0, none⟩) n c, .int .i64 i, .int .i64 j, .slice (some a) m vc] w (qac fun q en w' => en = .returned (.slice (some ⟨g, 0, none⟩) (i + m + (n - j)) c) ∧ w' = W2 q) := by
  have t0 := qnn
  have hz1 : ¬ ((i : Int) = (j : Int)) := by omega
  have hb6 : j ≤ n := by omega
  have hb7 : (j : Int) ≤ (n : Int) := by omega
  have mixed : Tryz.prog.follows Departure.mixedOrders = true := by kernel_rfl
  have hlen : IntKind.i64.wrap ((i : Int) + (m : Int)) = (i : Int) + (m : Int) := by rw [IntKind.wrap_i64]; omega
  have hb1 : (0 : Int) ≤ (i : Int) + (m : Int) := by omega
  have htn : ((i : Int) + (m : Int)).toNat = i + m := by omega
  have hz2 : ¬ ((j : Int) = (n : Int)) := by omega
  have hci : ¬ (c = i) := by omega
  have hcj : ¬ (c = j) := by omega
  have hw0 : IntKind.i64.wrap ((i : Int) + (m : Int) + ((n - j : Nat) : Int)) = (i : Int) + (m : Int) + ((n - j : Nat) : Int) := by rw [IntKind.wrap_i64]; omega
  have hb3 : (i : Int) + (m : Int) ≤ (i : Int) + (m : Int) + ((n - j : Nat) : Int) := by omega
  have hb4 : (i : Int) ≤ (i : Int) + (m : Int) + ((n - j : Nat) : Int) := by omega
  have hcm : ¬ (c = i + m) := by omega
  go_enter Tryz.func88, Tryz.ntmps88
  go_wp2_with fail
  go_quiet (fail)
  go_wp2_with (simp only [hov])
  go_region_law_o (fail)
  go_wp2
  go_ret
  exact ⟨_, rfl, rfl⟩
set_option maxHeartbeats 4000000 in
set_option maxRecDepth 100000 in
theorem qk7 (g n c i j m vc : Nat) (a : Addr) (w : World) (W1 W2 W3 : Nat → World) (hij : i < j) (hj : j < n) (hnc : n ≤ c) (hn : n ≤ 1099511627776) (hc : c ≤ 9223372036854775807) (hm : i + m < j) (hmb : m ≤ 1099511627776)
    (hcpa : ∀ q ty dc, (Builtin.copy_ #[25, 25] ty #[.slice (some ⟨g, i, none⟩) (i + m + (n - j) - i) dc, .slice (some a) m vc]).run Tryz.prog (w.drewN q) = .ok (goInt m) (W1 q))
    (hcpb : ∀ q ty dc sc, (Builtin.copy_ #[25, 25] ty #[.slice (some ⟨g, i + m, none⟩) (n - j) dc, .slice (some ⟨g, j, none⟩) (n - j) sc]).run Tryz.prog (W1 q).drew = .ok (goInt (n - j : Nat)) (W2 q))
    (hk : ∀ q ty kc, (Builtin.clear_ #[25] ty #[.slice (some ⟨g, i + m + (n - j), none⟩) (n - (i + m + (n - j))) kc]).run Tryz.prog (W2 q) = .ok (.tuple #[]) (W3 q)) :
    Calls Tryz.prog 88 #[.slice (some ⟨g, 0, none⟩) n c, .int .i64 i, .int .i64 j, .slice (some a) m vc] w (qac fun q en w' => en = .returned (.slice (some ⟨g, 0, none⟩) (i + m + (n - j)) c) ∧ w' = W3 q) := by
  have t0 := qnn
  have hz1 : ¬ ((i : Int) = (j : Int)) := by omega
  have hb6 : j ≤ n := by omega
  have hb7 : (j : Int) ≤ (n : Int) := by omega
  have mixed : Tryz.prog.follows Departure.mixedOrders = true := by kernel_rfl
  have hlen : IntKind.i64.wrap ((i : Int) + (m : Int)) = (i : Int) + (m : Int) := by rw [IntKind.wrap_i64]; omega
  have hb1 : (0 : Int) ≤ (i : Int) + (m : Int) := by omega
  have htn : ((i : Int) + (m : Int)).toNat = i + m := by omega
  have hz2 : ¬ ((j : Int) = (n : Int)) := by omega
  have hci : ¬ (c = i) := by omega
  have hcj : ¬ (c = j) := by omega
  have hw0 : IntKind.i64.wrap ((i : Int) + (m : Int) + ((n - j : Nat) : Int)) = (i : Int) + (m : Int) + ((n - j : Nat) : Int) := by rw [IntKind.wrap_i64]; omega
  have hb3 : (i : Int) + (m : Int) ≤ (i : Int) + (m : Int) + ((n - j : Nat) : Int) := by omega
  have hb4 : (i : Int) ≤ (i : Int) + (m : Int) + ((n - j : Nat) : Int) := by omega
  have hcm : ¬ (c = i + m) := by omega
  have hct : ¬ (c = i + m + (n - j)) := by omega
  have htt : ((i : Int) + (m : Int) + ((n - j : Nat) : Int)).toNat = i + m + (n - j) := by omega
  have hb8 : (i : Int) + (m : Int) + ((n - j : Nat) : Int) ≤ (n : Int) := by omega
  go_enter Tryz.func88, Tryz.ntmps88
  go_wp2_with fail
  go_quiet (fail)
  go_wp2
  go_region_law_o (fail)
  go_wp2
  go_ret
  exact ⟨_, rfl, rfl⟩
set_option maxHeartbeats 4000000 in
set_option maxRecDepth 100000 in
theorem qk9 (g n c i j m vc N : Nat) (a : Addr) (w : World) (G : Nat → Nat) (W1 W2 W3 : Nat → World) (hij : i < j) (hj : j < n) (hnc : n ≤ c) (hn : n ≤ 1099511627776) (hc : c ≤ 9223372036854775807) (hmb : m ≤ 1099511627776) (hroom : c < i + m + (n - j)) (hG : ∀ q, i + m + (n - j) ≤ G q)
    (hr : ∀ q, (Builtin.append_ #[25, 3] 25 #[.slice (some ⟨g, 0, none⟩) i c, .int .i64 ((i : Int) + (m : Int) + ((n - j : Nat) : Int) - (i : Int))]).run Tryz.prog (w.drewN q) = .ok (.slice (some ⟨N, 0, none⟩) (i + m + (n - j)) (G q)) (W1 q))
    (hcpa : ∀ q ty dc, (Builtin.copy_ #[25, 25] ty #[.slice (some ⟨N, i, none⟩) (i + m + (n - j) - i) dc, .slice (some a) m vc]).run Tryz.prog (W1 q) = .ok (goInt m) (W2 q))
    (hcpb : ∀ q ty dc sc, (Builtin.copy_ #[25, 25] ty #[.slice (some ⟨N, i + m, none⟩) (n - j) dc, .slice (some ⟨g, j, none⟩) (n - j) sc]).run Tryz.prog (W2 q).drew = .ok (goInt (n - j : Nat)) (W3 q)) :
    Calls Tryz.prog 88 #[.slice (some ⟨g, 0, none⟩) n c, .int .i64 i, .int .i64 j, .slice (some a) m vc] w (qac fun q en w' => en = .returned (.slice (some ⟨N, 0, none⟩) (i + m + (n - j)) (G q)) ∧ w' = W3 q) := by
  have t0 := qnn
  have hz1 : ¬ ((i : Int) = (j : Int)) := by omega
  have hb6 : j ≤ n := by omega
  have hb7 : (j : Int) ≤ (n : Int) := by omega
  have mixed : Tryz.prog.follows Departure.mixedOrders = true := by kernel_rfl
  have hlen : IntKind.i64.wrap ((i : Int) + (m : Int)) = (i : Int) + (m : Int) := by rw [IntKind.wrap_i64]; omega
  have hb1 : (0 : Int) ≤ (i : Int) + (m : Int) := by omega
  have htn : ((i : Int) + (m : Int)).toNat = i + m := by omega
  have hz2 : ¬ ((j : Int) = (n : Int)) := by omega
  have hci : ¬ (c = i) := by omega
  have hcj : ¬ (c = j) := by omega
  have hw0 : IntKind.i64.wrap ((i : Int) + (m : Int) + ((n - j : Nat) : Int)) = (i : Int) + (m : Int) + ((n - j : Nat) : Int) := by rw [IntKind.wrap_i64]; omega
  have hb3 : (i : Int) + (m : Int) ≤ (i : Int) + (m : Int) + ((n - j : Nat) : Int) := by omega
  have hb4 : (i : Int) ≤ (i : Int) + (m : Int) + ((n - j : Nat) : Int) := by omega
  have hgi : ∀ q, ¬ (G q = i) := fun q => by have := hG q; omega
  have hgm : ∀ q, ¬ (G q = i + m) := fun q => by have := hG q; omega
  have hw2 : IntKind.i64.wrap ((i : Int) + (m : Int) + ((n - j : Nat) : Int) - (i : Int)) = (i : Int) + (m : Int) + ((n - j : Nat) : Int) - (i : Int) := by rw [IntKind.wrap_i64]; omega
  go_enter Tryz.func88, Tryz.ntmps88
  go_wp2_with fail
  go_quiet (fail)
  go_wp2_with (at_builtin; refine Lib.wpList_append_run _ rfl _ _ _ _ rfl _ _ rfl rfl _ _ (hr _) ?_)
  go_region_law_o (fail)
  go_wp2
  go_ret
  exact ⟨_, rfl, rfl⟩

theorem qg1 : (Tryz.prog.info? 54).map (fun i => (i.zero, i.size, i.bytes)) = some (some (.agg #[.int .i64 0, .int .i64 0, .int .i64 0]), 3, 24) := by kernel_rfl
theorem qnc : (Tryz.prog.info? 54).map (·.size) = some 3 := by kernel_rfl
theorem qnm : Tryz.prog.underlying 29 = some (.slice 54) := by kernel_rfl
theorem qm6 : ∀ w, (Go.sizeOf 54).run Tryz.prog w = .ok 3 w := fun w => by
  obtain ⟨i0, hi, h0, h1, h2⟩ := info_parts qg1
  simp [Go.sizeOf, typeInfo, hi, h1]

set_option maxHeartbeats 4000000 in
set_option maxRecDepth 100000 in
theorem qk2 (g n c i j m vc c1 : Nat) (a b1 : Addr) (w w1 : World) (hij : i < j) (hj : j = n) (hnc : n ≤ c) (hn : n ≤ 1099511627776) (hc : c ≤ 9223372036854775807) (hm : n ≤ i + m) (hmb : m ≤ 1099511627776)
    (hr : (Builtin.append_ #[29, 29] 29 #[.slice (some ⟨g, 0, none⟩) i c, .slice (some a) m vc]).run Tryz.prog w = .ok (.slice (some b1) (i + m) c1) w1) :
    Calls Tryz.prog 93 #[.slice (some ⟨g, 0, none⟩) n c, .int .i64 i, .int .i64 j, .slice (some a) m vc] w fun en w' => en = .returned (.slice (some b1) (i + m) c1) ∧ w' = w1 := by
  subst hj
  have t0 := qnm
  have hz1 : ¬ ((i : Int) = (j : Int)) := by omega
  have hb6 : j ≤ j := by omega
  have hb7 : (j : Int) ≤ (j : Int) := by omega
  have mixed : Tryz.prog.follows Departure.mixedOrders = true := by kernel_rfl
  have hlen : IntKind.i64.wrap ((i : Int) + (m : Int)) = (i : Int) + (m : Int) := by rw [IntKind.wrap_i64]; omega
  have hb1 : (0 : Int) ≤ (i : Int) + (m : Int) := by omega
  have htn : ((i : Int) + (m : Int)).toNat = i + m := by omega
  have hb8 : ¬ ((i + m : Nat) < j) := by omega
  go_enter Tryz.func93, Tryz.ntmps93
  go_wp2_with (at_builtin; refine Lib.wpList_append_run _ rfl _ _ _ _ rfl _ _ rfl rfl _ _ hr ?_)
  go_ret
  exact ⟨rfl, rfl⟩
set_option maxHeartbeats 4000000 in
set_option maxRecDepth 100000 in
theorem qk0 (g n c i j m vc c1 : Nat) (a b1 : Addr) (w w1 w2 : World) (hij : i < j) (hj : j = n) (hnc : n ≤ c) (hn : n ≤ 1099511627776) (hc : c ≤ 9223372036854775807) (hm : i + m < n) (hmb : m ≤ 1099511627776)
    (hr : (Builtin.append_ #[29, 29] 29 #[.slice (some ⟨g, 0, none⟩) i c, .slice (some a) m vc]).run Tryz.prog w = .ok (.slice (some b1) (i + m) c1) w1)
    (hk : ∀ ty kc, (Builtin.clear_ #[29] ty #[.slice (some ⟨g, (i + m) * 3, none⟩) (n - (i + m)) kc]).run Tryz.prog w1 = .ok (.tuple #[]) w2) :
    Calls Tryz.prog 93 #[.slice (some ⟨g, 0, none⟩) n c, .int .i64 i, .int .i64 j, .slice (some a) m vc] w fun en w' => en = .returned (.slice (some b1) (i + m) c1) ∧ w' = w2 := by
  subst hj
  have t0 := qnm
  have hz1 : ¬ ((i : Int) = (j : Int)) := by omega
  have hb6 : j ≤ j := by omega
  have hb7 : (j : Int) ≤ (j : Int) := by omega
  have mixed : Tryz.prog.follows Departure.mixedOrders = true := by kernel_rfl
  have hlen : IntKind.i64.wrap ((i : Int) + (m : Int)) = (i : Int) + (m : Int) := by rw [IntKind.wrap_i64]; omega
  have hb1 : (0 : Int) ≤ (i : Int) + (m : Int) := by omega
  have htn : ((i : Int) + (m : Int)).toNat = i + m := by omega
  have hb8 : (i + m : Nat) < j := by omega
  have hb9 : ¬ (c = i + m) := by omega
  go_enter Tryz.func93, Tryz.ntmps93
  go_wp2_with (at_builtin; refine Lib.wpList_append_run _ rfl _ _ _ _ rfl _ _ rfl rfl _ _ hr ?_)
  go_ret
  exact ⟨rfl, rfl⟩
set_option maxHeartbeats 4000000 in
set_option maxRecDepth 100000 in
theorem qla (g n c i j m vc : Nat) (a : Addr) (w : World) (W1 W2 : Nat → World) (hij : i < j) (hj : j < n) (hnc : n ≤ c) (hn : n ≤ 1099511627776) (hc : c ≤ 9223372036854775807) (hm : j < i + m) (hmb : m ≤ 1099511627776) (hroom : i + m + (n - j) ≤ c)
    (hov : ∀ q lb cb, (callFunc 101 #[.slice (some ⟨g, (i + m) * 3, none⟩) lb cb, .slice (some a) m vc]).run Tryz.prog (w.drewN q) = .ok (.value (.bool false)) (w.drewN q))
    (hcpa : ∀ q ty dc sc, (Builtin.copy_ #[29, 29] ty #[.slice (some ⟨g, (i + m) * 3, none⟩) (n - j) dc, .slice (some ⟨g, (j) * 3, none⟩) (n - j) sc]).run Tryz.prog (w.drewN q) = .ok (goInt (n - j : Nat)) (W1 q))
    (hcpb : ∀ q ty dc, (Builtin.copy_ #[29, 29] ty #[.slice (some ⟨g, (i) * 3, none⟩) (i + m + (n - j) - i) dc, .slice (some a) m vc]).run Tryz.prog (W1 q) = .ok (goInt m) (W2 q)) :
    Calls Tryz.prog 93 #[.slice (some ⟨g, 0, none⟩) n c, .int .i64 i, .int .i64 j, .slice (some a) m vc] w (qac fun q en w' => en = .returned (.slice (some ⟨g, 0, none⟩) (i + m + (n - j)) c) ∧ w' = W2 q) := by
  have t0 := qnm
  have hz1 : ¬ ((i : Int) = (j : Int)) := by omega
  have hb6 : j ≤ n := by omega
  have hb7 : (j : Int) ≤ (n : Int) := by omega
  have mixed : Tryz.prog.follows Departure.mixedOrders = true := by kernel_rfl
  have hlen : IntKind.i64.wrap ((i : Int) + (m : Int)) = (i : Int) + (m : Int) := by rw [IntKind.wrap_i64]; omega
  have hb1 : (0 : Int) ≤ (i : Int) + (m : Int) := by omega
  have htn : ((i : Int) + (m : Int)).toNat = i + m := by omega
  have hz2 : ¬ ((j : Int) = (n : Int)) := by omega
  have hci : ¬ (c = i) := by omega
  have hcj : ¬ (c = j) := by omega
  have hw0 : IntKind.i64.wrap ((i : Int) + (m : Int) + ((n - j : Nat) : Int)) = (i : Int) + (m : Int) + ((n - j : Nat) : Int) := by rw [IntKind.wrap_i64]; omega
  have hb3 : (i : Int) + (m : Int) ≤ (i : Int) + (m : Int) + ((n - j : Nat) : Int) := by omega
  have hb4 : (i : Int) ≤ (i : Int) + (m : Int) + ((n - j : Nat) : Int) := by omega
  have hcm : ¬ (c = i + m) := by omega
  go_enter Tryz.func93, Tryz.ntmps93
  go_wp2_with fail
  go_quiet (fail)
  go_wp2_with (simp only [hov])
  go_region_law_o (fail)
  go_wp2
  go_ret
  exact ⟨_, rfl, rfl⟩
set_option maxHeartbeats 4000000 in
set_option maxRecDepth 100000 in
theorem qk6 (g n c i j m vc : Nat) (a : Addr) (w : World) (W1 W2 W3 : Nat → World) (hij : i < j) (hj : j < n) (hnc : n ≤ c) (hn : n ≤ 1099511627776) (hc : c ≤ 9223372036854775807) (hm : i + m < j) (hmb : m ≤ 1099511627776)
    (hcpa : ∀ q ty dc, (Builtin.copy_ #[29, 29] ty #[.slice (some ⟨g, (i) * 3, none⟩) (i + m + (n - j) - i) dc, .slice (some a) m vc]).run Tryz.prog (w.drewN q) = .ok (goInt m) (W1 q))
    (hcpb : ∀ q ty dc sc, (Builtin.copy_ #[29, 29] ty #[.slice (some ⟨g, (i + m) * 3, none⟩) (n - j) dc, .slice (some ⟨g, (j) * 3, none⟩) (n - j) sc]).run Tryz.prog (W1 q).drew = .ok (goInt (n - j : Nat)) (W2 q))
    (hk : ∀ q ty kc, (Builtin.clear_ #[29] ty #[.slice (some ⟨g, (i + m + (n - j)) * 3, none⟩) (n - (i + m + (n - j))) kc]).run Tryz.prog (W2 q) = .ok (.tuple #[]) (W3 q)) :
    Calls Tryz.prog 93 #[.slice (some ⟨g, 0, none⟩) n c, .int .i64 i, .int .i64 j, .slice (some a) m vc] w (qac fun q en w' => en = .returned (.slice (some ⟨g, 0, none⟩) (i + m + (n - j)) c) ∧ w' = W3 q) := by
  have t0 := qnm
  have hz1 : ¬ ((i : Int) = (j : Int)) := by omega
  have hb6 : j ≤ n := by omega
  have hb7 : (j : Int) ≤ (n : Int) := by omega
  have mixed : Tryz.prog.follows Departure.mixedOrders = true := by kernel_rfl
  have hlen : IntKind.i64.wrap ((i : Int) + (m : Int)) = (i : Int) + (m : Int) := by rw [IntKind.wrap_i64]; omega
  have hb1 : (0 : Int) ≤ (i : Int) + (m : Int) := by omega
  have htn : ((i : Int) + (m : Int)).toNat = i + m := by omega
  have hz2 : ¬ ((j : Int) = (n : Int)) := by omega
  have hci : ¬ (c = i) := by omega
  have hcj : ¬ (c = j) := by omega
  have hw0 : IntKind.i64.wrap ((i : Int) + (m : Int) + ((n - j : Nat) : Int)) = (i : Int) + (m : Int) + ((n - j : Nat) : Int) := by rw [IntKind.wrap_i64]; omega
  have hb3 : (i : Int) + (m : Int) ≤ (i : Int) + (m : Int) + ((n - j : Nat) : Int) := by omega
  have hb4 : (i : Int) ≤ (i : Int) + (m : Int) + ((n - j : Nat) : Int) := by omega
  have hcm : ¬ (c = i + m) := by omega
  have hct : ¬ (c = i + m + (n - j)) := by omega
  have htt : ((i : Int) + (m : Int) + ((n - j : Nat) : Int)).toNat = i + m + (n - j) := by omega
  have hb8 : (i : Int) + (m : Int) + ((n - j : Nat) : Int) ≤ (n : Int) := by omega
  go_enter Tryz.func93, Tryz.ntmps93
  go_wp2_with fail
  go_quiet (fail)
  go_wp2
  go_region_law_o (fail)
  go_wp2
  go_ret
  exact ⟨_, rfl, rfl⟩
set_option maxHeartbeats 4000000 in
set_option maxRecDepth 100000 in
theorem qk8 (g n c i j m vc N : Nat) (a : Addr) (w : World) (G : Nat → Nat) (W1 W2 W3 : Nat → World) (hij : i < j) (hj : j < n) (hnc : n ≤ c) (hn : n ≤ 1099511627776) (hc : c ≤ 9223372036854775807) (hmb : m ≤ 1099511627776) (hroom : c < i + m + (n - j)) (hG : ∀ q, i + m + (n - j) ≤ G q)
    (hr : ∀ q, (Builtin.append_ #[29, 3] 29 #[.slice (some ⟨g, 0, none⟩) i c, .int .i64 ((i : Int) + (m : Int) + ((n - j : Nat) : Int) - (i : Int))]).run Tryz.prog (w.drewN q) = .ok (.slice (some ⟨N, 0, none⟩) (i + m + (n - j)) (G q)) (W1 q))
    (hcpa : ∀ q ty dc, (Builtin.copy_ #[29, 29] ty #[.slice (some ⟨N, (i) * 3, none⟩) (i + m + (n - j) - i) dc, .slice (some a) m vc]).run Tryz.prog (W1 q) = .ok (goInt m) (W2 q))
    (hcpb : ∀ q ty dc sc, (Builtin.copy_ #[29, 29] ty #[.slice (some ⟨N, (i + m) * 3, none⟩) (n - j) dc, .slice (some ⟨g, (j) * 3, none⟩) (n - j) sc]).run Tryz.prog (W2 q).drew = .ok (goInt (n - j : Nat)) (W3 q)) :
    Calls Tryz.prog 93 #[.slice (some ⟨g, 0, none⟩) n c, .int .i64 i, .int .i64 j, .slice (some a) m vc] w (qac fun q en w' => en = .returned (.slice (some ⟨N, 0, none⟩) (i + m + (n - j)) (G q)) ∧ w' = W3 q) := by
  have t0 := qnm
  have hz1 : ¬ ((i : Int) = (j : Int)) := by omega
  have hb6 : j ≤ n := by omega
  have hb7 : (j : Int) ≤ (n : Int) := by omega
  have mixed : Tryz.prog.follows Departure.mixedOrders = true := by kernel_rfl
  have hlen : IntKind.i64.wrap ((i : Int) + (m : Int)) = (i : Int) + (m : Int) := by rw [IntKind.wrap_i64]; omega
  have hb1 : (0 : Int) ≤ (i : Int) + (m : Int) := by omega
  have htn : ((i : Int) + (m : Int)).toNat = i + m := by omega
  have hz2 : ¬ ((j : Int) = (n : Int)) := by omega
  have hci : ¬ (c = i) := by omega
  have hcj : ¬ (c = j) := by omega
  have hw0 : IntKind.i64.wrap ((i : Int) + (m : Int) + ((n - j : Nat) : Int)) = (i : Int) + (m : Int) + ((n - j : Nat) : Int) := by rw [IntKind.wrap_i64]; omega
  have hb3 : (i : Int) + (m : Int) ≤ (i : Int) + (m : Int) + ((n - j : Nat) : Int) := by omega
  have hb4 : (i : Int) ≤ (i : Int) + (m : Int) + ((n - j : Nat) : Int) := by omega
  have hgi : ∀ q, ¬ (G q = i) := fun q => by have := hG q; omega
  have hgm : ∀ q, ¬ (G q = i + m) := fun q => by have := hG q; omega
  have hw2 : IntKind.i64.wrap ((i : Int) + (m : Int) + ((n - j : Nat) : Int) - (i : Int)) = (i : Int) + (m : Int) + ((n - j : Nat) : Int) - (i : Int) := by rw [IntKind.wrap_i64]; omega
  go_enter Tryz.func93, Tryz.ntmps93
  go_wp2_with fail
  go_quiet (fail)
  go_wp2_with (at_builtin; refine Lib.wpList_append_run _ rfl _ _ _ _ rfl _ _ rfl rfl _ _ (hr _) ?_)
  go_region_law_o (fail)
  go_wp2
  go_ret
  exact ⟨_, rfl, rfl⟩
end Go.Proofs.YtfgccfajhedgdaaGreat
end
