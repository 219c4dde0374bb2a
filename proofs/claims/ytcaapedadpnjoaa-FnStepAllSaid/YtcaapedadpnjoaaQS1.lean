/- What the program's functions compute, and plain facts of it (part 1). No condition beyond those that each theorem states. -/
import Derived.Test.YtcaapedadpnjoaaXA
import Derived.ProofKit
set_option linter.unusedVariables false
set_option linter.unusedSimpArgs false
section
namespace Go.Proofs.Ytcaapedadpnjoaa
open Go.Ev
theorem qmn {x : Int} (h : -9223372036854775808 ≤ x) (h' : x ≤ 9223372036854775807) : IntKind.wrap .i64 x = x := by rw [IntKind.wrap_i64]; omega
theorem qmo {x : Int} (h : 0 ≤ x) (h' : x ≤ 9223372036854775807) : IntKind.wrap .u64 x = x := by rw [IntKind.wrap_u64]; omega
theorem nth0 (d0 : D) (l : List D) : nth (d0 :: l) 0 = d0 := Eq.trans rfl rfl
theorem nth1 (d0 d1 : D) (l : List D) : nth (d0 :: d1 :: l) 1 = d1 := Eq.trans rfl rfl
theorem nth2 (d0 d1 d2 : D) (l : List D) : nth (d0 :: d1 :: d2 :: l) 2 = d2 := Eq.trans rfl rfl
theorem qc7 (d0 : D) (l : List D) : (D.agg (d0 :: l)).cell 0 = d0 := Eq.trans rfl rfl
theorem qc8 (d0 d1 : D) (l : List D) : (D.agg (d0 :: d1 :: l)).cell 1 = d1 := Eq.trans rfl rfl
theorem qc9 (d0 d1 d2 : D) (l : List D) : (D.agg (d0 :: d1 :: d2 :: l)).cell 2 = d2 := Eq.trans rfl rfl
theorem qda (d0 d1 d2 d3 : D) (l : List D) : (D.agg (d0 :: d1 :: d2 :: d3 :: l)).cell 3 = d3 := Eq.trans rfl rfl
theorem qdb (d0 d1 d2 d3 d4 : D) (l : List D) : (D.agg (d0 :: d1 :: d2 :: d3 :: d4 :: l)).cell 4 = d4 := Eq.trans rfl rfl
theorem ql9 (k : IntKind) (n : Int) : (D.int k n).toInt = n := Eq.trans rfl rfl
theorem ql8 (b : Bool) : (D.bool b).toBool = b := Eq.trans rfl rfl
theorem qja (o n : Bool) (a : Arr) : (D.arr o n a).nil = n := Eq.trans rfl rfl
theorem qjs (o n : Bool) (l : List (Int × Int × Int)) : (D.arr o n (.r3 l)).r3 = l := Eq.trans rfl rfl
theorem qgi (o n : Bool) (k : IntKind) (l : List Int) : (D.arr o n (.ints k l)).ints = l := Eq.trans rfl rfl
theorem qdj {α : Type} (x y : α) : cond true x y = x := Eq.trans rfl rfl
theorem qdh {α : Type} (x y : α) : cond false x y = y := Eq.trans rfl rfl
theorem qax {α : Type} (x : List D) (f : List D → Option α) : (some x).bind f = f x := Eq.trans rfl rfl
theorem dT {p : Prop} {i : Decidable p} (h : p) : @decide p i = true := by cases i <;> simp_all
theorem dF {p : Prop} {i : Decidable p} (h : ¬p) : @decide p i = false := by cases i <;> simp_all
theorem qc6 (i : Nat) : (i : Int) + 1 = ((i + 1 : Nat) : Int) := Eq.trans rfl rfl
theorem qc5 {i : Nat} (h : 1 ≤ i) : (i : Int) - 1 = ((i - 1 : Nat) : Int) := by omega
theorem itT {α : Type} {i : Decidable True} (x y : α) : @ite α True i x y = x := by cases i with | isTrue _ => rfl | isFalse h => exact absurd trivial h
theorem niF {α : Type} {a b : Nat} {i : Decidable (a = b)} {x y : α} (h : ¬ a = b) : @ite α (a = b) i x y = y := by cases i with | isTrue e => exact absurd e h | isFalse _ => rfl
theorem imax (x y : Int) : (if x > y then x else y) = max x y := by by_cases h : x > y <;> simp only [h, if_true, if_false] <;> omega
theorem imin (x y : Int) : (if x < y then x else y) = min x y := by by_cases h : x < y <;> simp only [h, if_true, if_false] <;> omega
theorem qdk (b x : Bool) : cond (!b) (some [D.bool false]) (some [D.bool x]) = some [D.bool (b && x)] := by cases b <;> rfl
theorem qdl (b x : Bool) : cond b (some [D.bool x]) (some [D.bool false]) = some [D.bool (b && x)] := by cases b <;> rfl
theorem dTT {i : Decidable True} : @decide True i = true := by cases i with | isTrue _ => rfl | isFalse h => exact absurd trivial h
theorem qi9 {α : Type} (l : List α) : [] ++ l = l := Eq.trans rfl rfl
theorem big0 : bigLen = 1099511627776 := Eq.trans rfl rfl
theorem qdn {α : Type} {l : List α} {i : Nat} (h : i < l.length) (d : α) : l.drop i = l.getD i d :: l.drop (i + 1) := by
  rw [List.drop_eq_getElem_cons h]; simp [h]
theorem qlb {α : Type} (l : List α) (i j : Nat) (x d : α) : (l.set i x).getD j d = if i = j ∧ i < l.length then x else l.getD j d := by
  simp only [List.getD_eq_getElem?_getD, List.getElem?_set]
  by_cases h : i = j
  · subst h
    by_cases h2 : i < l.length
    · simp [h2]
    · simp [h2]
  · simp [h]
theorem qf8 {α : Type} {l : List α} {i : Nat} (h : l.length ≤ i) (d : α) : l.getD i d = d := by simp [h]
theorem qf9 {α : Type} {l : List α} {i : Nat} (h : i < l.length) (d : α) : l.getD i d ∈ l := by simp [h]
end Go.Proofs.Ytcaapedadpnjoaa
end
section
namespace Go.Proofs.Ytcaapedadpnjoaa
open Go.Ev
theorem qfe (k : Nat) (a b c : Int) : go (k + 1) spec_l01In [(.int .i64 (a)), (.int .i64 (b)), (.int .i64 (c))] =
 cond (decide (b ≤ a))
 (some [(.bool (decide (a ≤ c)))])
 (some [(.bool (false))]) := by kernel_rfl
theorem qem (k : Nat) (a b c : Int) : go (k + 1) impl_within [(.int .i64 (a)), (.int .i64 (b)), (.int .i64 (c))] =
 cond (decide (b ≤ a))
 (some [(.bool (decide (a ≤ c)))])
 (some [(.bool (false))]) := by kernel_rfl
theorem qek (k : Nat) (a : Int) : go (k + 1) impl_isLevel [(.int .i64 (a))] =
 (go k impl_within [(.int .i64 (a)), (.int .i64 (0 : Int)), (.int .i64 ((4 : Int)))]).bind fun r0 =>
 some [(.bool (bit (nth r0 0)))] := by kernel_rfl
theorem qe0 (k : Nat) (a0 a1 a2 : Int) : go (k + 1) spec_IdOk [(.agg [(.int .i64 (a0)), (.int .i64 (a1)), (.int .i64 (a2))])] =
 (go k spec_l01In [(.int .i64 (a0)), (.int .i64 (0 : Int)), (.int .i64 ((7 : Int)))]).bind fun r0 =>
 cond (bit (nth r0 0))
 ((go k spec_l01In [(.int .i64 (a1)), (.int .i64 (0 : Int)), (.int .i64 ((4 : Int)))]).bind fun r1 =>
 cond (bit (nth r1 0))
 (cond (decide ((0 : Int) ≤ a2))
 (cond (decide ((0 : Int) ≤ IntKind.wrap IntKind.u64 a1))
 (some [(.bool (decide (a2 < IntKind.wrap .i64 ((1 : Int) * (2 : Int) ^ shiftN .i64 (IntKind.wrap IntKind.u64 a1)))))])
 (none))
 (some [(.bool (false))]))
 (some [(.bool (false))]))
 (some [(.bool (false))]) := by kernel_rfl
theorem qdt (k : Nat) (a0 a1 a2 : Int) : go (k + 1) impl_IdOk [(.agg [(.int .i64 (a0)), (.int .i64 (a1)), (.int .i64 (a2))])] =
 (go k impl_within [(.int .i64 (a0)), (.int .i64 (0 : Int)), (.int .i64 ((7 : Int)))]).bind fun r0 =>
 cond (bit (nth r0 0))
 ((go k impl_isLevel [(.int .i64 (a1))]).bind fun r1 =>
 cond (bit (nth r1 0))
 (cond (decide ((0 : Int) ≤ a1))
 ((go k impl_within [(.int .i64 (a2)), (.int .i64 (0 : Int)), (.int .i64 (IntKind.wrap .i64 (IntKind.wrap .i64 ((1 : Int) * (2 : Int) ^ shiftN .i64 a1) - (1 : Int))))]).bind fun r2 =>
 some [(.bool (bit (nth r2 0)))])
 (none))
 (some [(.bool (false))]))
 (some [(.bool (false))]) := by kernel_rfl
theorem qfb (k : Nat) (a : Int) : go (k + 1) spec_WidthOf [(.int .i64 (a))] =
 (go k spec_l01In [(.int .i64 (a)), (.int .i64 (0 : Int)), (.int .i64 ((4 : Int)))]).bind fun r0 =>
 cond (!bit (nth r0 0))
 (some [(.int .i64 (0 : Int))])
 (cond (decide ((0 : Int) ≤ IntKind.wrap IntKind.u64 a))
 (some [(.int .i64 (Int.fdiv (16 : Int) ((2 : Int) ^ shiftN .i64 (IntKind.wrap IntKind.u64 a))))])
 (none)) := by kernel_rfl
theorem qed (k : Nat) (a : Int) : go (k + 1) impl_WidthOf [(.int .i64 (a))] =
 (go k impl_isLevel [(.int .i64 (a))]).bind fun r0 =>
 cond (!bit (nth r0 0))
 (some [(.int .i64 (0 : Int))])
 (cond (decide ((0 : Int) ≤ a))
 (some [(.int .i64 (Int.fdiv (16 : Int) ((2 : Int) ^ shiftN .i64 a)))])
 (none)) := by kernel_rfl
theorem qe8 (k : Nat) (a0 a1 a2 : Int) : go (k + 1) spec_StartOf [(.agg [(.int .i64 (a0)), (.int .i64 (a1)), (.int .i64 (a2))])] =
 (go k spec_IdOk [(.agg [(.int .i64 (a0)), (.int .i64 (a1)), (.int .i64 (a2))])]).bind fun r0 =>
 cond (!bit (nth r0 0))
 (some [(.int .i64 ((-1 : Int)))])
 ((go k spec_WidthOf [(.int .i64 (a1))]).bind fun r1 =>
 some [(.int .i64 (IntKind.wrap .i64 (IntKind.wrap .i64 (a0 * (16 : Int)) + IntKind.wrap .i64 (a2 * D.toInt (nth r1 0)))))]) := by kernel_rfl
theorem qd3 (k : Nat) (a0 a1 a2 : Int) : go (k + 1) impl_StartOf [(.agg [(.int .i64 (a0)), (.int .i64 (a1)), (.int .i64 (a2))])] =
 (go k impl_IdOk [(.agg [(.int .i64 (a0)), (.int .i64 (a1)), (.int .i64 (a2))])]).bind fun r0 =>
 cond (!bit (nth r0 0))
 (some [(.int .i64 ((-1 : Int)))])
 ((go k impl_WidthOf [(.int .i64 (a1))]).bind fun r1 =>
 some [(.int .i64 (IntKind.wrap .i64 (IntKind.wrap .i64 (a0 * (16 : Int)) + IntKind.wrap .i64 (a2 * D.toInt (nth r1 0)))))]) := by kernel_rfl
theorem qfh (k : Nat) (a0 a1 a2 : Int) : go (k + 1) spec_l04End [(.agg [(.int .i64 (a0)), (.int .i64 (a1)), (.int .i64 (a2))])] =
 (go k spec_StartOf [(.agg [(.int .i64 (a0)), (.int .i64 (a1)), (.int .i64 (a2))])]).bind fun r0 =>
 (go k spec_WidthOf [(.int .i64 (a1))]).bind fun r1 =>
 some [(.int .i64 (IntKind.wrap .i64 (D.toInt (nth r0 0) + D.toInt (nth r1 0))))] := by kernel_rfl
theorem qeh (k : Nat) (a0 a1 a2 : Int) : go (k + 1) impl_endOf [(.agg [(.int .i64 (a0)), (.int .i64 (a1)), (.int .i64 (a2))])] =
 (go k impl_StartOf [(.agg [(.int .i64 (a0)), (.int .i64 (a1)), (.int .i64 (a2))])]).bind fun r0 =>
 (go k impl_WidthOf [(.int .i64 (a1))]).bind fun r1 =>
 some [(.int .i64 (IntKind.wrap .i64 (D.toInt (nth r0 0) + D.toInt (nth r1 0))))] := by kernel_rfl
def qkw (x0 x1 : Int) (z2 : Bool) (l3 : List (Int × Int × Int)) (x4 : Int) : St := ⟨fill 45 [(1, (.ptr 1 (0) (0))), (3, (.int .i64 (x0))), (4, (.int .i64 (x1)))], [], [(.arr false (z2) (.r3 (l3))), (.box true [(.int .i64 (x4)), (.sl 0 none)])]⟩
theorem qe4 (k : Nat) (a0 : Int) (a1z : Bool) (a1 : List (Int × Int × Int)) : go (k + 1) spec_MeshOk [(.agg [(.int .i64 (a0)), (.arr false (a1z) (.r3 (a1)))])] =
 lp k spec_MeshOk [] [] 3 k (qkw (0 : Int) (0 : Int) a1z a1 a0) := by kernel_rfl
theorem qhc (k n : Nat) (fu : List (Nat × Nat)) (x0 x1 : Int) (z2 : Bool) (l3 : List (Int × Int × Int)) (x4 : Int) : lp k spec_MeshOk [] fu 3 (n + 1) (qkw x0 x1 z2 l3 x4) =
 cond (decide (x1 < nI (List.length l3)))
 (cond (decide ((0 : Int) ≤ x1) && decide (x1 < nI (List.length l3)))
 ((go k spec_IdOk [(.agg [(.int .i64 (Prod.fst (List.getD l3 (Int.toNat x1) zz3))), (.int .i64 (Prod.fst (Prod.snd (List.getD l3 (Int.toNat x1) zz3)))), (.int .i64 (Prod.snd (Prod.snd (List.getD l3 (Int.toNat x1) zz3))))])]).bind fun r0 =>
 cond (!bit (nth r0 0))
 (some [(.bool (false))])
 (cond (decide ((0 : Int) ≤ x1) && decide (x1 < nI (List.length l3)))
 ((go k spec_StartOf [(.agg [(.int .i64 (Prod.fst (List.getD l3 (Int.toNat x1) zz3))), (.int .i64 (Prod.fst (Prod.snd (List.getD l3 (Int.toNat x1) zz3)))), (.int .i64 (Prod.snd (Prod.snd (List.getD l3 (Int.toNat x1) zz3))))])]).bind fun r1 =>
 cond (!decide (D.toInt (nth r1 0) = x0))
 (some [(.bool (false))])
 (cond (decide ((0 : Int) ≤ x1) && decide (x1 < nI (List.length l3)))
 ((go k spec_l04End [(.agg [(.int .i64 (Prod.fst (List.getD l3 (Int.toNat x1) zz3))), (.int .i64 (Prod.fst (Prod.snd (List.getD l3 (Int.toNat x1) zz3)))), (.int .i64 (Prod.snd (Prod.snd (List.getD l3 (Int.toNat x1) zz3))))])]).bind fun r2 =>
 lp k spec_MeshOk [] fu 3 n (qkw (D.toInt (nth r2 0)) (IntKind.wrap .i64 (x1 + (1 : Int))) z2 l3 x4))
 (none)))
 (none)))
 (none))
 ((go k spec_l01In [(.int .i64 (x4)), (.int .i64 ((1 : Int))), (.int .i64 ((8 : Int)))]).bind fun r3 =>
 cond (bit (nth r3 0))
 (some [(.bool (decide (x0 = IntKind.wrap .i64 (x4 * (16 : Int)))))])
 (some [(.bool (false))])) := by kernel_rfl
def qkd (x0 x1 x2 : Int) (z3 : Bool) (l4 : List (Int × Int × Int)) (x5 : Int) : St := ⟨fill 35 [(1, (.ptr 1 (0) (0))), (3, (.int .i64 (x0))), (7, (.sl 0 none)), (8, (.int .i64 (x1))), (9, (.int .i64 (x2)))], [], [(.arr false (z3) (.r3 (l4))), (.box true [(.int .i64 (x5)), (.sl 0 none)])]⟩
theorem qdx (k : Nat) (a0 : Int) (a1z : Bool) (a1 : List (Int × Int × Int)) : go (k + 1) impl_MeshOk [(.agg [(.int .i64 (a0)), (.arr false (a1z) (.r3 (a1)))])] =
 lp k impl_MeshOk [] [] 3 k (qkd (0 : Int) (nI (List.length a1)) (0 : Int) a1z a1 a0) := by kernel_rfl
theorem qgt (k n : Nat) (fu : List (Nat × Nat)) (x0 x1 x2 : Int) (z3 : Bool) (l4 : List (Int × Int × Int)) (x5 : Int) : lp k impl_MeshOk [] fu 3 (n + 1) (qkd x0 x1 x2 z3 l4 x5) =
 cond (decide (x2 < x1))
 (cond (decide ((0 : Int) ≤ x2) && decide (x2 < nI (List.length l4)))
 ((go k impl_IdOk [(.agg [(.int .i64 (Prod.fst (List.getD l4 (Int.toNat x2) zz3))), (.int .i64 (Prod.fst (Prod.snd (List.getD l4 (Int.toNat x2) zz3)))), (.int .i64 (Prod.snd (Prod.snd (List.getD l4 (Int.toNat x2) zz3))))])]).bind fun r0 =>
 cond (!bit (nth r0 0))
 (some [(.bool (false))])
 ((go k impl_StartOf [(.agg [(.int .i64 (Prod.fst (List.getD l4 (Int.toNat x2) zz3))), (.int .i64 (Prod.fst (Prod.snd (List.getD l4 (Int.toNat x2) zz3)))), (.int .i64 (Prod.snd (Prod.snd (List.getD l4 (Int.toNat x2) zz3))))])]).bind fun r1 =>
 cond (!decide (D.toInt (nth r1 0) = x0))
 (some [(.bool (false))])
 ((go k impl_endOf [(.agg [(.int .i64 (Prod.fst (List.getD l4 (Int.toNat x2) zz3))), (.int .i64 (Prod.fst (Prod.snd (List.getD l4 (Int.toNat x2) zz3)))), (.int .i64 (Prod.snd (Prod.snd (List.getD l4 (Int.toNat x2) zz3))))])]).bind fun r2 =>
 lp k impl_MeshOk [] fu 3 n (qkd (D.toInt (nth r2 0)) x1 (IntKind.wrap .i64 (x2 + (1 : Int))) z3 l4 x5))))
 (none))
 ((go k impl_within [(.int .i64 (x5)), (.int .i64 ((1 : Int))), (.int .i64 ((8 : Int)))]).bind fun r3 =>
 cond (bit (nth r3 0))
 (some [(.bool (decide (x0 = IntKind.wrap .i64 (x5 * (16 : Int)))))])
 (some [(.bool (false))])) := by kernel_rfl
theorem qfl (k : Nat) (a0 : Int) (a1z : Bool) (a1 : List (Int × Int × Int)) (b : Int) : go (k + 1) spec_l05Face [(.agg [(.int .i64 (a0)), (.arr false (a1z) (.r3 (a1)))]), (.int .i64 (b))] =
 cond (decide ((0 : Int) ≤ b) && decide (b < nI (List.length a1)))
 (cond (decide ((0 : Int) ≤ IntKind.wrap .i64 (b + (1 : Int))) && decide (IntKind.wrap .i64 (b + (1 : Int)) < nI (List.length a1)))
 (some [(.int .i64 (if Prod.fst (Prod.snd (List.getD a1 (Int.toNat (IntKind.wrap .i64 (b + (1 : Int)))) zz3)) > Prod.fst (Prod.snd (List.getD a1 (Int.toNat b) zz3)) then Prod.fst (Prod.snd (List.getD a1 (Int.toNat (IntKind.wrap .i64 (b + (1 : Int)))) zz3)) else Prod.fst (Prod.snd (List.getD a1 (Int.toNat b) zz3))))])
 (none))
 (none) := by kernel_rfl
theorem qdz (k : Nat) (a0 : Int) (a1z : Bool) (a1 : List (Int × Int × Int)) (b : Int) : go (k + 1) impl_Mesh_faceLevel [(.agg [(.int .i64 (a0)), (.arr false (a1z) (.r3 (a1)))]), (.int .i64 (b))] =
 cond (decide ((0 : Int) ≤ b) && decide (b < nI (List.length a1)))
 (cond (decide ((0 : Int) ≤ IntKind.wrap .i64 (b + (1 : Int))) && decide (IntKind.wrap .i64 (b + (1 : Int)) < nI (List.length a1)))
 (some [(.int .i64 (if Prod.fst (Prod.snd (List.getD a1 (Int.toNat (IntKind.wrap .i64 (b + (1 : Int)))) zz3)) > Prod.fst (Prod.snd (List.getD a1 (Int.toNat b) zz3)) then Prod.fst (Prod.snd (List.getD a1 (Int.toNat (IntKind.wrap .i64 (b + (1 : Int)))) zz3)) else Prod.fst (Prod.snd (List.getD a1 (Int.toNat b) zz3))))])
 (none))
 (none) := by kernel_rfl
theorem qe1 (k : Nat) (a b : Int) : go (k + 1) spec_IsActive [(.int .i64 (a)), (.int .i64 (b))] =
 (go k spec_WidthOf [(.int .i64 (b))]).bind fun r0 =>
 cond (decide ((0 : Int) ≤ a))
 (cond (decide ((0 : Int) < D.toInt (nth r0 0)))
 (cond (!decide (D.toInt (nth r0 0) = (0 : Int)))
 (some [(.bool (decide (Int.tmod a (D.toInt (nth r0 0)) = (0 : Int))))])
 (none))
 (some [(.bool (false))]))
 (some [(.bool (false))]) := by kernel_rfl
theorem qdu (k : Nat) (a b : Int) : go (k + 1) impl_IsActive [(.int .i64 (a)), (.int .i64 (b))] =
 (go k impl_isLevel [(.int .i64 (b))]).bind fun r0 =>
 cond (bit (nth r0 0))
 (cond (decide ((0 : Int) ≤ a))
 ((go k impl_WidthOf [(.int .i64 (b))]).bind fun r1 =>
 cond (!decide (D.toInt (nth r1 0) = (0 : Int)))
 (some [(.bool (decide (Int.tmod a (D.toInt (nth r1 0)) = (0 : Int))))])
 (none))
 (some [(.bool (false))]))
 (some [(.bool (false))]) := by kernel_rfl
def qk2 (x0 : Int) (z1 : Bool) (l2 : List (Int × Int × Int)) (x3 : Int) : St := ⟨fill 34 [(1, (.ptr 1 (0) (0))), (3, (.int .i64 (x0)))], [], [(.arr false (z1) (.r3 (l2))), (.box true [(.int .i64 (x3)), (.sl 0 none)])]⟩
theorem qfm (k : Nat) (a0 : Int) (a1z : Bool) (a1 : List (Int × Int × Int)) : go (k + 1) spec_l05First [(.agg [(.int .i64 (a0)), (.arr false (a1z) (.r3 (a1)))])] =
 lp k spec_l05First [] [] 2 k (qk2 (0 : Int) a1z a1 a0) := by kernel_rfl
theorem qhi (k n : Nat) (fu : List (Nat × Nat)) (x0 : Int) (z1 : Bool) (l2 : List (Int × Int × Int)) (x3 : Int) : lp k spec_l05First [] fu 2 (n + 1) (qk2 x0 z1 l2 x3) =
 cond (decide (IntKind.wrap .i64 (x0 + (1 : Int)) < nI (List.length l2)))
 (cond (decide ((0 : Int) ≤ x0) && decide (x0 < nI (List.length l2)))
 (cond (decide ((0 : Int) ≤ IntKind.wrap .i64 (x0 + (1 : Int))) && decide (IntKind.wrap .i64 (x0 + (1 : Int)) < nI (List.length l2)))
 (cond (decide ((1 : Int) < IntKind.wrap .i64 (Prod.fst (Prod.snd (List.getD l2 (Int.toNat x0) zz3)) - Prod.fst (Prod.snd (List.getD l2 (Int.toNat (IntKind.wrap .i64 (x0 + (1 : Int)))) zz3)))))
 (some [(.int .i64 (x0))])
 (cond (decide (IntKind.wrap .i64 (Prod.fst (Prod.snd (List.getD l2 (Int.toNat x0) zz3)) - Prod.fst (Prod.snd (List.getD l2 (Int.toNat (IntKind.wrap .i64 (x0 + (1 : Int)))) zz3))) < (-1 : Int)))
 (some [(.int .i64 (x0))])
 (lp k spec_l05First [] fu 2 n (qk2 (IntKind.wrap .i64 (x0 + (1 : Int))) z1 l2 x3))))
 (none))
 (none))
 (some [(.int .i64 ((-1 : Int)))]) := by kernel_rfl
def qkf (x0 x1 : Int) (z2 : Bool) (l3 : List (Int × Int × Int)) (x4 : Int) : St := ⟨fill 29 [(1, (.ptr 1 (0) (0))), (7, (.int .i64 (x0))), (8, (.int .i64 (x1)))], [], [(.arr false (z2) (.r3 (l3))), (.box true [(.int .i64 (x4)), (.sl 0 none)])]⟩
theorem qd0 (k : Nat) (a0 : Int) (a1z : Bool) (a1 : List (Int × Int × Int)) : go (k + 1) impl_Mesh_unbalanced [(.agg [(.int .i64 (a0)), (.arr false (a1z) (.r3 (a1)))])] =
 lp k impl_Mesh_unbalanced [] [] 2 k (qkf (IntKind.wrap .i64 (nI (List.length a1) - (1 : Int))) (0 : Int) a1z a1 a0) := by kernel_rfl
theorem qgv (k n : Nat) (fu : List (Nat × Nat)) (x0 x1 : Int) (z2 : Bool) (l3 : List (Int × Int × Int)) (x4 : Int) : lp k impl_Mesh_unbalanced [] fu 2 (n + 1) (qkf x0 x1 z2 l3 x4) =
 cond (decide (x1 < x0))
 (cond (decide ((0 : Int) ≤ x1) && decide (x1 < nI (List.length l3)))
 (cond (decide ((0 : Int) ≤ IntKind.wrap .i64 (x1 + (1 : Int))) && decide (IntKind.wrap .i64 (x1 + (1 : Int)) < nI (List.length l3)))
 ((go k impl_absolute [(.int .i64 (IntKind.wrap .i64 (Prod.fst (Prod.snd (List.getD l3 (Int.toNat x1) zz3)) - Prod.fst (Prod.snd (List.getD l3 (Int.toNat (IntKind.wrap .i64 (x1 + (1 : Int)))) zz3)))))]).bind fun r0 =>
 cond (decide ((1 : Int) < D.toInt (nth r0 0)))
 (some [(.int .i64 (x1))])
 (lp k impl_Mesh_unbalanced [] fu 2 n (qkf x0 (IntKind.wrap .i64 (x1 + (1 : Int))) z2 l3 x4)))
 (none))
 (none))
 (some [(.int .i64 ((-1 : Int)))]) := by kernel_rfl
theorem qee (k : Nat) (a : Int) : go (k + 1) impl_absolute [(.int .i64 (a))] =
 some [(.int .i64 (if IntKind.wrap .i64 ((0 : Int) - a) > a then IntKind.wrap .i64 ((0 : Int) - a) else a))] := by kernel_rfl
theorem qe2 (k : Nat) (a0 : Int) (a1z : Bool) (a1 : List (Int × Int × Int)) : go (k + 1) spec_IsBalanced [(.agg [(.int .i64 (a0)), (.arr false (a1z) (.r3 (a1)))])] =
 (go k spec_MeshOk [(.agg [(.int .i64 (a0)), (.arr false (a1z) (.r3 (a1)))])]).bind fun r0 =>
 cond (bit (nth r0 0))
 ((go k spec_l05First [(.agg [(.int .i64 (a0)), (.arr false (a1z) (.r3 (a1)))])]).bind fun r1 =>
 some [(.bool (decide (D.toInt (nth r1 0) < (0 : Int))))])
 (some [(.bool (false))]) := by kernel_rfl
theorem qdv (k : Nat) (a0 : Int) (a1z : Bool) (a1 : List (Int × Int × Int)) : go (k + 1) impl_IsBalanced [(.agg [(.int .i64 (a0)), (.arr false (a1z) (.r3 (a1)))])] =
 (go k impl_MeshOk [(.agg [(.int .i64 (a0)), (.arr false (a1z) (.r3 (a1)))])]).bind fun r0 =>
 cond (bit (nth r0 0))
 ((go k impl_Mesh_unbalanced [(.agg [(.int .i64 (a0)), (.arr false (a1z) (.r3 (a1)))])]).bind fun r1 =>
 some [(.bool (decide (D.toInt (nth r1 0) < (0 : Int))))])
 (some [(.bool (false))]) := by kernel_rfl
theorem qd1 (k : Nat) (a0 : Int) (a1z : Bool) (a1 : List (Int × Int × Int)) (b0 : Int) (b1z : Bool) (b1 : List (Int × Int × Int)) : go (k + 1) impl_SameMesh [(.agg [(.int .i64 (a0)), (.arr false (a1z) (.r3 (a1)))]), (.agg [(.int .i64 (b0)), (.arr false (b1z) (.r3 (b1)))])] =
 cond (decide (a0 = b0))
 ((go k slices_Equal_impl_Id_impl_Id [(.arr false (a1z) (.r3 (a1))), (.arr false (b1z) (.r3 (b1)))]).bind fun r0 =>
 some [(.bool (bit (nth r0 0)))])
 (some [(.bool (false))]) := by kernel_rfl
def qkq (x0 x1 : Int) (z2 : Bool) (l3 : List (Int × Int × Int)) (z4 : Bool) (l5 : List (Int × Int × Int)) : St := ⟨fill 26 [(0, (.sl 0 none)), (1, (.sl 1 none)), (12, (.int .i64 (x0))), (13, (.int .i64 (x1)))], [], [(.arr false (z2) (.r3 (l3))), (.arr false (z4) (.r3 (l5)))]⟩
theorem qet (k : Nat) (az : Bool) (a : List (Int × Int × Int)) (bz : Bool) (b : List (Int × Int × Int)) : go (k + 1) slices_Equal_impl_Id_impl_Id [(.arr false (az) (.r3 (a))), (.arr false (bz) (.r3 (b)))] =
 cond (!decide (nI (List.length a) = nI (List.length b)))
 (some [(.bool (false))])
 (lp k slices_Equal_impl_Id_impl_Id [] [] 4 k (qkq (nI (List.length a)) (0 : Int) az a bz b)) := by kernel_rfl
theorem qg6 (k n : Nat) (fu : List (Nat × Nat)) (x0 x1 : Int) (z2 : Bool) (l3 : List (Int × Int × Int)) (z4 : Bool) (l5 : List (Int × Int × Int)) : lp k slices_Equal_impl_Id_impl_Id [] fu 4 (n + 1) (qkq x0 x1 z2 l3 z4 l5) =
 cond (decide (x1 < x0))
 (cond (decide ((0 : Int) ≤ x1) && decide (x1 < nI (List.length l3)))
 (cond (decide ((0 : Int) ≤ x1) && decide (x1 < nI (List.length l5)))
 (cond (!(decide (Prod.fst (List.getD l3 (Int.toNat x1) zz3) = Prod.fst (List.getD l5 (Int.toNat x1) zz3)) && (decide (Prod.fst (Prod.snd (List.getD l3 (Int.toNat x1) zz3)) = Prod.fst (Prod.snd (List.getD l5 (Int.toNat x1) zz3))) && (decide (Prod.snd (Prod.snd (List.getD l3 (Int.toNat x1) zz3)) = Prod.snd (Prod.snd (List.getD l5 (Int.toNat x1) zz3))) && true))))
 (some [(.bool (false))])
 (lp k slices_Equal_impl_Id_impl_Id [] fu 4 n (qkq x0 (IntKind.wrap .i64 (x1 + (1 : Int))) z2 l3 z4 l5)))
 (none))
 (none))
 (some [(.bool (true))]) := by kernel_rfl
def qkx (x0 : Int) (z1 : Bool) (l2 : List (Int × Int × Int)) (x3 : Int) (z4 : Bool) (l5 : List (Int × Int × Int)) (x6 : Int) : St := ⟨fill 38 [(2, (.ptr 1 (0) (0))), (3, (.ptr 3 (0) (0))), (5, (.int .i64 (x0)))], [], [(.arr false (z1) (.r3 (l2))), (.box true [(.int .i64 (x3)), (.sl 0 none)]), (.arr false (z4) (.r3 (l5))), (.box true [(.int .i64 (x6)), (.sl 2 none)])]⟩
theorem qe5 (k : Nat) (a0 : Int) (a1z : Bool) (a1 : List (Int × Int × Int)) (b0 : Int) (b1z : Bool) (b1 : List (Int × Int × Int)) : go (k + 1) spec_SameMesh [(.agg [(.int .i64 (a0)), (.arr false (a1z) (.r3 (a1)))]), (.agg [(.int .i64 (b0)), (.arr false (b1z) (.r3 (b1)))])] =
 cond (!decide (a0 = b0))
 (some [(.bool (false))])
 (cond (!decide (nI (List.length a1) = nI (List.length b1)))
 (some [(.bool (false))])
 (lp k spec_SameMesh [] [] 4 k (qkx (0 : Int) a1z a1 a0 b1z b1 b0))) := by kernel_rfl
theorem qhd (k n : Nat) (fu : List (Nat × Nat)) (x0 : Int) (z1 : Bool) (l2 : List (Int × Int × Int)) (x3 : Int) (z4 : Bool) (l5 : List (Int × Int × Int)) (x6 : Int) : lp k spec_SameMesh [] fu 4 (n + 1) (qkx x0 z1 l2 x3 z4 l5 x6) =
 cond (decide (x0 < nI (List.length l2)))
 (cond (decide ((0 : Int) ≤ x0) && decide (x0 < nI (List.length l2)))
 (cond (decide ((0 : Int) ≤ x0) && decide (x0 < nI (List.length l5)))
 (cond (!(decide (Prod.fst (List.getD l2 (Int.toNat x0) zz3) = Prod.fst (List.getD l5 (Int.toNat x0) zz3)) && (decide (Prod.fst (Prod.snd (List.getD l2 (Int.toNat x0) zz3)) = Prod.fst (Prod.snd (List.getD l5 (Int.toNat x0) zz3))) && (decide (Prod.snd (Prod.snd (List.getD l2 (Int.toNat x0) zz3)) = Prod.snd (Prod.snd (List.getD l5 (Int.toNat x0) zz3))) && true))))
 (some [(.bool (false))])
 (lp k spec_SameMesh [] fu 4 n (qkx (IntKind.wrap .i64 (x0 + (1 : Int))) z1 l2 x3 z4 l5 x6)))
 (none))
 (none))
 (some [(.bool (true))]) := by kernel_rfl

end Go.Proofs.Ytcaapedadpnjoaa
end
section
namespace Go.Proofs.Ytcaapedadpnjoaa
open Go.Ev
def inR (a b c : Int) : Bool := decide (b ≤ a) && decide (a ≤ c)
theorem qgh {a b c : Int} : inR a b c = true ↔ b ≤ a ∧ a ≤ c := by simp [inR]
theorem qcm (k : Nat) (hk : 2000000 ≤ k) (a : Int) (b : Int) (c : Int) : go (k + 1) spec_l01In [(.int .i64 (a)), (.int .i64 (b)), (.int .i64 (c))] = some [.bool (inR a b c)] := by
  rw [qfe]; unfold inR; cases decide (b ≤ a) <;> rfl
theorem qbx (k : Nat) (hk : 2000000 ≤ k) (a : Int) (b : Int) (c : Int) : go (k + 1) impl_within [(.int .i64 (a)), (.int .i64 (b)), (.int .i64 (c))] = some [.bool (inR a b c)] := by
  rw [qem]; unfold inR; cases decide (b ≤ a) <;> rfl
def pow2 (l : Int) : Int := 2 ^ l.toNat
def idOk (r l i : Int) : Bool := inR r 0 7 && (inR l 0 4 && (decide (0 ≤ i) && decide (i < pow2 l)))
theorem lev {l : Int} (h : inR l 0 4 = true) : l = 0 ∨ l = 1 ∨ l = 2 ∨ l = 3 ∨ l = 4 := by
  simp only [inR, Bool.and_eq_true, decide_eq_true_eq] at h; omega
theorem p20 : pow2 0 = 1 := rfl
theorem p21 : pow2 1 = 2 := rfl
theorem p22 : pow2 2 = 4 := rfl
theorem p23 : pow2 3 = 8 := rfl
theorem p24 : pow2 4 = 16 := rfl
theorem sh0 : shiftN .i64 0 = 0 := by decide
theorem sh1 : shiftN .i64 1 = 1 := by decide
theorem sh2 : shiftN .i64 2 = 2 := by decide
theorem sh3 : shiftN .i64 3 = 3 := by decide
theorem sh4 : shiftN .i64 4 = 4 := by decide
theorem pw {l : Int} (h : inR l 0 4 = true) : IntKind.wrap .i64 ((1 : Int) * (2 : Int) ^ shiftN .i64 l) = pow2 l := by
  rcases lev h with rfl | rfl | rfl | rfl | rfl <;> simp [sh0, sh1, sh2, sh3, sh4, qmn, p20, p21, p22, p23, p24]
theorem lev0 {l : Int} (h : inR l 0 4 = true) : 0 ≤ l ∧ l ≤ 4 := by
  simp only [inR, Bool.and_eq_true, decide_eq_true_eq] at h; omega
theorem qjo {l : Int} (h : inR l 0 4 = true) : 1 ≤ pow2 l ∧ pow2 l ≤ 16 := by
  rcases lev h with rfl | rfl | rfl | rfl | rfl <;> simp [p20, p21, p22, p23, p24]
theorem qb8 (k : Nat) (hk : 2000000 ≤ k) (a0 : Int) (a1 : Int) (a2 : Int) : go (k + 2) spec_IdOk [(.agg [(.int .i64 (a0)), (.int .i64 (a1)), (.int .i64 (a2))])] = some [.bool (idOk a0 a1 a2)] := by
  rw [qe0]
  simp (disch := omega) only [qcm, bit, qax, nth0, ql8]
  unfold idOk
  cases h1 : inR a0 0 7 <;> cases h2 : inR a1 0 4 <;> simp only [qdj, qdh, Bool.true_and, Bool.false_and, Bool.and_false]
  have := lev0 h2
  rw [qmo (x := a1) (by omega) (by omega), pw h2]
  by_cases h3 : (0 : Int) ≤ a2
  · simp [h3, this.1]
  · simp [h3]
theorem qbq (k : Nat) (hk : 2000000 ≤ k) (a : Int) : go (k + 2) impl_isLevel [(.int .i64 (a))] = some [.bool (inR a 0 4)] := by
  rw [qek]
  simp (disch := omega) only [qbx, bit, qax, nth0, ql8]
theorem qa5 (k : Nat) (hk : 2000000 ≤ k) (a0 : Int) (a1 : Int) (a2 : Int) : go (k + 3) impl_IdOk [(.agg [(.int .i64 (a0)), (.int .i64 (a1)), (.int .i64 (a2))])] = some [.bool (idOk a0 a1 a2)] := by
  rw [qdt]
  simp (disch := omega) only [qbx, bit, qbq, qax, nth0, ql8]
  unfold idOk
  cases h1 : inR a0 0 7 <;> cases h2 : inR a1 0 4 <;> simp only [qdj, qdh, Bool.true_and, Bool.false_and, Bool.and_false]
  have := lev0 h2
  have := qjo h2
  rw [pw h2, qmn (x := pow2 a1 - 1) (by omega) (by omega)]
  rw [show decide ((0 : Int) ≤ a1) = true by simp; omega, qdj]
  have e : inR a2 0 (pow2 a1 - 1) = (decide (0 ≤ a2) && decide (a2 < pow2 a1)) := by
    unfold inR; rw [Bool.eq_iff_iff]; simp only [Bool.and_eq_true, decide_eq_true_eq]; omega
  rw [e]
def qmi (l : Int) : Int := if inR l 0 4 then 16 / pow2 l else 0
theorem qcj (k : Nat) (hk : 2000000 ≤ k) (a : Int) : go (k + 2) spec_WidthOf [(.int .i64 (a))] = some [.int .i64 (qmi a)] := by
  rw [qfb]
  simp (disch := omega) only [qcm, bit, qax, nth0, ql8, qmi]
  cases h2 : inR a 0 4
  · simp
  · rcases lev h2 with rfl | rfl | rfl | rfl | rfl <;> simp [qmo, sh0, sh1, sh2, sh3, sh4, p20, p21, p22, p23, p24] <;> decide
theorem qbf (k : Nat) (hk : 2000000 ≤ k) (a : Int) : go (k + 3) impl_WidthOf [(.int .i64 (a))] = some [.int .i64 (qmi a)] := by
  rw [qed]
  simp (disch := omega) only [qbq, bit, qax, nth0, ql8, qmi]
  cases h2 : inR a 0 4
  · simp
  · rcases lev h2 with rfl | rfl | rfl | rfl | rfl <;> simp [qmo, sh0, sh1, sh2, sh3, sh4, p20, p21, p22, p23, p24] <;> decide
def qlr (r l i : Int) : Int := if idOk r l i then r * 16 + i * qmi l else -1
theorem qmk (l : Int) : 0 ≤ qmi l ∧ qmi l ≤ 16 := by
  unfold qmi
  cases h : inR l 0 4
  · simp
  · rcases lev h with rfl | rfl | rfl | rfl | rfl <;> decide
theorem qgg {r l i : Int} (h : idOk r l i = true) : 0 ≤ r ∧ r ≤ 7 ∧ inR l 0 4 = true ∧ 0 ≤ i ∧ i < pow2 l := by
  simp only [idOk, Bool.and_eq_true, decide_eq_true_eq] at h
  obtain ⟨h1, h2, h3, h4⟩ := h
  simp only [inR, Bool.and_eq_true, decide_eq_true_eq] at h1
  exact ⟨h1.1, h1.2, h2, h3, h4⟩
theorem iw {r l i : Int} (h : idOk r l i = true) : 0 ≤ i * qmi l ∧ i * qmi l ≤ 256 := by
  obtain ⟨_, _, h2, h3, h4⟩ := qgg h
  have h5 := (qjo h2).2
  have h6 := qmk l
  have h7 : i ≤ 16 := by omega
  refine ⟨Int.mul_nonneg h3 h6.1, ?_⟩
  calc i * qmi l ≤ 16 * qmi l := Int.mul_le_mul_of_nonneg_right h7 h6.1
    _ ≤ 16 * 16 := Int.mul_le_mul_of_nonneg_left h6.2 (by omega)
theorem qls (r l i : Int) : -1 ≤ qlr r l i ∧ qlr r l i ≤ 1000 := by
  unfold qlr
  cases h : idOk r l i
  · simp
  · have := iw h; have := qgg h
    simp; omega
theorem qlu {r l i : Int} (h : idOk r l i = true) : IntKind.wrap .i64 (IntKind.wrap .i64 (r * (16 : Int)) + IntKind.wrap .i64 (i * qmi l)) = qlr r l i := by
  have h1 := iw h; have h2 := qgg h
  rw [qmn (x := r * 16) (by omega) (by omega), qmn (x := i * qmi l) (by omega) (by omega), qmn (by omega) (by omega)]
  simp [qlr, h]
theorem qcg (k : Nat) (hk : 2000000 ≤ k) (a0 : Int) (a1 : Int) (a2 : Int) : go (k + 3) spec_StartOf [(.agg [(.int .i64 (a0)), (.int .i64 (a1)), (.int .i64 (a2))])] = some [.int .i64 (qlr a0 a1 a2)] := by
  rw [qe8]
  simp (disch := omega) only [qb8, bit, qcj, qax, nth0, ql9, ql8]
  cases h : idOk a0 a1 a2
  · simp [qlr, h]
  · rw [qlu h]; rfl
theorem qbc (k : Nat) (hk : 2000000 ≤ k) (a0 : Int) (a1 : Int) (a2 : Int) : go (k + 4) impl_StartOf [(.agg [(.int .i64 (a0)), (.int .i64 (a1)), (.int .i64 (a2))])] = some [.int .i64 (qlr a0 a1 a2)] := by
  rw [qd3]
  simp (disch := omega) only [qa5, bit, qbf, qax, nth0, ql9, ql8]
  cases h : idOk a0 a1 a2
  · simp [qlr, h]
  · rw [qlu h]; rfl
theorem qfz (r l i : Int) : IntKind.wrap .i64 (qlr r l i + qmi l) = qlr r l i + qmi l := by
  have h1 := qls r l i; have h2 := qmk l
  exact qmn (by omega) (by omega)
theorem qcp (k : Nat) (hk : 2000000 ≤ k) (a0 : Int) (a1 : Int) (a2 : Int) : go (k + 4) spec_l04End [(.agg [(.int .i64 (a0)), (.int .i64 (a1)), (.int .i64 (a2))])] = some [.int .i64 (qlr a0 a1 a2 + qmi a1)] := by
  rw [qfh]
  simp (disch := omega) only [qcg, qcj, qax, nth0, ql9, qfz]
theorem qbk (k : Nat) (hk : 2000000 ≤ k) (a0 : Int) (a1 : Int) (a2 : Int) : go (k + 5) impl_endOf [(.agg [(.int .i64 (a0)), (.int .i64 (a1)), (.int .i64 (a2))])] = some [.int .i64 (qlr a0 a1 a2 + qmi a1)] := by
  rw [qeh]
  simp (disch := omega) only [qbc, qbf, qax, nth0, ql9, qfz]
abbrev Cell := Int × Int × Int
def qiy (roots : Int) : Int → List Cell → Bool
  | pos, [] => inR roots 1 8 && decide (pos = roots * 16)
  | pos, x :: rest => idOk x.1 x.2.1 x.2.2 && (decide (qlr x.1 x.2.1 x.2.2 = pos) && qiy roots (qlr x.1 x.2.1 x.2.2 + qmi x.2.1) rest)
theorem qi1 (roots pos : Int) : cond (inR roots 1 8) (some [D.bool (decide (pos = IntKind.wrap .i64 (roots * (16 : Int))))]) (some [D.bool false]) = some [D.bool (qiy roots pos [])] := by
  unfold qiy
  cases h : inR roots 1 8
  · rfl
  · simp only [inR, Bool.and_eq_true, decide_eq_true_eq] at h
    rw [qmn (by omega) (by omega)]; rfl
theorem qif (k : Nat) (hk : 2000000 ≤ k) (fu : List (Nat × Nat)) (z : Bool) (l : List Cell) (roots : Int) (hl : (l.length : Int) ≤ 1048576) : ∀ (n i : Nat) (pos : Int), i ≤ l.length → l.length - i < n →
    lp (k + 4) spec_MeshOk [] fu 3 (n) (qkw pos (i : Int) z l roots) = some [.bool (qiy roots pos (l.drop i))]
  | 0, i, pos, hi, hn => by omega
  | n + 1, i, pos, hi, hn => by
    rw [qhc]
    by_cases h : i < l.length
    · rw [qdn h zz3]
      simp (disch := omega) only [nI, dT, Bool.and_true, Int.toNat_natCast, qb8, bit, qcg, qcp, qc6, qmn, qax, nth0, ql9, qdj, ql8, qiy]
      rw [qif k hk fu z l roots hl n (i + 1) _ (by omega) (by omega)]
      simp only [qdk, qdl, Bool.and_assoc]
    · rw [List.drop_of_length_le (by omega)]
      simp (disch := omega) only [nI, dF, dT, Bool.and_false, Int.toNat_natCast, bit, qc6, qmn, qdh, qcm, qax, nth0, ql8]
      exact qi1 roots pos
theorem qcc (k : Nat) (hk : 2000000 ≤ k) (a0 : Int) (a1z : Bool) (a1 : List (Int × Int × Int)) (hl : (a1.length : Int) ≤ 1048576) : go (k + 5) spec_MeshOk [(.agg [(.int .i64 (a0)), (.arr false (a1z) (.r3 (a1)))])] = some [.bool (qiy a0 0 a1)] := by
  rw [qe4]
  exact qif k hk _ _ a1 a0 hl _ 0 0 (by omega) (by omega)
theorem qh3 (k : Nat) (hk : 2000000 ≤ k) (fu : List (Nat × Nat)) (z : Bool) (l : List Cell) (roots : Int) (hl : (l.length : Int) ≤ 1048576) : ∀ (n i : Nat) (pos : Int), i ≤ l.length → l.length - i < n →
    lp (k + 5) impl_MeshOk [] fu 3 (n) (qkd pos (l.length : Int) (i : Int) z l roots) = some [.bool (qiy roots pos (l.drop i))]
  | 0, i, pos, hi, hn => by omega
  | n + 1, i, pos, hi, hn => by
    rw [qgt]
    by_cases h : i < l.length
    · rw [qdn h zz3]
      simp (disch := omega) only [dT, nI, Bool.and_true, Int.toNat_natCast, qa5, bit, qbc, qbk, qc6, qmn, qax, nth0, ql9, ql8, qdj, qiy]
      rw [qh3 k hk fu z l roots hl n (i + 1) _ (by omega) (by omega)]
      simp only [qdk, qdl, Bool.and_assoc]
    · rw [List.drop_of_length_le (by omega)]
      simp (disch := omega) only [dF, dT, nI, Bool.and_false, Int.toNat_natCast, bit, qc6, qmn, qdh, qbx, qax, nth0, ql8]
      exact qi1 roots pos
theorem qa9 (k : Nat) (hk : 2000000 ≤ k) (a0 : Int) (a1z : Bool) (a1 : List (Int × Int × Int)) (hl : (a1.length : Int) ≤ 1048576) : go (k + 6) impl_MeshOk [(.agg [(.int .i64 (a0)), (.arr false (a1z) (.r3 (a1)))])] = some [.bool (qiy a0 0 a1)] := by
  rw [qdx]
  exact qh3 k hk _ _ a1 a0 hl _ 0 0 (by omega) (by omega)
theorem qf7 (r n : Nat) (fu : List (Nat × Nat)) : fuelOf ((r, n) :: fu) r = n := by simp [fuelOf, find]
end Go.Proofs.Ytcaapedadpnjoaa
end
section
namespace Go.Proofs.Ytcaapedadpnjoaa
open Go.Ev
def qky (x0 : Int) (z1 : Bool) (l2 : List (Int × Int × Int)) (z3 : Bool) (l4 : List Int) (z5 : Bool) (l6 : List Int) (z7 : Bool) (l8 : List Int) (x9 : Int) : St := ⟨fill 84 [(1, (.ptr 4 (0) (0))), (3, (.int .i64 (x0)))], [], [(.arr false (z1) (.r3 (l2))), (.arr false (z3) (.ints .i64 (l4))), (.arr false (z5) (.ints .i64 (l6))), (.arr false (z7) (.ints .i64 (l8))), (.box true [(.int .i64 (x9)), (.sl 0 none), (.sl 1 none), (.sl 2 none), (.sl 3 none)])]⟩
def qkz (x0 : Int) (z1 : Bool) (l2 : List (Int × Int × Int)) (z3 : Bool) (l4 : List Int) (z5 : Bool) (l6 : List Int) (z7 : Bool) (l8 : List Int) (x9 : Int) : St := ⟨fill 84 [(1, (.ptr 4 (0) (0))), (4, (.int .i64 (x0)))], [], [(.arr false (z1) (.r3 (l2))), (.arr false (z3) (.ints .i64 (l4))), (.arr false (z5) (.ints .i64 (l6))), (.arr false (z7) (.ints .i64 (l8))), (.box true [(.int .i64 (x9)), (.sl 0 none), (.sl 1 none), (.sl 2 none), (.sl 3 none)])]⟩
theorem qe9 (k : Nat) (a0 : Int) (a1z : Bool) (a1 : List (Int × Int × Int)) (a2z : Bool) (a2 : List Int) (a3z : Bool) (a3 : List Int) (a4z : Bool) (a4 : List Int) : go (k + 1) spec_StateOk [(.agg [(.int .i64 (a0)), (.arr false (a1z) (.r3 (a1))), (.arr false (a2z) (.ints .i64 (a2))), (.arr false (a3z) (.ints .i64 (a3))), (.arr false (a4z) (.ints .i64 (a4)))])] =
 (go k spec_IsBalanced [(.agg [(.int .i64 (a0)), (.arr false (a1z) (.r3 (a1)))])]).bind fun r0 =>
 cond (!bit (nth r0 0))
 (some [(.bool (false))])
 (cond (!decide (nI (List.length a2) = nI (List.length a1)))
 (some [(.bool (false))])
 (cond (!decide (nI (List.length a3) = nI (List.length a2)))
 (some [(.bool (false))])
 (cond (!decide (nI (List.length a4) = a0))
 (some [(.bool (false))])
 (lp k spec_StateOk [] [] 4 k (qky (0 : Int) a1z a1 a2z a2 a3z a3 a4z a4 a0))))) := by kernel_rfl
theorem qhe (k n : Nat) (fu : List (Nat × Nat)) (x0 : Int) (z1 : Bool) (l2 : List (Int × Int × Int)) (z3 : Bool) (l4 : List Int) (z5 : Bool) (l6 : List Int) (z7 : Bool) (l8 : List Int) (x9 : Int) : lp k spec_StateOk [] fu 4 (n + 1) (qky x0 z1 l2 z3 l4 z5 l6 z7 l8 x9) =
 cond (decide (x0 < nI (List.length l4)))
 (cond (decide ((0 : Int) ≤ x0) && decide (x0 < nI (List.length l4)))
 ((go k spec_l01In [(.int .i64 (List.getD l4 (Int.toNat x0) (0 : Int))), (.int .i64 (0 : Int)), (.int .i64 ((10000000 : Int)))]).bind fun r0 =>
 cond (!bit (nth r0 0))
 (some [(.bool (false))])
 (cond (decide ((0 : Int) ≤ x0) && decide (x0 < nI (List.length l6)))
 (cond (decide ((0 : Int) ≤ x0) && decide (x0 < nI (List.length l4)))
 ((go k spec_l01In [(.int .i64 (List.getD l6 (Int.toNat x0) (0 : Int))), (.int .i64 (0 : Int)), (.int .i64 (IntKind.wrap .i64 ((1000 : Int) * List.getD l4 (Int.toNat x0) (0 : Int))))]).bind fun r1 =>
 cond (!bit (nth r1 0))
 (some [(.bool (false))])
 (lp k spec_StateOk [] fu 4 n (qky (IntKind.wrap .i64 (x0 + (1 : Int))) z1 l2 z3 l4 z5 l6 z7 l8 x9)))
 (none))
 (none)))
 (none))
 (lp k spec_StateOk [] fu 9 k (qkz (0 : Int) z1 l2 z3 l4 z5 l6 z7 l8 x9)) := by kernel_rfl
theorem qhf (k n : Nat) (fu : List (Nat × Nat)) (x0 : Int) (z1 : Bool) (l2 : List (Int × Int × Int)) (z3 : Bool) (l4 : List Int) (z5 : Bool) (l6 : List Int) (z7 : Bool) (l8 : List Int) (x9 : Int) : lp k spec_StateOk [] fu 9 (n + 1) (qkz x0 z1 l2 z3 l4 z5 l6 z7 l8 x9) =
 cond (decide (x0 < nI (List.length l8)))
 (cond (decide ((0 : Int) ≤ x0) && decide (x0 < nI (List.length l8)))
 ((go k spec_l01In [(.int .i64 (List.getD l8 (Int.toNat x0) (0 : Int))), (.int .i64 (0 : Int)), (.int .i64 ((1000000 : Int)))]).bind fun r0 =>
 cond (!bit (nth r0 0))
 (some [(.bool (false))])
 (lp k spec_StateOk [] fu 9 n (qkz (IntKind.wrap .i64 (x0 + (1 : Int))) z1 l2 z3 l4 z5 l6 z7 l8 x9)))
 (none))
 ((go k spec_l07Sum [(.arr false (z3) (.ints .i64 (l4)))]).bind fun r1 =>
 some [(.bool (decide (D.toInt (nth r1 0) ≤ (10000000 : Int))))]) := by kernel_rfl
theorem qd4 (k : Nat) (a0 : Int) (a1z : Bool) (a1 : List (Int × Int × Int)) (a2z : Bool) (a2 : List Int) (a3z : Bool) (a3 : List Int) (a4z : Bool) (a4 : List Int) : go (k + 1) impl_StateOk [(.agg [(.int .i64 (a0)), (.arr false (a1z) (.r3 (a1))), (.arr false (a2z) (.ints .i64 (a2))), (.arr false (a3z) (.ints .i64 (a3))), (.arr false (a4z) (.ints .i64 (a4)))])] =
 (go k impl_IsBalanced [(.agg [(.int .i64 (a0)), (.arr false (a1z) (.r3 (a1)))])]).bind fun r0 =>
 cond (bit (nth r0 0))
 ((go k impl_State_hasCells [(.agg [(.int .i64 (a0)), (.arr false (a1z) (.r3 (a1))), (.arr false (a2z) (.ints .i64 (a2))), (.arr false (a3z) (.ints .i64 (a3))), (.arr false (a4z) (.ints .i64 (a4)))])]).bind fun r1 =>
 some [(.bool (bit (nth r1 0)))])
 (some [(.bool (false))]) := by kernel_rfl
def qkg (x0 x1 : Int) (z2 : Bool) (l3 : List (Int × Int × Int)) (z4 : Bool) (l5 : List Int) (z6 : Bool) (l7 : List Int) (z8 : Bool) (l9 : List Int) (x10 : Int) : St := ⟨fill 63 [(1, (.ptr 4 (0) (0))), (37, (.sl 1 none)), (38, (.int .i64 (x0))), (39, (.int .i64 (x1)))], [], [(.arr false (z2) (.r3 (l3))), (.arr false (z4) (.ints .i64 (l5))), (.arr false (z6) (.ints .i64 (l7))), (.arr false (z8) (.ints .i64 (l9))), (.box true [(.int .i64 (x10)), (.sl 0 none), (.sl 1 none), (.sl 2 none), (.sl 3 none)])]⟩
theorem qd6 (k : Nat) (a0 : Int) (a1z : Bool) (a1 : List (Int × Int × Int)) (a2z : Bool) (a2 : List Int) (a3z : Bool) (a3 : List Int) (a4z : Bool) (a4 : List Int) : go (k + 1) impl_State_hasCells [(.agg [(.int .i64 (a0)), (.arr false (a1z) (.r3 (a1))), (.arr false (a2z) (.ints .i64 (a2))), (.arr false (a3z) (.ints .i64 (a3))), (.arr false (a4z) (.ints .i64 (a4)))])] =
 cond (!decide (nI (List.length a2) = nI (List.length a1)))
 (some [(.bool (false))])
 (cond (!decide (nI (List.length a3) = nI (List.length a1)))
 (some [(.bool (false))])
 (cond (!decide (nI (List.length a4) = a0))
 (some [(.bool (false))])
 ((go k slices_ContainsFunc_int_int [(.arr false (a4z) (.ints .i64 (a4))), (.fn impl_State_hasCells_1 [])]).bind fun r0 =>
 cond (bit (nth r0 0))
 (some [(.bool (false))])
 (lp k impl_State_hasCells [] [] 5 k (qkg (nI (List.length a2)) (0 : Int) a1z a1 a2z a2 a3z a3 a4z a4 a0))))) := by kernel_rfl
theorem qgw (k n : Nat) (fu : List (Nat × Nat)) (x0 x1 : Int) (z2 : Bool) (l3 : List (Int × Int × Int)) (z4 : Bool) (l5 : List Int) (z6 : Bool) (l7 : List Int) (z8 : Bool) (l9 : List Int) (x10 : Int) : lp k impl_State_hasCells [] fu 5 (n + 1) (qkg x0 x1 z2 l3 z4 l5 z6 l7 z8 l9 x10) =
 cond (decide (x1 < x0))
 (cond (decide ((0 : Int) ≤ x1) && decide (x1 < nI (List.length l5)))
 ((go k impl_within [(.int .i64 (List.getD l5 (Int.toNat x1) (0 : Int))), (.int .i64 (0 : Int)), (.int .i64 ((10000000 : Int)))]).bind fun r0 =>
 cond (!bit (nth r0 0))
 (some [(.bool (false))])
 (cond (decide ((0 : Int) ≤ x1) && decide (x1 < nI (List.length l7)))
 ((go k impl_within [(.int .i64 (List.getD l7 (Int.toNat x1) (0 : Int))), (.int .i64 (0 : Int)), (.int .i64 (IntKind.wrap .i64 ((1000 : Int) * List.getD l5 (Int.toNat x1) (0 : Int))))]).bind fun r1 =>
 cond (!bit (nth r1 0))
 (some [(.bool (false))])
 (lp k impl_State_hasCells [] fu 5 n (qkg x0 (IntKind.wrap .i64 (x1 + (1 : Int))) z2 l3 z4 l5 z6 l7 z8 l9 x10)))
 (none)))
 (none))
 ((go k impl_sum [(.arr false (z4) (.ints .i64 (l5)))]).bind fun r2 =>
 some [(.bool (decide (D.toInt (nth r2 0) ≤ (10000000 : Int))))]) := by kernel_rfl
theorem qd7 (k : Nat) (a : Int) : go (k + 1) impl_State_hasCells_1 [(.int .i64 (a))] =
 (go k impl_isBed [(.int .i64 (a))]).bind fun r0 =>
 some [(.bool (!bit (nth r0 0)))] := by kernel_rfl
theorem qej (k : Nat) (a : Int) : go (k + 1) impl_isBed [(.int .i64 (a))] =
 (go k impl_within [(.int .i64 (a)), (.int .i64 (0 : Int)), (.int .i64 ((1000000 : Int)))]).bind fun r0 =>
 some [(.bool (bit (nth r0 0)))] := by kernel_rfl
def qk5 (x0 x1 : Int) (z2 : Bool) (l3 : List Int) : St := ⟨fill 18 [(0, (.sl 0 none)), (3, (.int .i64 (x0))), (4, (.int .i64 (x1)))], [], [(.arr false (z2) (.ints .i64 (l3)))]⟩
theorem qfr (k : Nat) (az : Bool) (a : List Int) : go (k + 1) spec_l07Sum [(.arr false (az) (.ints .i64 (a)))] =
 lp k spec_l07Sum [] [] 3 k (qk5 (0 : Int) (0 : Int) az a) := by kernel_rfl
theorem qhl (k n : Nat) (fu : List (Nat × Nat)) (x0 x1 : Int) (z2 : Bool) (l3 : List Int) : lp k spec_l07Sum [] fu 3 (n + 1) (qk5 x0 x1 z2 l3) =
 cond (decide (x1 < nI (List.length l3)))
 (cond (decide ((0 : Int) ≤ x1) && decide (x1 < nI (List.length l3)))
 (lp k spec_l07Sum [] fu 3 n (qk5 (IntKind.wrap .i64 (x0 + List.getD l3 (Int.toNat x1) (0 : Int))) (IntKind.wrap .i64 (x1 + (1 : Int))) z2 l3))
 (none))
 (some [(.int .i64 (x0))]) := by kernel_rfl
def qkk (x0 x1 x2 : Int) (z3 : Bool) (l4 : List Int) : St := ⟨fill 17 [(3, (.int .i64 (x0))), (6, (.sl 0 none)), (7, (.int .i64 (x1))), (8, (.int .i64 (x2)))], [], [(.arr false (z3) (.ints .i64 (l4)))]⟩
theorem qel (k : Nat) (az : Bool) (a : List Int) : go (k + 1) impl_sum [(.arr false (az) (.ints .i64 (a)))] =
 lp k impl_sum [] [] 3 k (qkk (0 : Int) (nI (List.length a)) (0 : Int) az a) := by kernel_rfl
theorem qg0 (k n : Nat) (fu : List (Nat × Nat)) (x0 x1 x2 : Int) (z3 : Bool) (l4 : List Int) : lp k impl_sum [] fu 3 (n + 1) (qkk x0 x1 x2 z3 l4) =
 cond (decide (x2 < x1))
 (cond (decide ((0 : Int) ≤ x2) && decide (x2 < nI (List.length l4)))
 (lp k impl_sum [] fu 3 n (qkk (IntKind.wrap .i64 (x0 + List.getD l4 (Int.toNat x2) (0 : Int))) x1 (IntKind.wrap .i64 (x2 + (1 : Int))) z3 l4))
 (none))
 (some [(.int .i64 (x0))]) := by kernel_rfl
def qks (x0 x1 : Int) (z2 : Bool) (l3 : List Int) : St := ⟨fill 19 [(0, (.sl 0 none)), (1, (.fn impl_State_hasCells_1 [])), (7, (.int .i64 (x0))), (8, (.int .i64 (x1)))], [], [(.arr false (z2) (.ints .i64 (l3)))]⟩
theorem qev (k : Nat) (v0 : Bool) (v1 : List Int) : go (k + 1) slices_IndexFunc_int_int [(.arr false (v0) (.ints .i64 (v1))), (.fn impl_State_hasCells_1 [])] =
 lp k slices_IndexFunc_int_int [] [] 2 k (qks (nI (List.length v1)) (0 : Int) v0 v1) := by kernel_rfl
theorem qg8 (k n : Nat) (fu : List (Nat × Nat)) (x0 x1 : Int) (z2 : Bool) (l3 : List Int) : lp k slices_IndexFunc_int_int [] fu 2 (n + 1) (qks x0 x1 z2 l3) =
 cond (decide (x1 < x0))
 (cond (decide ((0 : Int) ≤ x1) && decide (x1 < nI (List.length l3)))
 ((go k impl_State_hasCells_1 [(.int .i64 (List.getD l3 (Int.toNat x1) (0 : Int)))]).bind fun r0 =>
 cond (bit (nth r0 0))
 (some [(.int .i64 (x1))])
 (lp k slices_IndexFunc_int_int [] fu 2 n (qks x0 (IntKind.wrap .i64 (x1 + (1 : Int))) z2 l3)))
 (none))
 (some [(.int .i64 ((-1 : Int)))]) := by kernel_rfl
theorem qes (k : Nat) (v0 : Bool) (v1 : List Int) : go (k + 1) slices_ContainsFunc_int_int [(.arr false (v0) (.ints .i64 (v1))), (.fn impl_State_hasCells_1 [])] =
 (go k slices_IndexFunc_int_int [(.arr false (v0) (.ints .i64 (v1))), (.fn impl_State_hasCells_1 [])]).bind fun r0 =>
 some [(.bool (decide ((0 : Int) ≤ D.toInt (nth r0 0))))] := by kernel_rfl
theorem qfg (k : Nat) (a0 : Int) (a1z : Bool) (a1 : List (Int × Int × Int)) : go (k + 1) spec_l04Copy [(.agg [(.int .i64 (a0)), (.arr false (a1z) (.r3 (a1)))])] =
 cond (decide (List.length ([] ++ a1) ≤ bigLen))
 (some [(.agg [(.int .i64 (a0)), (.arr true (false && decide (List.length ([] ++ a1) = 0)) (.r3 ([] ++ a1)))])])
 (none) := by kernel_rfl
theorem qfp (k : Nat) (a0 : Int) (a1z : Bool) (a1 : List (Int × Int × Int)) (a2z : Bool) (a2 : List Int) (a3z : Bool) (a3 : List Int) (a4z : Bool) (a4 : List Int) : go (k + 1) spec_l07Copy [(.agg [(.int .i64 (a0)), (.arr false (a1z) (.r3 (a1))), (.arr false (a2z) (.ints .i64 (a2))), (.arr false (a3z) (.ints .i64 (a3))), (.arr false (a4z) (.ints .i64 (a4)))])] =
 (go k spec_l04Copy [(.agg [(.int .i64 (a0)), (.arr false (a1z) (.r3 (a1)))])]).bind fun r0 =>
 cond (decide (List.length ([] ++ a2) ≤ bigLen))
 (cond (decide (List.length ([] ++ a3) ≤ bigLen))
 (cond (decide (List.length ([] ++ a4) ≤ bigLen))
 (some [(.agg [(.int .i64 (D.toInt (D.cell 0 (nth r0 0)))), (.arr true (D.nil (D.cell 1 (nth r0 0))) (.r3 (D.r3 (D.cell 1 (nth r0 0))))), (.arr true (false && decide (List.length ([] ++ a2) = 0)) (.ints .i64 ([] ++ a2))), (.arr true (false && decide (List.length ([] ++ a3) = 0)) (.ints .i64 ([] ++ a3))), (.arr true (false && decide (List.length ([] ++ a4) = 0)) (.ints .i64 ([] ++ a4)))])])
 (none))
 (none))
 (none) := by kernel_rfl
theorem qef (k : Nat) (a0 : Int) (a1z : Bool) (a1 : List (Int × Int × Int)) : go (k + 1) impl_copyMesh [(.agg [(.int .i64 (a0)), (.arr false (a1z) (.r3 (a1)))])] =
 (go k slices_Clone_impl_Id_impl_Id [(.arr false (a1z) (.r3 (a1)))]).bind fun r0 =>
 some [(.agg [(.int .i64 (a0)), (.arr true (D.nil (nth r0 0)) (.r3 (D.r3 (nth r0 0))))])] := by kernel_rfl
theorem qeg (k : Nat) (a0 : Int) (a1z : Bool) (a1 : List (Int × Int × Int)) (a2z : Bool) (a2 : List Int) (a3z : Bool) (a3 : List Int) (a4z : Bool) (a4 : List Int) : go (k + 1) impl_copyState [(.agg [(.int .i64 (a0)), (.arr false (a1z) (.r3 (a1))), (.arr false (a2z) (.ints .i64 (a2))), (.arr false (a3z) (.ints .i64 (a3))), (.arr false (a4z) (.ints .i64 (a4)))])] =
 (go k impl_copyMesh [(.agg [(.int .i64 (a0)), (.arr false (a1z) (.r3 (a1)))])]).bind fun r0 =>
 (go k slices_Clone_int_int [(.arr false (a2z) (.ints .i64 (a2)))]).bind fun r1 =>
 (go k slices_Clone_int_int [(.arr false (a3z) (.ints .i64 (a3)))]).bind fun r2 =>
 (go k slices_Clone_int_int [(.arr false (a4z) (.ints .i64 (a4)))]).bind fun r3 =>
 some [(.agg [(.int .i64 (D.toInt (D.cell 0 (nth r0 0)))), (.arr true (D.nil (D.cell 1 (nth r0 0))) (.r3 (D.r3 (D.cell 1 (nth r0 0))))), (.arr true (D.nil (nth r1 0)) (.ints .i64 (D.ints (nth r1 0)))), (.arr true (D.nil (nth r2 0)) (.ints .i64 (D.ints (nth r2 0)))), (.arr true (D.nil (nth r3 0)) (.ints .i64 (D.ints (nth r3 0))))])] := by kernel_rfl
theorem qeq (k : Nat) (az : Bool) (a : List Int) : go (k + 1) slices_Clone_int_int [(.arr false (az) (.ints .i64 (a)))] =
 cond (az)
 (some [(.arr true (true) (.ints .i64 ([])))])
 (cond (decide (List.length ([] ++ a) ≤ bigLen))
 (some [(.arr true (false && decide (List.length ([] ++ a) = 0)) (.ints .i64 ([] ++ a)))])
 (none)) := by kernel_rfl
theorem qep (k : Nat) (az : Bool) (a : List (Int × Int × Int)) : go (k + 1) slices_Clone_impl_Id_impl_Id [(.arr false (az) (.r3 (a)))] =
 cond (az)
 (some [(.arr true (true) (.r3 ([])))])
 (cond (decide (List.length ([] ++ a) ≤ bigLen))
 (some [(.arr true (false && decide (List.length ([] ++ a) = 0)) (.r3 ([] ++ a)))])
 (none)) := by kernel_rfl
def qk8 (x0 : Int) (z1 : Bool) (l2 : List Int) (z3 : Bool) (l4 : List Int) : St := ⟨fill 26 [(0, (.sl 0 none)), (1, (.sl 1 none)), (5, (.int .i64 (x0)))], [], [(.arr false (z1) (.ints .i64 (l2))), (.arr false (z3) (.ints .i64 (l4)))]⟩
theorem qfw (k : Nat) (az : Bool) (a : List Int) (bz : Bool) (b : List Int) : go (k + 1) spec_l24Same [(.arr false (az) (.ints .i64 (a))), (.arr false (bz) (.ints .i64 (b)))] =
 cond (!decide (nI (List.length a) = nI (List.length b)))
 (some [(.bool (false))])
 (lp k spec_l24Same [] [] 4 k (qk8 (0 : Int) az a bz b)) := by kernel_rfl
theorem qho (k n : Nat) (fu : List (Nat × Nat)) (x0 : Int) (z1 : Bool) (l2 : List Int) (z3 : Bool) (l4 : List Int) : lp k spec_l24Same [] fu 4 (n + 1) (qk8 x0 z1 l2 z3 l4) =
 cond (decide (x0 < nI (List.length l2)))
 (cond (decide ((0 : Int) ≤ x0) && decide (x0 < nI (List.length l2)))
 (cond (decide ((0 : Int) ≤ x0) && decide (x0 < nI (List.length l4)))
 (cond (!decide (List.getD l2 (Int.toNat x0) (0 : Int) = List.getD l4 (Int.toNat x0) (0 : Int)))
 (some [(.bool (false))])
 (lp k spec_l24Same [] fu 4 n (qk8 (IntKind.wrap .i64 (x0 + (1 : Int))) z1 l2 z3 l4)))
 (none))
 (none))
 (some [(.bool (true))]) := by kernel_rfl

end Go.Proofs.Ytcaapedadpnjoaa
end
section
namespace Go.Proofs.Ytcaapedadpnjoaa
open Go.Ev
theorem qdi {α : Type} (a : Bool) (x y : α) : cond (!a) x y = cond a y x := by cases a <;> rfl
theorem qdg {α : Type} (a b : Bool) (x y : α) : cond a (cond b x y) y = cond (a && b) x y := by cases a <;> rfl
abbrev qhq (l : List Cell) (i : Nat) : Int := (l.getD i zz3).2.1
def qab (l : List Cell) : Prop := ∀ i, 0 ≤ qhq l i ∧ qhq l i ≤ 4
theorem qi4 : ∀ (l : List Cell) (r p : Int), qiy r p l = true → ∀ i, 0 ≤ qhq l i ∧ qhq l i ≤ 4
  | [], r, p, h, i => by simp [qhq]
  | x :: l, r, p, h, i => by
    simp only [qiy, Bool.and_eq_true] at h
    cases i with
    | zero => have := lev0 (qgg h.1).2.2.1; simpa [qhq] using this
    | succ i => have := qi4 l r _ h.2.2 i; simpa [qhq] using this
def qma (l : List Cell) : Nat → Nat → Int
  | 0, _ => -1
  | n + 1, i => if 1 < qhq l i - qhq l (i + 1) ∨ qhq l i - qhq l (i + 1) < -1 then (i : Int) else qma l n (i + 1)
def unb (l : List Cell) : Int := qma l (l.length - 1) 0
theorem qbg (k : Nat) (hk : 2000000 ≤ k) (a : Int) (h : -9223372036854775807 ≤ a) (h' : a ≤ 9223372036854775807) : go (k + 1) impl_absolute [(.int .i64 (a))] = some [.int .i64 (max (0 - a) a)] := by
  rw [qee]; simp (disch := omega) only [qmn, imax]
theorem qim (k : Nat) (hk : 2000000 ≤ k) (fu : List (Nat × Nat)) (z : Bool) (l : List Cell) (r : Int) (hl : (l.length : Int) ≤ 1048576) (hv : qab l) : ∀ (n i : Nat), i ≤ l.length → l.length - 1 - i < n →
    lp k spec_l05First [] fu 2 (n) (qk2 (i : Int) z l r) = some [.int .i64 (qma l (l.length - 1 - i) i)]
  | 0, i, hi, hn => by omega
  | n + 1, i, hi, hn => by
    rw [qhi]
    by_cases h : i + 1 < l.length
    · have e := qim k hk fu z l r hl hv n (i + 1) (by omega) (by omega)
      have h1 := hv i; have h2 := hv (i + 1)
      simp only [qhq] at h1 h2
      simp (disch := omega) only [qc6, qmn, nI, dT, Bool.and_true, Int.toNat_natCast, e, qdj]
      rw [show l.length - 1 - i = (l.length - 1 - (i + 1)) + 1 by omega, qma]
      simp only [qhq]
      by_cases g : 1 < (l.getD i zz3).2.1 - (l.getD (i + 1) zz3).2.1
      · simp (disch := omega) only [dT, dF, qdh, qdj]; rw [if_pos (Or.inl g)]
      · by_cases g2 : (l.getD i zz3).2.1 - (l.getD (i + 1) zz3).2.1 < -1
        · simp (disch := omega) only [dF, dT, qdj, qdh]; rw [if_pos (Or.inr g2)]
        · simp (disch := omega) only [dF, qdh]; rw [if_neg (not_or.2 ⟨g, g2⟩)]
    · simp (disch := omega) only [qc6, qmn, nI, dF, dT, Bool.true_and, Bool.and_false, Int.toNat_natCast, qdh]
      rw [show l.length - 1 - i = 0 by omega]; rfl
theorem qcu (k : Nat) (hk : 2000000 ≤ k) (a0 : Int) (a1z : Bool) (a1 : List (Int × Int × Int)) (hl : (a1.length : Int) ≤ 1048576) (hv : qab a1) : go (k + 1) spec_l05First [(.agg [(.int .i64 (a0)), (.arr false (a1z) (.r3 (a1)))])] = some [.int .i64 (unb a1)] := by
  rw [qfm]
  exact qim k hk [] a1z a1 a0 hl hv _ 0 (by omega) (by omega)
theorem qh6 (k : Nat) (hk : 2000000 ≤ k) (fu : List (Nat × Nat)) (z : Bool) (l : List Cell) (r : Int) (hl : (l.length : Int) ≤ 1048576) (hv : qab l) : ∀ (n i : Nat), i ≤ l.length → l.length - 1 - i < n →
    lp (k + 1) impl_Mesh_unbalanced [] fu 2 (n) (qkf ((l.length : Int) - 1) (i : Int) z l r) = some [.int .i64 (qma l (l.length - 1 - i) i)]
  | 0, i, hi, hn => by omega
  | n + 1, i, hi, hn => by
    rw [qgv]
    by_cases h : i + 1 < l.length
    · have e := qh6 k hk fu z l r hl hv n (i + 1) (by omega) (by omega)
      have h1 := hv i; have h2 := hv (i + 1)
      simp only [qhq] at h1 h2
      simp (disch := omega) only [dT, nI, Bool.and_true, qc6, qmn, Int.toNat_natCast, qbg, e, qax, nth0, ql9, qdj]
      rw [show l.length - 1 - i = (l.length - 1 - (i + 1)) + 1 by omega, qma]
      simp only [qhq]
      by_cases g : 1 < (l.getD i zz3).2.1 - (l.getD (i + 1) zz3).2.1
      · simp (disch := omega) only [dT, qdj]; rw [if_pos (Or.inl g)]
      · by_cases g2 : (l.getD i zz3).2.1 - (l.getD (i + 1) zz3).2.1 < -1
        · simp (disch := omega) only [dT, qdj]; rw [if_pos (Or.inr g2)]
        · simp (disch := omega) only [dF, qdh]; rw [if_neg (not_or.2 ⟨g, g2⟩)]
    · simp (disch := omega) only [dF, dT, nI, Bool.true_and, qc6, qmn, Bool.and_false, Int.toNat_natCast, qdh]
      rw [show l.length - 1 - i = 0 by omega]; rfl
theorem qbw (k : Nat) (hk : 2000000 ≤ k) (a0 : Int) (a1z : Bool) (a1 : List (Int × Int × Int)) (hl : (a1.length : Int) ≤ 1048576) (hv : qab a1) : go (k + 2) impl_Mesh_unbalanced [(.agg [(.int .i64 (a0)), (.arr false (a1z) (.r3 (a1)))])] = some [.int .i64 (unb a1)] := by
  rw [qd0]
  simp (disch := omega) only [nI, qmn]
  exact qh6 k hk [] a1z a1 a0 hl hv _ 0 (by omega) (by omega)
def qas (r : Int) (l : List Cell) : Bool := qiy r 0 l && decide (unb l < 0)
theorem qca (k : Nat) (hk : 2000000 ≤ k) (a0 : Int) (a1z : Bool) (a1 : List (Int × Int × Int)) (hl : (a1.length : Int) ≤ 1048576) : go (k + 6) spec_IsBalanced [(.agg [(.int .i64 (a0)), (.arr false (a1z) (.r3 (a1)))])] = some [.bool (qas a0 a1)] := by
  rw [qe2]
  simp (disch := omega) only [qcc, bit, qax, nth0, ql8]
  unfold qas
  cases h : qiy a0 0 a1
  · rfl
  · have hv : qab a1 := qi4 _ _ _ h
    simp (disch := omega) only [qdj, Bool.true_and]
    rw [qcu _ (by omega) _ _ _ hl hv]; simp (disch := omega) only [qax, nth0, ql9]
theorem qa7 (k : Nat) (hk : 2000000 ≤ k) (a0 : Int) (a1z : Bool) (a1 : List (Int × Int × Int)) (hl : (a1.length : Int) ≤ 1048576) : go (k + 7) impl_IsBalanced [(.agg [(.int .i64 (a0)), (.arr false (a1z) (.r3 (a1)))])] = some [.bool (qas a0 a1)] := by
  rw [qdv]
  simp (disch := omega) only [qa9, bit, qax, nth0, ql8]
  unfold qas
  cases h : qiy a0 0 a1
  · rfl
  · have hv : qab a1 := qi4 _ _ _ h
    rw [qdj, qbw _ (by omega) _ _ _ hl hv]; simp (disch := omega) only [qax, nth0, ql9, Bool.true_and]
def isum : List Int → Int
  | [] => 0
  | x :: l => x + isum l
theorem qgm {B : Int} : ∀ (l : List Int), (∀ x ∈ l, 0 ≤ x ∧ x ≤ B) → 0 ≤ isum l ∧ isum l ≤ B * l.length
  | [], h => by simp [isum]
  | x :: l, h => by
    have := qgm l fun y hy => h y (by simp [hy])
    have h2 := h x (by simp)
    simp only [isum, List.length_cons, Int.natCast_add, Int.natCast_one, Int.mul_add, Int.mul_one]; omega
theorem qgl {B : Int} (hB : 0 ≤ B) : ∀ (l : List Int) (i : Nat), (∀ x ∈ l, 0 ≤ x ∧ x ≤ B) → 0 ≤ isum (l.drop i) ∧ isum (l.drop i) ≤ isum l
  | [], i, h => by simp [isum]
  | x :: l, 0, h => by have := qgm (x :: l) h; simp only [List.drop_zero]; omega
  | x :: l, i + 1, h => by
    have := qgl hB l i fun y hy => h y (by simp [hy])
    have h2 := h x (by simp)
    simp only [isum, List.drop_succ_cons]; omega
theorem qip (k : Nat) (hk : 2000000 ≤ k) (fu : List (Nat × Nat)) (z : Bool) (l : List Int) (hl : (l.length : Int) ≤ 1048576) (hb : ∀ x ∈ l, 0 ≤ x ∧ x ≤ 1000000000000) : ∀ (n i : Nat) (s : Int), i ≤ l.length → l.length - i < n → s + isum (l.drop i) = isum l → 0 ≤ s →
    lp k spec_l07Sum [] fu 3 (n) (qk5 s (i : Int) z l) = some [.int .i64 (isum l)]
  | 0, i, s, hi, hn, hs, h0 => by omega
  | n + 1, i, s, hi, hn, hs, h0 => by
    rw [qhl]
    by_cases h : i < l.length
    · rw [qdn h 0] at hs
      simp only [isum] at hs
      have h1 := qgm l hb
      have h2 := qgl (by omega) l (i + 1) hb
      have h3 := hb _ (qf9 h 0)
      simp (disch := omega) only [nI, dT, Bool.and_true, Int.toNat_natCast, qmn, qc6, qdj]
      exact qip k hk fu z l hl hb n (i + 1) _ (by omega) (by omega) (by omega) (by omega)
    · rw [List.drop_of_length_le (by omega)] at hs
      simp only [isum] at hs
      simp (disch := omega) only [nI, dF, dT, Bool.and_false, Int.toNat_natCast, qc6, qmn, qdh]
      rw [show s = isum l by omega]
theorem qcz (k : Nat) (hk : 2000000 ≤ k) (az : Bool) (a : List Int) (hl : (a.length : Int) ≤ 1048576) (hb : ∀ x ∈ a, 0 ≤ x ∧ x ≤ 1000000000000) : go (k + 1) spec_l07Sum [(.arr false (az) (.ints .i64 (a)))] = some [.int .i64 (isum a)] := by
  rw [qfr]
  exact qip k hk [] az a hl hb _ 0 0 (by omega) (by omega) (by simp) (by omega)
theorem qh5 (k : Nat) (hk : 2000000 ≤ k) (fu : List (Nat × Nat)) (z : Bool) (l : List Int) (hl : (l.length : Int) ≤ 1048576) (hb : ∀ x ∈ l, 0 ≤ x ∧ x ≤ 1000000000000) : ∀ (n i : Nat) (s : Int), i ≤ l.length → l.length - i < n → s + isum (l.drop i) = isum l → 0 ≤ s →
    lp k impl_sum [] fu 3 (n) (qkk s (l.length : Int) (i : Int) z l) = some [.int .i64 (isum l)]
  | 0, i, s, hi, hn, hs, h0 => by omega
  | n + 1, i, s, hi, hn, hs, h0 => by
    rw [qg0]
    by_cases h : i < l.length
    · rw [qdn h 0] at hs
      simp only [isum] at hs
      have h1 := qgm l hb
      have h2 := qgl (by omega) l (i + 1) hb
      have h3 := hb _ (qf9 h 0)
      simp (disch := omega) only [dT, nI, Bool.and_true, Int.toNat_natCast, qmn, qc6, qdj]
      exact qh5 k hk fu z l hl hb n (i + 1) _ (by omega) (by omega) (by omega) (by omega)
    · rw [List.drop_of_length_le (by omega)] at hs
      simp only [isum] at hs
      simp (disch := omega) only [dF, dT, nI, Bool.and_false, Int.toNat_natCast, qc6, qmn, qdh]
      rw [show s = isum l by omega]
theorem qbu (k : Nat) (hk : 2000000 ≤ k) (az : Bool) (a : List Int) (hl : (a.length : Int) ≤ 1048576) (hb : ∀ x ∈ a, 0 ≤ x ∧ x ≤ 1000000000000) : go (k + 1) impl_sum [(.arr false (az) (.ints .i64 (a)))] = some [.int .i64 (isum a)] := by
  rw [qel]
  exact qh5 k hk [] az a hl hb _ 0 0 (by omega) (by omega) (by simp) (by omega)
def qir : List Int → List Int → Bool
  | m :: ms, t :: ts => inR m 0 10000000 && (inR t 0 (1000 * m) && qir ms ts)
  | _, _ => true
theorem qit : ∀ (ms ts : List Int), ms.length = ts.length → qir ms ts = true → (∀ x ∈ ms, 0 ≤ x ∧ x ≤ 10000000) ∧ (∀ x ∈ ts, 0 ≤ x ∧ x ≤ 10000000000)
  | [], ts, hl, h => by cases ts <;> simp_all
  | m :: ms, [], hl, h => by simp at hl
  | m :: ms, t :: ts, hl, h => by
    simp only [qir, Bool.and_eq_true, qgh] at h
    have := qit ms ts (by simpa using hl) h.2.2
    refine ⟨fun x hx => ?_, fun x hx => ?_⟩
    · rcases List.mem_cons.1 hx with rfl | hx
      · exact h.1
      · exact this.1 x hx
    · rcases List.mem_cons.1 hx with rfl | hx
      · omega
      · exact this.2 x hx
theorem qis : ∀ (ms ts : List Int), ms.length = ts.length → qir ms ts = true → ∀ i, 0 ≤ ms.getD i 0 ∧ ms.getD i 0 ≤ 10000000 ∧ 0 ≤ ts.getD i 0 ∧ ts.getD i 0 ≤ 1000 * ms.getD i 0
  | [], ts, hl, h, i => by cases ts <;> simp_all
  | m :: ms, [], hl, h, i => by simp at hl
  | m :: ms, t :: ts, hl, h, i => by
    simp only [qir, Bool.and_eq_true, qgh] at h
    cases i with
    | zero => simp; omega
    | succ i => have := qis ms ts (by simpa using hl) h.2.2 i; simpa using this
def qau : List Int → Bool
  | [] => true
  | b :: l => inR b 0 1000000 && qau l
theorem qav : ∀ (l : List Int), qau l = true → ∀ x ∈ l, 0 ≤ x ∧ x ≤ 1000000
  | [], h, x, hx => by cases hx
  | b :: l, h, x, hx => by
    simp only [qau, Bool.and_eq_true, qgh] at h
    rcases List.mem_cons.1 hx with rfl | hx
    · exact h.1
    · exact qav l h.2 x hx
def stOk (r : Int) (l : List Cell) (m t b : List Int) : Bool :=
  qas r l && (decide (m.length = l.length) && (decide (t.length = l.length) && (decide ((b.length : Int) = r) && (qir m t && (qau b && decide (isum m ≤ 10000000))))))
theorem qii (k : Nat) (hk : 2000000 ≤ k) (fu : List (Nat × Nat)) (r : Int) (z1 z2 z3 z4 : Bool) (l : List Cell) (m t b : List Int) (hm : (m.length : Int) ≤ 1048576) (hb : (b.length : Int) ≤ 1048576) (hx : ∀ x ∈ m, 0 ≤ x ∧ x ≤ 10000000) : ∀ (n i : Nat), i ≤ b.length → b.length - i < n →
    lp (k + 6) spec_StateOk [] fu 9 (n) (qkz (i : Int) z1 l z2 m z3 t z4 b r) = some [.bool (qau (b.drop i) && decide (isum m ≤ 10000000))]
  | 0, i, hi, hn => by omega
  | n + 1, i, hi, hn => by
    rw [qhf]
    by_cases h : i < b.length
    · rw [qdn h 0]
      have e := qii k hk fu r z1 z2 z3 z4 l m t b hm hb hx n (i + 1) (by omega) (by omega)
      simp (disch := omega) only [nI, dT, Bool.and_true, Int.toNat_natCast, qcm, bit, qc6, qmn, e, qdk, qax, nth0, ql8, qdj, qau, Bool.and_assoc]
    · rw [List.drop_of_length_le (by omega)]
      have hx' : ∀ x ∈ m, 0 ≤ x ∧ x ≤ 1000000000000 := fun x hh => by have := hx x hh; omega
      rw [show decide ((i : Int) < nI b.length) = false by apply dF; simp only [nI]; omega, qdh, qcz _ (by omega) _ _ hm hx']
      simp (disch := omega) only [qax, nth0, ql9, qau, Bool.true_and]
theorem qih (k : Nat) (hk : 2000000 ≤ k) (fu : List (Nat × Nat)) (r : Int) (z1 z2 z3 z4 : Bool) (l : List Cell) (m t b : List Int) (hm : (m.length : Int) ≤ 1048576) (ht : t.length = m.length) : ∀ (n i : Nat), i ≤ m.length → m.length - i < n →
    lp (k + 6) spec_StateOk [] fu 4 (n) (qky (i : Int) z1 l z2 m z3 t z4 b r) = cond (qir (m.drop i) (t.drop i)) (lp (k + 6) spec_StateOk [] fu 9 (k + 6) (qkz 0 z1 l z2 m z3 t z4 b r)) (some [.bool false])
  | 0, i, hi, hn => by omega
  | n + 1, i, hi, hn => by
    rw [qhe]
    by_cases h : i < m.length
    · rw [qdn h 0, qdn (l := t) (by omega : i < t.length) 0]
      have e := qih k hk fu r z1 z2 z3 z4 l m t b hm ht n (i + 1) (by omega) (by omega)
      by_cases h1 : inR (m.getD i 0) 0 10000000 = true
      · have h2 := qgh.1 h1
        simp (disch := omega) only [nI, dT, Bool.and_true, Int.toNat_natCast, qcm, h1, bit, qmn, qc6, e, qdi, qdg, qax, nth0, ql8, qdj, Bool.true_and, qir]
      · have h1 : inR (m.getD i 0) 0 10000000 = false := by simpa using h1
        simp (disch := omega) only [nI, dT, Bool.and_true, Int.toNat_natCast, qcm, h1, bit, qc6, qmn, qax, nth0, ql8, qdj, Bool.not_false, qir, Bool.false_and, qdh]
    · rw [List.drop_of_length_le (by omega), List.drop_of_length_le (by omega)]
      simp (disch := omega) only [nI, dF, dT, Bool.and_false, Int.toNat_natCast, bit, qc6, qmn, qdh, qir, qdj]
theorem qch (k : Nat) (hk : 2000000 ≤ k) (a0 : Int) (a1z : Bool) (a1 : List (Int × Int × Int)) (a2z : Bool) (a2 : List Int) (a3z : Bool) (a3 : List Int) (a4z : Bool) (a4 : List Int) (hl : (a1.length : Int) ≤ 1048576) (hb : (a4.length : Int) ≤ 1048576) : go (k + 7) spec_StateOk [(.agg [(.int .i64 (a0)), (.arr false (a1z) (.r3 (a1))), (.arr false (a2z) (.ints .i64 (a2))), (.arr false (a3z) (.ints .i64 (a3))), (.arr false (a4z) (.ints .i64 (a4)))])] = some [.bool (stOk a0 a1 a2 a3 a4)] := by
  rw [qe9]
  simp (disch := omega) only [qca, bit, nI, qax, nth0, ql8]
  unfold stOk
  cases qas a0 a1
  · rfl
  by_cases h1 : a2.length = a1.length
  case neg => simp (disch := omega) only [Bool.not_true, dF, Bool.not_false, qdj, qdh, Bool.false_and, Bool.and_false]
  by_cases h2 : a3.length = a1.length
  case neg => simp (disch := omega) only [Bool.not_true, dT, dF, Bool.not_false, qdj, qdh, Bool.false_and, Bool.and_false]
  by_cases h3 : (a4.length : Int) = a0
  case neg => simp (disch := omega) only [Bool.not_true, dT, dF, Bool.not_false, qdj, qdh, Bool.false_and, Bool.and_false]
  simp (disch := omega) only [Bool.not_true, dT, qdh, Bool.true_and]
  refine Eq.trans (qih k hk [] a0 a1z a2z a3z a4z a1 a2 a3 a4 (by omega) (by omega) _ 0 (by omega) (by omega)) ?_
  simp only [List.drop_zero]
  cases h4 : qir a2 a3
  · rfl
  · have hx := (qit a2 a3 (by omega) h4).1
    have e := qii k hk [] a0 a1z a2z a3z a4z a1 a2 a3 a4 (by omega) hb hx (k + 6) 0 (by omega) (by omega)
    simp only [List.drop_zero] at e
    simp only [qdj, Bool.true_and, dT (h1), dT (h2), dT (h3), decide_true]
    exact e
theorem qbp (k : Nat) (hk : 2000000 ≤ k) (a : Int) : go (k + 2) impl_isBed [(.int .i64 (a))] = some [.bool (inR a 0 1000000)] := by
  rw [qej]; simp (disch := omega) only [qbx, bit, qax, nth0, ql8]
theorem qbo (k : Nat) (hk : 2000000 ≤ k) (a : Int) : go (k + 3) impl_State_hasCells_1 [(.int .i64 (a))] = some [.bool (!inR a 0 1000000)] := by
  rw [qd7]; simp (disch := omega) only [qbp, bit, qax, nth0, ql8]
theorem qh7 (k : Nat) (hk : 2000000 ≤ k) (fu : List (Nat × Nat)) (z : Bool) (l : List Int) (hl : (l.length : Int) ≤ 1048576) : ∀ (n i : Nat), i ≤ l.length → l.length - i < n →
    ∃ j : Int, lp (k + 3) slices_IndexFunc_int_int [] fu 2 (n) (qks (l.length : Int) (i : Int) z l) = some [.int .i64 j] ∧ decide (0 ≤ j) = !qau (l.drop i)
  | 0, i, hi, hn => by omega
  | n + 1, i, hi, hn => by
    rw [qg8]
    by_cases h : i < l.length
    · rw [qdn h 0]
      obtain ⟨j, e1, e2⟩ := qh7 k hk fu z l hl n (i + 1) (by omega) (by omega)
      simp (disch := omega) only [dT, nI, Bool.and_true, Int.toNat_natCast, qbo, bit, qc6, qmn, e1, qax, nth0, ql8, qdj, qau]
      cases inR (l.getD i 0) 0 1000000
      · exact ⟨i, rfl, by rw [dT (by omega)]; rfl⟩
      · exact ⟨j, rfl, by rw [e2]; rfl⟩
    · rw [List.drop_of_length_le (by omega)]
      simp (disch := omega) only [dF, dT, nI, Bool.and_false, Int.toNat_natCast, bit, qc6, qmn, qdh, qau, Bool.not_true]
      exact ⟨-1, rfl, rfl⟩
theorem qaz (k : Nat) (hk : 2000000 ≤ k) (z : Bool) (l : List Int) (hl : (l.length : Int) ≤ 1048576) : go (k + 5) slices_ContainsFunc_int_int [.arr false z (.ints .i64 l), .fn impl_State_hasCells_1 []] = some [.bool (!qau l)] := by
  rw [qes, qev]
  obtain ⟨j, e1, e2⟩ := qh7 k hk [] z l hl (k + 3) 0 (by omega) (by omega)
  have e1' := e1
  simp only [nI] at *
  rw [show ((0 : Nat) : Int) = 0 from rfl] at e1'
  rw [e1']
  simp (disch := omega) only [qax, nth0, ql9]
  rw [show decide ((0 : Int) ≤ j) = !qau l from e2]
theorem qh2 (k : Nat) (hk : 2000000 ≤ k) (fu : List (Nat × Nat)) (r : Int) (z1 z2 z3 z4 : Bool) (l : List Cell) (m t b : List Int) (hm : (m.length : Int) ≤ 1048576) (ht : t.length = m.length) (s : List D)
    (hs : qir m t = true → go (k + 5) impl_sum [.arr false z2 (.ints .i64 m)] = some [.int .i64 (isum m)]) (P : Bool) : ∀ (n i : Nat), i ≤ m.length → m.length - i < n → (qir (m.drop i) (t.drop i) = true → qir m t = true) →
    lp (k + 5) impl_State_hasCells [] fu 5 (n) (qkg (m.length : Int) (i : Int) z1 l z2 m z3 t z4 b r) = some [.bool (qir (m.drop i) (t.drop i) && decide (isum m ≤ 10000000))]
  | 0, i, hi, hn, hq => by omega
  | n + 1, i, hi, hn, hq => by
    rw [qgw]
    by_cases h : i < m.length
    · rw [qdn h 0, qdn (l := t) (by omega : i < t.length) 0] at hq ⊢
      by_cases h1 : inR (m.getD i 0) 0 10000000 = true
      · have h2 := qgh.1 h1
        by_cases h3 : inR (t.getD i 0) 0 (1000 * m.getD i 0) = true
        · have e := qh2 k hk fu r z1 z2 z3 z4 l m t b hm ht s hs P n (i + 1) (by omega) (by omega) (fun hh => hq (by simp only [qir, h1, h3, hh, Bool.and_self]))
          simp (disch := omega) only [dT, nI, Bool.and_true, Int.toNat_natCast, qbx, h1, bit, qmn, h3, qc6, e, qax, nth0, ql8, Bool.not_true, qdh, qdj, qir, Bool.true_and]
        · have h3 : inR (t.getD i 0) 0 (1000 * m.getD i 0) = false := by simpa using h3
          simp (disch := omega) only [dT, nI, Bool.and_true, Int.toNat_natCast, qbx, h1, bit, qmn, h3, qc6, qax, nth0, ql8, Bool.not_false, qdj, Bool.not_true, qdh, qir, Bool.false_and, Bool.and_false]
      · have h1 : inR (m.getD i 0) 0 10000000 = false := by simpa using h1
        simp (disch := omega) only [dT, nI, Bool.and_true, Int.toNat_natCast, qbx, h1, bit, qc6, qmn, qax, nth0, ql8, qdj, Bool.not_false, qir, Bool.false_and]
    · rw [List.drop_of_length_le (by omega), List.drop_of_length_le (by omega)] at hq ⊢
      have e := hs (hq rfl)
      simp (disch := omega) only [dF, dT, nI, Bool.and_false, Int.toNat_natCast, bit, qc6, qmn, qdh, e, qax, nth0, ql9, qir, Bool.true_and]
theorem qbn (k : Nat) (hk : 2000000 ≤ k) (a0 : Int) (a1z : Bool) (a1 : List (Int × Int × Int)) (a2z : Bool) (a2 : List Int) (a3z : Bool) (a3 : List Int) (a4z : Bool) (a4 : List Int) (hl : (a1.length : Int) ≤ 1048576) (hb : (a4.length : Int) ≤ 1048576) : go (k + 6) impl_State_hasCells [(.agg [(.int .i64 (a0)), (.arr false (a1z) (.r3 (a1))), (.arr false (a2z) (.ints .i64 (a2))), (.arr false (a3z) (.ints .i64 (a3))), (.arr false (a4z) (.ints .i64 (a4)))])] = some [.bool (decide (a2.length = a1.length) && (decide (a3.length = a1.length) && (decide ((a4.length : Int) = a0) && (qir a2 a3 && (qau a4 && decide (isum a2 ≤ 10000000))))))] := by
  rw [qd6]
  by_cases h1 : a2.length = a1.length
  case neg => simp (disch := omega) only [nI, dF, Bool.not_false, bit, qdj, Bool.false_and]
  by_cases h2 : a3.length = a1.length
  case neg => simp (disch := omega) only [nI, dT, Bool.not_true, dF, Bool.not_false, bit, qdj, qdh, Bool.false_and, Bool.and_false]
  by_cases h3 : (a4.length : Int) = a0
  case neg => simp (disch := omega) only [nI, dT, Bool.not_true, dF, Bool.not_false, bit, qdj, qdh, Bool.false_and, Bool.and_false]
  simp (disch := omega) only [nI, dT, Bool.not_true, qaz, bit, qax, nth0, ql8, qdh, Bool.true_and]
  cases h5 : qau a4
  · cases qir a2 a3 <;> rfl
  have e := qh2 k hk [] a0 a1z a2z a3z a4z a1 a2 a3 a4 (by omega) (by omega) [] (fun hm => by
    have hx := (qit a2 a3 (by omega) hm).1
    exact qbu _ (by omega) _ _ (by omega) (fun x hh => by have := hx x hh; omega)) true (k + 5) 0 (by omega) (by omega) (fun h => h)
  simp only [List.drop_zero] at e
  simp only [Bool.not_true, qdh, Bool.true_and]
  exact e
theorem qbd (k : Nat) (hk : 2000000 ≤ k) (a0 : Int) (a1z : Bool) (a1 : List (Int × Int × Int)) (a2z : Bool) (a2 : List Int) (a3z : Bool) (a3 : List Int) (a4z : Bool) (a4 : List Int) (hl : (a1.length : Int) ≤ 1048576) (hb : (a4.length : Int) ≤ 1048576) : go (k + 8) impl_StateOk [(.agg [(.int .i64 (a0)), (.arr false (a1z) (.r3 (a1))), (.arr false (a2z) (.ints .i64 (a2))), (.arr false (a3z) (.ints .i64 (a3))), (.arr false (a4z) (.ints .i64 (a4)))])] = some [.bool (stOk a0 a1 a2 a3 a4)] := by
  rw [qd4]
  simp (disch := omega) only [qa7, bit, qbn, qax, nth0, ql8]
  unfold stOk
  cases qas a0 a1 <;> rfl
end Go.Proofs.Ytcaapedadpnjoaa
end
section
namespace Go.Proofs.Ytcaapedadpnjoaa
open Go.Ev
theorem qfu (k : Nat) (a0 : Int) (a1z : Bool) (a1 : List (Int × Int × Int)) (a2z : Bool) (a2 : List Int) (a3z : Bool) (a3 : List Int) (a4z : Bool) (a4 : List Int) (b : Int) : go (k + 1) spec_l09Surface [(.agg [(.int .i64 (a0)), (.arr false (a1z) (.r3 (a1))), (.arr false (a2z) (.ints .i64 (a2))), (.arr false (a3z) (.ints .i64 (a3))), (.arr false (a4z) (.ints .i64 (a4)))]), (.int .i64 (b))] =
 cond (decide ((0 : Int) ≤ b) && decide (b < nI (List.length a1)))
 (cond (decide ((0 : Int) ≤ Prod.fst (List.getD a1 (Int.toNat b) zz3)) && decide (Prod.fst (List.getD a1 (Int.toNat b) zz3) < nI (List.length a4)))
 (cond (decide ((0 : Int) ≤ b) && decide (b < nI (List.length a2)))
 (cond (decide ((0 : Int) ≤ IntKind.wrap IntKind.u64 (Prod.fst (Prod.snd (List.getD a1 (Int.toNat b) zz3)))))
 (some [(.int .i64 (IntKind.wrap .i64 (List.getD a4 (Int.toNat (Prod.fst (List.getD a1 (Int.toNat b) zz3))) (0 : Int) + IntKind.wrap .i64 (List.getD a2 (Int.toNat b) (0 : Int) * (2 : Int) ^ shiftN .i64 (IntKind.wrap IntKind.u64 (Prod.fst (Prod.snd (List.getD a1 (Int.toNat b) zz3))))))))])
 (none))
 (none))
 (none))
 (none) := by kernel_rfl
theorem qeb (k : Nat) (a0 : Int) (a1z : Bool) (a1 : List (Int × Int × Int)) (a2z : Bool) (a2 : List Int) (a3z : Bool) (a3 : List Int) (a4z : Bool) (a4 : List Int) (b : Int) : go (k + 1) impl_State_surface [(.agg [(.int .i64 (a0)), (.arr false (a1z) (.r3 (a1))), (.arr false (a2z) (.ints .i64 (a2))), (.arr false (a3z) (.ints .i64 (a3))), (.arr false (a4z) (.ints .i64 (a4)))]), (.int .i64 (b))] =
 cond (decide ((0 : Int) ≤ b) && decide (b < nI (List.length a1)))
 (cond (decide ((0 : Int) ≤ Prod.fst (List.getD a1 (Int.toNat b) zz3)) && decide (Prod.fst (List.getD a1 (Int.toNat b) zz3) < nI (List.length a4)))
 (cond (decide ((0 : Int) ≤ b) && decide (b < nI (List.length a2)))
 (cond (decide ((0 : Int) ≤ Prod.fst (Prod.snd (List.getD a1 (Int.toNat b) zz3))))
 (some [(.int .i64 (IntKind.wrap .i64 (List.getD a4 (Int.toNat (Prod.fst (List.getD a1 (Int.toNat b) zz3))) (0 : Int) + IntKind.wrap .i64 (List.getD a2 (Int.toNat b) (0 : Int) * (2 : Int) ^ shiftN .i64 (Prod.fst (Prod.snd (List.getD a1 (Int.toNat b) zz3)))))))])
 (none))
 (none))
 (none))
 (none) := by kernel_rfl
end Go.Proofs.Ytcaapedadpnjoaa
end
section
namespace Go.Proofs.Ytcaapedadpnjoaa
open Go.Ev
theorem qmj {l : Int} (h : inR l 0 4 = true) : 1 ≤ qmi l ∧ qmi l ≤ 16 := by
  rcases lev h with rfl | rfl | rfl | rfl | rfl <;> decide
theorem qmh {x : Cell} (h : idOk x.1 x.2.1 x.2.2 = true) : qlr x.1 x.2.1 x.2.2 = x.1 * 16 + x.2.2 * qmi x.2.1 ∧ 0 ≤ x.2.2 * qmi x.2.1 ∧ 1 ≤ qmi x.2.1 := by
  have := qgg h
  exact ⟨by simp [qlr, h], (iw h).1, (qmj this.2.2.1).1⟩
theorem qi2 : ∀ (l : List Cell) (r p : Int), qiy r p l = true → 1 ≤ r ∧ r ≤ 8 ∧ p + l.length ≤ 16 * r ∧ (∀ i, i < l.length → 0 ≤ (l.getD i zz3).1 ∧ (l.getD i zz3).1 < r ∧ idOk (l.getD i zz3).1 (l.getD i zz3).2.1 (l.getD i zz3).2.2 = true) ∧ (l = [] → p = 16 * r)
  | [], r, p, h => by
    simp only [qiy, Bool.and_eq_true, qgh, decide_eq_true_eq] at h
    simp; omega
  | x :: l, r, p, h => by
    simp only [qiy, Bool.and_eq_true, decide_eq_true_eq] at h
    obtain ⟨h1, h2, h3⟩ := h
    have w := qmh h1
    have ih := qi2 l r _ h3
    have ds := qgg h1
    refine ⟨ih.1, ih.2.1, by simp only [List.length_cons]; omega, fun i hi => ?_, by simp⟩
    cases i with
    | zero => simp only [List.getD_cons_zero]; refine ⟨by omega, by omega, h1⟩
    | succ i => simp only [List.getD_cons_succ]; exact ih.2.2.2.1 i (by simpa using hi)
theorem qi3 {l : List Cell} {r : Int} (h : qiy r 0 l = true) : 1 ≤ l.length ∧ l.length ≤ 128 := by
  have f := qi2 l r 0 h
  cases l with
  | nil => have := f.2.2.2.2 rfl; omega
  | cons x l => simp only [List.length_cons] at f ⊢; omega
structure StF (r : Int) (l : List Cell) (m t b : List Int) : Prop where
  mesh : qiy r 0 l = true
  bal : unb l < 0
  ml : m.length = l.length
  tl : t.length = l.length
  bl : (b.length : Int) = r
  mt : qir m t = true
  bed : qau b = true
  sum : isum m ≤ 10000000
theorem stF {r : Int} {l : List Cell} {m t b : List Int} : stOk r l m t b = true ↔ StF r l m t b := by
  unfold stOk qas
  simp only [Bool.and_eq_true, decide_eq_true_eq]
  exact ⟨fun h => ⟨h.1.1, h.1.2, h.2.1, h.2.2.1, h.2.2.2.1, h.2.2.2.2.1, h.2.2.2.2.2.1, h.2.2.2.2.2.2⟩, fun h => ⟨⟨h.mesh, h.bal⟩, h.ml, h.tl, h.bl, h.mt, h.bed, h.sum⟩⟩
theorem shp {l : Int} (h : inR l 0 4 = true) : (2 : Int) ^ shiftN .i64 l = pow2 l := by
  rcases lev h with rfl | rfl | rfl | rfl | rfl <;> simp [sh0, sh1, sh2, sh3, sh4, p20, p21, p22, p23, p24]
theorem mulp {m l : Int} (h : inR l 0 4 = true) (h0 : 0 ≤ m) : m ≤ m * pow2 l ∧ m * pow2 l ≤ 16 * m := by
  rcases lev h with rfl | rfl | rfl | rfl | rfl <;> simp only [p20, p21, p22, p23, p24] <;> omega
section
variable {r : Int} {l : List Cell} {m t b : List Int}
theorem StF.len (F : StF r l m t b) : 1 ≤ l.length ∧ l.length ≤ 128 := qi3 F.mesh
theorem StF.rr (F : StF r l m t b) : 1 ≤ r ∧ r ≤ 8 := ⟨(qi2 l r 0 F.mesh).1, (qi2 l r 0 F.mesh).2.1⟩
theorem StF.lev (F : StF r l m t b) (i : Nat) : inR (l.getD i zz3).2.1 0 4 = true := by
  have := qi4 l r 0 F.mesh i
  simp only [qhq] at this
  rw [qgh]; exact this
theorem StF.root (F : StF r l m t b) {i : Nat} (h : i < l.length) : 0 ≤ (l.getD i zz3).1 ∧ (l.getD i zz3).1 < r := ⟨((qi2 l r 0 F.mesh).2.2.2.1 i h).1, ((qi2 l r 0 F.mesh).2.2.2.1 i h).2.1⟩
theorem StF.at (F : StF r l m t b) (i : Nat) : 0 ≤ m.getD i 0 ∧ m.getD i 0 ≤ 10000000 ∧ 0 ≤ t.getD i 0 ∧ t.getD i 0 ≤ 1000 * m.getD i 0 := qis m t (by rw [F.ml, F.tl]) F.mt i
theorem StF.bedAt (F : StF r l m t b) (i : Nat) : 0 ≤ b.getD i 0 ∧ b.getD i 0 ≤ 1000000 := by
  by_cases h : i < b.length
  · exact qav b F.bed _ (qf9 h 0)
  · rw [qf8 (by omega)]; omega
end
def surf (l : List Cell) (m b : List Int) (i : Nat) : Int := b.getD (l.getD i zz3).1.toNat 0 + m.getD i 0 * pow2 (l.getD i zz3).2.1
theorem qly {r : Int} {l : List Cell} {m t b : List Int} (F : StF r l m t b) (i : Nat) : 0 ≤ surf l m b i ∧ surf l m b i ≤ 161000000 := by
  have h1 := F.bedAt (l.getD i zz3).1.toNat
  have h2 := F.at i
  have h3 := mulp (F.lev i) h2.1
  unfold surf; omega
theorem qc2 (k : Nat) (hk : 2000000 ≤ k) (r : Int) (z1 z2 z3 z4 : Bool) (l : List Cell) (m t b : List Int) (F : StF r l m t b) (i : Nat) (hi : i < l.length) :
    go (k + 1) spec_l09Surface [.agg [.int .i64 r, .arr false z1 (.r3 l), .arr false z2 (.ints .i64 m), .arr false z3 (.ints .i64 t), .arr false z4 (.ints .i64 b)], .int .i64 (i : Int)] = some [.int .i64 (surf l m b i)] := by
  rw [qfu]
  have h1 := F.root hi; have h2 := F.ml; have h3 := F.bl; have h4 := F.lev i; have h5 := lev0 h4; have h6 := F.at i; have h7 := qly F i; have h8 := mulp h4 h6.1; have h9 := F.len
  unfold surf at h7 ⊢
  simp (disch := omega) only [dT, nI, Bool.and_true, Int.toNat_natCast, qmo, shp h4, qmn, qdj]
theorem qbv (k : Nat) (hk : 2000000 ≤ k) (r : Int) (z1 z2 z3 z4 : Bool) (l : List Cell) (m t b : List Int) (F : StF r l m t b) (i : Nat) (hi : i < l.length) :
    go (k + 1) impl_State_surface [.agg [.int .i64 r, .arr false z1 (.r3 l), .arr false z2 (.ints .i64 m), .arr false z3 (.ints .i64 t), .arr false z4 (.ints .i64 b)], .int .i64 (i : Int)] = some [.int .i64 (surf l m b i)] := by
  rw [qeb]
  have h1 := F.root hi; have h2 := F.ml; have h3 := F.bl; have h4 := F.lev i; have h5 := lev0 h4; have h6 := F.at i; have h7 := qly F i; have h8 := mulp h4 h6.1; have h9 := F.len
  unfold surf at h7 ⊢
  simp (disch := omega) only [dT, nI, Bool.and_true, Int.toNat_natCast, shp h4, qmn, qdj]
end Go.Proofs.Ytcaapedadpnjoaa
end
section
namespace Go.Proofs.Ytcaapedadpnjoaa
open Go.Ev
def qgj (t lv : Int) : Bool := inR lv 0 4 && (decide (0 ≤ t) && decide (Int.tmod t (qmi lv) = 0))
theorem qmm {l : Int} (h : inR l 0 4 = true) : 0 < qmi l := by
  rcases lev h with rfl | rfl | rfl | rfl | rfl <;> decide
theorem qml {l : Int} (h : inR l 0 4 = false) : qmi l = 0 := by simp [qmi, h]
theorem qb9 (k : Nat) (hk : 2000000 ≤ k) (a : Int) (b : Int) : go (k + 3) spec_IsActive [(.int .i64 (a)), (.int .i64 (b))] = some [.bool (qgj a b)] := by
  rw [qe1]
  simp (disch := omega) only [qcj, qax, nth0, ql9]
  unfold qgj
  cases h : inR b 0 4
  · rw [qml h]; cases decide ((0 : Int) ≤ a) <;> simp
  · have := qmm h
    simp (disch := omega) only [dT, dF, Bool.not_false, qdj, Bool.true_and]
    cases decide ((0 : Int) ≤ a) <;> simp
theorem qa6 (k : Nat) (hk : 2000000 ≤ k) (a : Int) (b : Int) : go (k + 4) impl_IsActive [(.int .i64 (a)), (.int .i64 (b))] = some [.bool (qgj a b)] := by
  rw [qdu]
  simp (disch := omega) only [qbq, bit, qbf, qax, nth0, ql9, ql8]
  unfold qgj
  cases h : inR b 0 4
  · simp
  · have := qmm h
    simp (disch := omega) only [dF, Bool.not_false, qdj, Bool.true_and]
    cases decide ((0 : Int) ≤ a) <;> simp
def qf2 (l : List Cell) (i : Nat) : Int := max (qhq l (i + 1)) (qhq l i)
theorem qct (k : Nat) (hk : 2000000 ≤ k) (a0 : Int) (a1z : Bool) (a1 : List Cell) (i : Nat) (hi : i + 1 < a1.length) (hl : (a1.length : Int) ≤ 1048576) : go (k + 1) spec_l05Face [.agg [.int .i64 a0, .arr false a1z (.r3 a1)], .int .i64 (i : Int)] = some [.int .i64 (qf2 a1 i)] := by
  rw [qfl]
  simp (disch := omega) only [dT, nI, Bool.and_true, qc6, qmn, Int.toNat_natCast, imax, qdj]
  rfl
theorem qbl (k : Nat) (hk : 2000000 ≤ k) (a0 : Int) (a1z : Bool) (a1 : List Cell) (i : Nat) (hi : i + 1 < a1.length) (hl : (a1.length : Int) ≤ 1048576) : go (k + 1) impl_Mesh_faceLevel [.agg [.int .i64 a0, .arr false a1z (.r3 a1)], .int .i64 (i : Int)] = some [.int .i64 (qf2 a1 i)] := by
  rw [qdz]
  simp (disch := omega) only [dT, nI, Bool.and_true, qc6, qmn, Int.toNat_natCast, imax, qdj]
  rfl
def qam (t : Int) (l : List Cell) (i : Nat) : Bool := decide (i + 1 < l.length) && qgj t (qf2 l i)
end Go.Proofs.Ytcaapedadpnjoaa
end
section
namespace Go.Proofs.Ytcaapedadpnjoaa
open Go.Ev
theorem qco (k : Nat) (hk : 2000000 ≤ k) (a0 : Int) (a1z : Bool) (a1 : List (Int × Int × Int)) (h1 : (a1.length : Int) ≤ 1048576) : go (k + 1) spec_l04Copy [(.agg [(.int .i64 (a0)), (.arr false (a1z) (.r3 (a1)))])] = some [.agg [.int .i64 a0, .arr true false (.r3 a1)]] := by
  rw [qfg]
  simp (disch := omega) only [qi9, big0, dT, Bool.false_and, qdj]
theorem qcx (k : Nat) (hk : 2000000 ≤ k) (a0 : Int) (a1z : Bool) (a1 : List (Int × Int × Int)) (a2z : Bool) (a2 : List Int) (a3z : Bool) (a3 : List Int) (a4z : Bool) (a4 : List Int) (h1 : (a1.length : Int) ≤ 1048576) (h2 : (a2.length : Int) ≤ 1048576) (h3 : (a3.length : Int) ≤ 1048576) (h4 : (a4.length : Int) ≤ 1048576) : go (k + 2) spec_l07Copy [(.agg [(.int .i64 (a0)), (.arr false (a1z) (.r3 (a1))), (.arr false (a2z) (.ints .i64 (a2))), (.arr false (a3z) (.ints .i64 (a3))), (.arr false (a4z) (.ints .i64 (a4)))])] = some [.agg [.int .i64 a0, .arr true false (.r3 a1), .arr true false (.ints .i64 a2), .arr true false (.ints .i64 a3), .arr true false (.ints .i64 a4)]] := by
  rw [qfp]
  simp (disch := omega) only [qco, qi9, big0, dT, Bool.false_and, qdj, qax, nth0, qc7, ql9, qc8, qja, qjs]
theorem qb2 (k : Nat) (hk : 2000000 ≤ k) (a : List Int) (hl : (a.length : Int) ≤ 1048576) : go (k + 1) slices_Clone_int_int [.arr false false (.ints .i64 a)] = some [.arr true false (.ints .i64 a)] := by
  rw [qeq]
  simp (disch := omega) only [qi9, big0, dT, Bool.false_and, qdj, qdh]
theorem qb1 (k : Nat) (hk : 2000000 ≤ k) (a : List Cell) (hl : (a.length : Int) ≤ 1048576) : go (k + 1) slices_Clone_impl_Id_impl_Id [.arr false false (.r3 a)] = some [.arr true false (.r3 a)] := by
  rw [qep]
  simp (disch := omega) only [qi9, big0, dT, Bool.false_and, qdj, qdh]
theorem qbi (k : Nat) (hk : 2000000 ≤ k) (a0 : Int) (a1 : List Cell) (h1 : (a1.length : Int) ≤ 1048576) : go (k + 2) impl_copyMesh [.agg [.int .i64 a0, .arr false false (.r3 a1)]] = some [.agg [.int .i64 a0, .arr true false (.r3 a1)]] := by
  rw [qef]
  simp (disch := omega) only [qb1, qax, nth0, qja, qjs]
theorem qbj (k : Nat) (hk : 2000000 ≤ k) (a0 : Int) (a1 : List Cell) (a2 a3 a4 : List Int) (h1 : (a1.length : Int) ≤ 1048576) (h2 : (a2.length : Int) ≤ 1048576) (h3 : (a3.length : Int) ≤ 1048576) (h4 : (a4.length : Int) ≤ 1048576) :
    go (k + 3) impl_copyState [.agg [.int .i64 a0, .arr false false (.r3 a1), .arr false false (.ints .i64 a2), .arr false false (.ints .i64 a3), .arr false false (.ints .i64 a4)]] = some [.agg [.int .i64 a0, .arr true false (.r3 a1), .arr true false (.ints .i64 a2), .arr true false (.ints .i64 a3), .arr true false (.ints .i64 a4)]] := by
  rw [qeg]
  simp (disch := omega) only [qbi, qb2, qax, nth0, qja, qgi, qc7, ql9, qc8, qjs]
end Go.Proofs.Ytcaapedadpnjoaa
end
section
namespace Go.Proofs.Ytcaapedadpnjoaa
open Go.Ev
theorem qdo {α : Type} {l l' : List α} {i : Nat} (h : i < l.length) (h' : i < l'.length) (d : α) : l.drop i = l'.drop i ↔ l.getD i d = l'.getD i d ∧ l.drop (i + 1) = l'.drop (i + 1) := by
  rw [qdn h d, qdn h' d]; simp
theorem qhp {α : Type} {l l' : List α} (h : ¬ l.length = l'.length) : ¬ l = l' := fun e => h (by rw [e])
theorem qiq (k : Nat) (hk : 2000000 ≤ k) (fu : List (Nat × Nat)) (z z' : Bool) (l l' : List Int) (hl : (l.length : Int) ≤ 1048576) (he : l'.length = l.length) : ∀ (n i : Nat), i ≤ l.length → l.length - i < n →
    lp k spec_l24Same [] fu 4 (n) (qk8 (i : Int) z l z' l') = some [.bool (decide (l.drop i = l'.drop i))]
  | 0, i, hi, hn => by omega
  | n + 1, i, hi, hn => by
    rw [qho]
    by_cases h : i < l.length
    · have e := qiq k hk fu z z' l l' hl he n (i + 1) (by omega) (by omega)
      by_cases g : l.getD i 0 = l'.getD i 0
      · simp (disch := omega) only [nI, dT, Bool.and_true, Int.toNat_natCast, Bool.not_true, qc6, qmn, e, qdh, qdj]
        exact congrArg (fun b => some [D.bool b]) (by simp only [qdo h (by omega : i < l'.length) 0, g, true_and])
      · simp (disch := omega) only [nI, dT, Bool.and_true, Int.toNat_natCast, dF, Bool.not_false, qc6, qmn, e, qdj]
        exact congrArg (fun b => some [D.bool b]) (by rw [dF]; rw [qdo h (by omega : i < l'.length) 0]; exact fun hh => g hh.1)
    · simp (disch := omega) only [nI, dF, dT, Bool.and_false, Int.toNat_natCast, qc6, qmn, qdh]
      rw [List.drop_of_length_le (by omega), List.drop_of_length_le (by omega)]; rfl
theorem qc4 (k : Nat) (hk : 2000000 ≤ k) (az : Bool) (a : List Int) (bz : Bool) (b : List Int) (hl : (a.length : Int) ≤ 1048576) : go (k + 1) spec_l24Same [(.arr false (az) (.ints .i64 (a))), (.arr false (bz) (.ints .i64 (b)))] = some [.bool (decide (a = b))] := by
  rw [qfw]
  by_cases h : a.length = b.length
  · simp (disch := omega) only [nI, dT, Bool.not_true, qdh]
    have e := qiq k hk [] az bz a b hl (by omega) (k + 0) 0 (by omega) (by omega)
    simp only [List.drop_zero] at e; exact e
  · simp (disch := omega) only [nI, dF, Bool.not_false, qdj]
    rw [dF (qhp h)]
theorem qdc (x y : Cell) : (decide (x.1 = y.1) && (decide (x.2.1 = y.2.1) && decide (x.2.2 = y.2.2))) = decide (x = y) := by
  obtain ⟨a, b, c⟩ := x; obtain ⟨a', b', c'⟩ := y
  rw [Bool.eq_iff_iff]; simp
theorem qib (k : Nat) (hk : 2000000 ≤ k) (fu : List (Nat × Nat)) (z z' : Bool) (l l' : List Cell) (hl : (l.length : Int) ≤ 1048576) (he : l'.length = l.length) : ∀ (n i : Nat), i ≤ l.length → l.length - i < n →
    lp k slices_Equal_impl_Id_impl_Id [] fu 4 (n) (qkq (l.length : Int) (i : Int) z l z' l') = some [.bool (decide (l.drop i = l'.drop i))]
  | 0, i, hi, hn => by omega
  | n + 1, i, hi, hn => by
    rw [qg6]
    by_cases h : i < l.length
    · have e := qib k hk fu z z' l l' hl he n (i + 1) (by omega) (by omega)
      by_cases g : l.getD i zz3 = l'.getD i zz3
      · simp (disch := omega) only [dT, nI, Bool.and_true, Int.toNat_natCast, g, dTT, Bool.not_true, qc6, qmn, e, qdh, qdj]
        exact congrArg (fun b => some [D.bool b]) (by simp only [qdo h (by omega : i < l'.length) zz3, g, true_and])
      · simp (disch := omega) only [dT, nI, Bool.and_true, Int.toNat_natCast, qdc, dF, Bool.not_false, qc6, qmn, e, qdj]
        exact congrArg (fun b => some [D.bool b]) (by rw [dF]; rw [qdo h (by omega : i < l'.length) zz3]; exact fun hh => g hh.1)
    · simp (disch := omega) only [dF, dT, nI, Bool.and_false, Int.toNat_natCast, Bool.and_true, qc6, qmn, qdh]
      rw [List.drop_of_length_le (by omega), List.drop_of_length_le (by omega)]; rfl
theorem qb3 (k : Nat) (hk : 2000000 ≤ k) (az : Bool) (a : List (Int × Int × Int)) (bz : Bool) (b : List (Int × Int × Int)) (hl : (a.length : Int) ≤ 1048576) : go (k + 1) slices_Equal_impl_Id_impl_Id [(.arr false (az) (.r3 (a))), (.arr false (bz) (.r3 (b)))] = some [.bool (decide (a = b))] := by
  rw [qet]
  by_cases h : a.length = b.length
  · simp (disch := omega) only [nI, dT, Bool.not_true, qdh]
    have e := qib k hk [] az bz a b hl (by omega) (k + 0) 0 (by omega) (by omega)
    simp only [List.drop_zero] at e; exact e
  · simp (disch := omega) only [nI, dF, Bool.not_false, qdj]
    rw [dF (qhp h)]
def qk9 (r r' : Int) (l l' : List Cell) : Bool := decide (r = r') && decide (l = l')
theorem qba (k : Nat) (hk : 2000000 ≤ k) (a0 : Int) (a1z : Bool) (a1 : List (Int × Int × Int)) (b0 : Int) (b1z : Bool) (b1 : List (Int × Int × Int)) (hl : (a1.length : Int) ≤ 1048576) : go (k + 2) impl_SameMesh [(.agg [(.int .i64 (a0)), (.arr false (a1z) (.r3 (a1)))]), (.agg [(.int .i64 (b0)), (.arr false (b1z) (.r3 (b1)))])] = some [.bool (qk9 a0 b0 a1 b1)] := by
  rw [qd1]
  simp (disch := omega) only [qb3, bit, qax, nth0, ql8]
  unfold qk9
  cases decide (a0 = b0) <;> rfl
theorem qig (k : Nat) (hk : 2000000 ≤ k) (fu : List (Nat × Nat)) (z z' : Bool) (r r' : Int) (l l' : List Cell) (hl : (l.length : Int) ≤ 1048576) (he : l'.length = l.length) : ∀ (n i : Nat), i ≤ l.length → l.length - i < n →
    lp k spec_SameMesh [] fu 4 (n) (qkx (i : Int) z l r z' l' r') = some [.bool (decide (l.drop i = l'.drop i))]
  | 0, i, hi, hn => by omega
  | n + 1, i, hi, hn => by
    rw [qhd]
    by_cases h : i < l.length
    · have e := qig k hk fu z z' r r' l l' hl he n (i + 1) (by omega) (by omega)
      by_cases g : l.getD i zz3 = l'.getD i zz3
      · simp (disch := omega) only [nI, dT, Bool.and_true, Int.toNat_natCast, g, dTT, Bool.not_true, qc6, qmn, e, qdh, qdj]
        exact congrArg (fun b => some [D.bool b]) (by simp only [qdo h (by omega : i < l'.length) zz3, g, true_and])
      · simp (disch := omega) only [nI, dT, Bool.and_true, Int.toNat_natCast, qdc, dF, Bool.not_false, qc6, qmn, e, qdj]
        exact congrArg (fun b => some [D.bool b]) (by rw [dF]; rw [qdo h (by omega : i < l'.length) zz3]; exact fun hh => g hh.1)
    · simp (disch := omega) only [nI, dF, dT, Bool.and_false, Int.toNat_natCast, Bool.and_true, qc6, qmn, qdh]
      rw [List.drop_of_length_le (by omega), List.drop_of_length_le (by omega)]; rfl
theorem qce (k : Nat) (hk : 2000000 ≤ k) (a0 : Int) (a1z : Bool) (a1 : List (Int × Int × Int)) (b0 : Int) (b1z : Bool) (b1 : List (Int × Int × Int)) (hl : (a1.length : Int) ≤ 1048576) : go (k + 1) spec_SameMesh [(.agg [(.int .i64 (a0)), (.arr false (a1z) (.r3 (a1)))]), (.agg [(.int .i64 (b0)), (.arr false (b1z) (.r3 (b1)))])] = some [.bool (qk9 a0 b0 a1 b1)] := by
  rw [qe5]
  unfold qk9
  by_cases h0 : a0 = b0
  case neg => simp (disch := omega) only [dF, Bool.not_false, nI, qdj, Bool.false_and]
  by_cases h : a1.length = b1.length
  · simp (disch := omega) only [dT, Bool.not_true, nI, qdh, Bool.true_and]
    have e := qig k hk [] a1z b1z a0 b0 a1 b1 hl (by omega) (k + 0) 0 (by omega) (by omega)
    simp only [List.drop_zero] at e; exact e
  · simp (disch := omega) only [dT, Bool.not_true, nI, dF, Bool.not_false, qdj, qdh, Bool.true_and]
    rw [dF (qhp h)]
end Go.Proofs.Ytcaapedadpnjoaa
end
section
namespace Go.Proofs.Ytcaapedadpnjoaa
open Go.Ev
def okp : Int → List Cell → Bool
  | _, [] => true
  | p, x :: l => idOk x.1 x.2.1 x.2.2 && (decide (qlr x.1 x.2.1 x.2.2 = p) && okp (p + qmi x.2.1) l)
def endp : Int → List Cell → Int
  | p, [] => p
  | p, x :: l => endp (p + qmi x.2.1) l
theorem qiz : ∀ (l : List Cell) (r p : Int), qiy r p l = (okp p l && (inR r 1 8 && decide (endp p l = r * 16)))
  | [], r, p => rfl
  | x :: l, r, p => by
    simp only [qiy, okp, endp]
    by_cases h : qlr x.1 x.2.1 x.2.2 = p
    · rw [h, qiz l r]; simp only [Bool.and_assoc]; rfl
    · rw [dF h]; simp
theorem qi0 {l : List Cell} {r p : Int} : qiy r p l = true ↔ okp p l = true ∧ (1 ≤ r ∧ r ≤ 8) ∧ endp p l = r * 16 := by
  rw [qiz]; simp only [Bool.and_eq_true, qgh, decide_eq_true_eq]
theorem qjc {x : Cell} {l : List Cell} {p : Int} : okp p (x :: l) = true ↔ idOk x.1 x.2.1 x.2.2 = true ∧ qlr x.1 x.2.1 x.2.2 = p ∧ okp (p + qmi x.2.1) l = true := by
  simp only [okp, Bool.and_eq_true, decide_eq_true_eq]
theorem qf1 (x : Cell) (l : List Cell) (p : Int) : endp p (x :: l) = endp (p + qmi x.2.1) l := rfl
theorem qjb : ∀ (a b : List Cell) (p : Int), okp p (a ++ b) = (okp p a && okp (endp p a) b)
  | [], b, p => by simp [okp, endp]
  | x :: a, b, p => by simp only [List.cons_append, okp, endp, qjb a b, Bool.and_assoc]
theorem qf0 : ∀ (a b : List Cell) (p : Int), endp p (a ++ b) = endp (endp p a) b
  | [], b, p => by simp [endp]
  | x :: a, b, p => by simp only [List.cons_append, endp, qf0 a b]
theorem qmb (l : List Cell) : ∀ n i, (qma l n i < 0 ↔ ∀ j, i ≤ j → j < i + n → ¬ (1 < qhq l j - qhq l (j + 1) ∨ qhq l j - qhq l (j + 1) < -1)) ∧ (0 ≤ qma l n i → ∃ j : Nat, qma l n i = j ∧ i ≤ j ∧ j < i + n ∧ (1 < qhq l j - qhq l (j + 1) ∨ qhq l j - qhq l (j + 1) < -1))
  | 0, i => by refine ⟨⟨fun _ j h1 h2 => by omega, fun _ => by simp [qma]⟩, fun h => by simp [qma] at h⟩
  | n + 1, i => by
    have ih := qmb l n (i + 1)
    unfold qma
    by_cases g : 1 < qhq l i - qhq l (i + 1) ∨ qhq l i - qhq l (i + 1) < -1
    · rw [if_pos g]
      refine ⟨⟨fun h => by omega, fun h => absurd g (h i (Nat.le_refl _) (by omega))⟩, fun _ => ⟨i, rfl, Nat.le_refl _, by omega, g⟩⟩
    · rw [if_neg g]
      refine ⟨⟨fun h j h1 h2 => ?_, fun h => ih.1.2 fun j h1 h2 => h j (by omega) (by omega)⟩, fun h => ?_⟩
      · by_cases e : j = i
        · subst e; exact g
        · exact ih.1.1 h j (by omega) (by omega)
      · obtain ⟨j, e, h1, h2, h3⟩ := ih.2 h
        exact ⟨j, e, by omega, by omega, h3⟩
theorem qmc {l : List Cell} (h : 0 ≤ unb l) : ∃ j : Nat, unb l = j ∧ j + 1 < l.length ∧ (1 < qhq l j - qhq l (j + 1) ∨ qhq l j - qhq l (j + 1) < -1) := by
  unfold unb at *
  obtain ⟨j, e, h1, h2, h3⟩ := (qmb l _ _).2 h
  exact ⟨j, e, by omega, h3⟩
end Go.Proofs.Ytcaapedadpnjoaa
end
section
namespace Go.Proofs.Ytcaapedadpnjoaa
open Go.Ev
theorem w0 : qmi 0 = 16 := by decide
theorem w1_ : qmi 1 = 8 := by decide
theorem w2_ : qmi 2 = 4 := by decide
theorem w3_ : qmi 3 = 2 := by decide
theorem w4_ : qmi 4 = 1 := by decide
theorem qgf {r l i : Int} : idOk r l i = true ↔ (0 ≤ r ∧ r ≤ 7) ∧ (0 ≤ l ∧ l ≤ 4) ∧ 0 ≤ i ∧ i < pow2 l := by
  simp only [idOk, Bool.and_eq_true, qgh, decide_eq_true_eq]
theorem qlt {r l i : Int} (h : idOk r l i = true) : qlr r l i = r * 16 + i * qmi l := by simp [qlr, h]
abbrev ch0 (x : Cell) : Cell := (x.1, x.2.1 + 1, 2 * x.2.2)
abbrev ch1 (x : Cell) : Cell := (x.1, x.2.1 + 1, 2 * x.2.2 + 1)
theorem qdd {r l i : Int} (h : idOk r l i = true) (hl : l < 4) : idOk r (l + 1) (2 * i) = true ∧ idOk r (l + 1) (2 * i + 1) = true ∧ qlr r (l + 1) (2 * i) = qlr r l i ∧ qlr r (l + 1) (2 * i + 1) = qlr r l i + qmi (l + 1) ∧ qmi (l + 1) + qmi (l + 1) = qmi l := by
  have h' := qgf.1 h
  rcases lev (qgh.2 h'.2.1) with rfl | rfl | rfl | rfl | rfl
  · have p := h'.2.2; simp only [p20] at p
    have a : idOk r 1 (2 * i) = true := qgf.2 ⟨h'.1, by omega, by rw [p21]; omega⟩
    have b : idOk r 1 (2 * i + 1) = true := qgf.2 ⟨h'.1, by omega, by rw [p21]; omega⟩
    refine ⟨a, b, ?_, ?_, rfl⟩
    · show qlr r 1 (2 * i) = _; rw [qlt a, qlt h, w0, w1_]; omega
    · show qlr r 1 (2 * i + 1) = _ + qmi 1; rw [qlt b, qlt h, w0, w1_]; omega
  · have p := h'.2.2; simp only [p21] at p
    have a : idOk r 2 (2 * i) = true := qgf.2 ⟨h'.1, by omega, by rw [p22]; omega⟩
    have b : idOk r 2 (2 * i + 1) = true := qgf.2 ⟨h'.1, by omega, by rw [p22]; omega⟩
    refine ⟨a, b, ?_, ?_, rfl⟩
    · show qlr r 2 (2 * i) = _; rw [qlt a, qlt h, w1_, w2_]; omega
    · show qlr r 2 (2 * i + 1) = _ + qmi 2; rw [qlt b, qlt h, w1_, w2_]; omega
  · have p := h'.2.2; simp only [p22] at p
    have a : idOk r 3 (2 * i) = true := qgf.2 ⟨h'.1, by omega, by rw [p23]; omega⟩
    have b : idOk r 3 (2 * i + 1) = true := qgf.2 ⟨h'.1, by omega, by rw [p23]; omega⟩
    refine ⟨a, b, ?_, ?_, rfl⟩
    · show qlr r 3 (2 * i) = _; rw [qlt a, qlt h, w2_, w3_]; omega
    · show qlr r 3 (2 * i + 1) = _ + qmi 3; rw [qlt b, qlt h, w2_, w3_]; omega
  · have p := h'.2.2; simp only [p23] at p
    have a : idOk r 4 (2 * i) = true := qgf.2 ⟨h'.1, by omega, by rw [p24]; omega⟩
    have b : idOk r 4 (2 * i + 1) = true := qgf.2 ⟨h'.1, by omega, by rw [p24]; omega⟩
    refine ⟨a, b, ?_, ?_, rfl⟩
    · show qlr r 4 (2 * i) = _; rw [qlt a, qlt h, w3_, w4_]; omega
    · show qlr r 4 (2 * i + 1) = _ + qmi 4; rw [qlt b, qlt h, w3_, w4_]; omega
  · omega
def qlk (l : List Cell) (i : Nat) : List Cell := l.take i ++ ch0 (l.getD i zz3) :: ch1 (l.getD i zz3) :: l.drop (i + 1)
theorem qll {l : List Cell} {i : Nat} (h : i < l.length) : (qlk l i).length = l.length + 1 := by
  simp only [qlk, List.length_append, List.length_take, List.length_cons, List.length_drop]; omega
theorem qdm {α : Type} {l : List α} {i : Nat} (h : i < l.length) (d : α) : l = l.take i ++ l.getD i d :: l.drop (i + 1) := by
  rw [← qdn h d, List.take_append_drop]
theorem qlm {l : List Cell} {r p : Int} {i : Nat} (h : qiy r p l = true) (hi : i < l.length) (hl : (l.getD i zz3).2.1 < 4) : qiy r p (qlk l i) = true := by
  rw [qi0] at *
  have e := qdm hi zz3
  have h1 := h
  rw [e, qjb, qf0] at h1
  unfold qlk
  rw [qjb, qf0]
  simp only [qjc, qf1, Bool.and_eq_true] at h1 ⊢
  have c := qdd h1.1.2.1 hl
  refine ⟨⟨h1.1.1, c.1, ?_, c.2.1, ?_, ?_⟩, h1.2.1, ?_⟩
  · rw [c.2.2.1]; exact h1.1.2.2.1
  · rw [c.2.2.2.1, h1.1.2.2.1]
  · rw [Int.add_assoc, c.2.2.2.2]; exact h1.1.2.2.2
  · rw [Int.add_assoc, c.2.2.2.2]; exact h1.2.2
def qde (l : List Cell) (i : Nat) : Nat := if qhq l (i + 1) < qhq l i then i + 1 else i
theorem qdf {l : List Cell} {r p : Int} {i : Nat} (h : qiy r p l = true) (hi : i + 1 < l.length) (hu : 1 < qhq l i - qhq l (i + 1) ∨ qhq l i - qhq l (i + 1) < -1) : qde l i < l.length ∧ qhq l (qde l i) < 4 := by
  have h1 := qi4 _ _ _ h i; have h2 := qi4 _ _ _ h (i + 1)
  unfold qde
  by_cases g : qhq l (i + 1) < qhq l i
  · rw [if_pos g]; exact ⟨hi, by omega⟩
  · rw [if_neg g]; exact ⟨by omega, by omega⟩
def balN : Nat → List Cell → List Cell
  | 0, l => l
  | n + 1, l => if unb l < 0 then l else balN n (qlk l (qde l (unb l).toNat))
theorem qar : ∀ (n : Nat) (l : List Cell) (r : Int), qiy r 0 l = true → 129 ≤ n + l.length → qiy r 0 (balN n l) = true ∧ unb (balN n l) < 0
  | 0, l, r, h, hn => by have := qi3 h; omega
  | n + 1, l, r, h, hn => by
    unfold balN
    by_cases g : unb l < 0
    · rw [if_pos g]; exact ⟨h, g⟩
    · rw [if_neg g]
      obtain ⟨j, e, h1, h2⟩ := qmc (by omega : 0 ≤ unb l)
      have c := qdf h h1 h2
      rw [e, Int.toNat_natCast]
      exact qar n _ r (qlm h c.1 c.2) (by rw [qll c.1]; omega)
def bal (l : List Cell) : List Cell := balN (129 - l.length) l
theorem qat {l : List Cell} {r : Int} (h : qiy r 0 l = true) : qiy r 0 (bal l) = true ∧ unb (bal l) < 0 := qar _ l r h (by have := qi3 h; omega)
end Go.Proofs.Ytcaapedadpnjoaa
end
section
namespace Go.Proofs.Ytcaapedadpnjoaa
open Go.Ev
def tab (L : Nat) (g : Nat → Int) : List Int := (List.range L).map g
theorem ql1 (L : Nat) (g : Nat → Int) : (tab L g).length = L := by simp [tab]
theorem ql0 {L : Nat} {g : Nat → Int} {i : Nat} (h : i < L) : (tab L g).getD i 0 = g i := by simp [tab, h]
theorem qlz {L : Nat} {g g' : Nat → Int} (h : ∀ j, j < L → g j = g' j) : tab L g = tab L g' := by
  unfold tab
  exact List.map_congr_left fun j hj => h j (by simpa using hj)
theorem ql3 {L : Nat} {g : Nat → Int} (i : Nat) (v : Int) : (tab L g).set i v = tab L (fun j => if j = i then v else g j) := by
  apply List.ext_getElem
  · simp [tab]
  · intro j h1 h2
    simp only [tab, List.getElem_set, List.getElem_map, List.getElem_range]
    by_cases h : i = j
    · simp [h]
    · rw [if_neg h, if_neg (fun e => h e.symm)]
theorem ql2 (l : List Int) : l = tab l.length (fun j => l.getD j 0) := by
  apply List.ext_getElem
  · simp [tab]
  · intro j h1 h2
    simp [tab, h1]
theorem ql4 (L : Nat) : List.replicate L (0 : Int) = tab L (fun _ => 0) := by
  apply List.ext_getElem
  · simp [tab]
  · intro j h1 h2; simp [tab]
theorem ql6 {x y B : Int} (hy : 0 < y) (h : -B ≤ x) (h' : x ≤ B) : -B ≤ Int.tdiv x y ∧ Int.tdiv x y ≤ B := by
  by_cases hx : 0 ≤ x
  · rw [Int.tdiv_eq_ediv_of_nonneg hx]
    have h1 := Int.ediv_nonneg hx (by omega : 0 ≤ y)
    have h2 := Int.ediv_le_self y hx
    omega
  · obtain ⟨z, rfl⟩ : ∃ z, x = -z := ⟨-x, by omega⟩
    rw [Int.neg_tdiv, Int.tdiv_eq_ediv_of_nonneg (by omega : 0 ≤ z)]
    have h1 := Int.ediv_nonneg (by omega : 0 ≤ z) (by omega : 0 ≤ y)
    have h2 := Int.ediv_le_self y (by omega : 0 ≤ z)
    omega
theorem qi6 {x w A : Int} (hx : -A ≤ x) (hx' : x ≤ A) (hw : 0 ≤ w) (hw' : w ≤ 16) : -(16 * A) ≤ x * w ∧ x * w ≤ 16 * A := by
  have hA : 0 ≤ A := by omega
  have h1 : x * w ≤ A * w := Int.mul_le_mul_of_nonneg_right hx' hw
  have h2 : A * w ≤ A * 16 := Int.mul_le_mul_of_nonneg_left hw' hA
  have h3 : (-A) * w ≤ x * w := Int.mul_le_mul_of_nonneg_right hx hw
  have h4 : (-A) * w = -(A * w) := Int.neg_mul A w
  omega
def qld (t p m : Int) : Int := cond (inR m 1 10000000 && (inR p 0 m && inR t 0 (1000 * m))) (Int.tdiv (t * p) m) 0
theorem qlh {t p m : Int} (hm : inR m 1 10000000 = true) (hp : inR p 0 m = true) (ht : inR t 0 (1000 * m) = true) : 0 ≤ t * p ∧ t * p ≤ 100000000000000000 := by
  rw [qgh] at *
  refine ⟨Int.mul_nonneg (by omega) (by omega), ?_⟩
  calc t * p ≤ 10000000000 * p := Int.mul_le_mul_of_nonneg_right (by omega) (by omega)
    _ ≤ 10000000000 * 10000000 := Int.mul_le_mul_of_nonneg_left (by omega) (by omega)
theorem qlf (t p m : Int) : 0 ≤ qld t p m ∧ qld t p m ≤ 100000000000000000 := by
  unfold qld
  cases hm : inR m 1 10000000
  · simp
  cases hp : inR p 0 m
  · simp
  cases ht : inR t 0 (1000 * m)
  · simp
  have := qlh hm hp ht
  have hm' := qgh.1 hm
  simp only [Bool.and_self, qdj]
  rw [Int.tdiv_eq_ediv_of_nonneg this.1]
  exact ⟨Int.ediv_nonneg this.1 (by omega), Int.le_trans (Int.ediv_le_self m this.1) this.2⟩
theorem qlg {t p m : Int} (ht : 0 ≤ t) (hp : 0 ≤ p) (h : t ≤ 1000 * m) : qld t p m ≤ 1000 * p := by
  unfold qld
  cases hh : (inR m 1 10000000 && (inR p 0 m && inR t 0 (1000 * m)))
  · simp only [qdh]; omega
  · simp only [Bool.and_eq_true, qgh] at hh
    simp only [qdj]
    rw [Int.tdiv_eq_ediv_of_nonneg (Int.mul_nonneg ht hp)]
    apply Int.ediv_le_of_le_mul (by omega)
    calc t * p ≤ (1000 * m) * p := Int.mul_le_mul_of_nonneg_right h hp
      _ = 1000 * p * m := by rw [Int.mul_assoc, Int.mul_assoc, Int.mul_comm m p]
def loOk (t m r l : Int) : Bool := inR m 1 10000000 && (inR t 0 (1000 * m) && (inR r 0 m && inR l 0 (m - r)))
def loA (t m r l : Int) : Int := cond (loOk t m r l) (qld t r m) 0
def loB (t m r l : Int) : Int := cond (loOk t m r l) (qld t (r + l) m - qld t r m) 0
def quo (sa sb la lb : Int) : Int := Int.tdiv ((sa - sb) * qmi (max lb la)) (32 * (qmi la + qmi lb))
def qji (sa sb ma mb la lb : Int) : Int := max (0 - mb / 4) (min (ma / 4) (quo sa sb la lb))
def fl (l : List Cell) (m b : List Int) (i : Nat) : Int := qji (surf l m b i) (surf l m b (i + 1)) (m.getD i 0) (m.getD (i + 1) 0) (qhq l i) (qhq l (i + 1))
def ff (t : Int) (l : List Cell) (m b : List Int) (i : Nat) : Int := cond (qam t l i) (fl l m b i) 0
theorem qf3 {t : Int} {l : List Cell} {m b : List Int} {i : Nat} (h : l.length ≤ i + 1) : ff t l m b i = 0 := by
  unfold ff qam
  rw [dF (p := i + 1 < l.length) (by omega)]; rfl
theorem qf6 {r : Int} {l : List Cell} {m t b : List Int} (F : StF r l m t b) (i : Nat) : 0 - m.getD (i + 1) 0 / 4 ≤ fl l m b i ∧ fl l m b i ≤ m.getD i 0 / 4 := by
  have h1 := F.at i; have h2 := F.at (i + 1)
  unfold fl qji
  omega
theorem qf4 {r : Int} {l : List Cell} {m t b : List Int} (F : StF r l m t b) (tk : Int) (i : Nat) : 0 - m.getD (i + 1) 0 / 4 ≤ ff tk l m b i ∧ ff tk l m b i ≤ m.getD i 0 / 4 := by
  have h1 := F.at i; have h2 := F.at (i + 1); have h3 := qf6 F i
  unfold ff
  cases qam tk l i
  · simp only [qdh]; omega
  · simp only [qdj]; omega
def rgt (tk : Int) (l : List Cell) (m b : List Int) (i : Nat) : Int := max 0 (ff tk l m b i)
def lft (tk : Int) (l : List Cell) (m b : List Int) (i : Nat) : Int := if 1 ≤ i then max 0 (0 - ff tk l m b (i - 1)) else 0
def outA (tk : Int) (l : List Cell) (m t b : List Int) (i : Nat) : Int := loA (t.getD i 0) (m.getD i 0) (rgt tk l m b i) (lft tk l m b i)
def outB (tk : Int) (l : List Cell) (m t b : List Int) (i : Nat) : Int := loB (t.getD i 0) (m.getD i 0) (rgt tk l m b i) (lft tk l m b i)
def stM (tk : Int) (l : List Cell) (m b : List Int) (j : Nat) : Int := m.getD j 0 - ff tk l m b j + (if 1 ≤ j then ff tk l m b (j - 1) else 0)
def stT (tk : Int) (l : List Cell) (m t b : List Int) (j : Nat) : Int := t.getD j 0 - outA tk l m t b j - outB tk l m t b j + (if 1 ≤ j then outA tk l m t b (j - 1) else 0) + outB tk l m t b (j + 1)
theorem qhs (t m l : Int) : loA t m 0 l = 0 := by
  unfold loA qld
  cases loOk t m 0 l
  · rfl
  · simp
theorem qht (t m r : Int) : loB t m r 0 = 0 := by
  unfold loB
  cases loOk t m r 0
  · rfl
  · simp
theorem qje {tk : Int} {l : List Cell} {m t b : List Int} {i : Nat} (h : rgt tk l m b i = 0) : outA tk l m t b i = 0 := by unfold outA; rw [h, qhs]
theorem qjg {tk : Int} {l : List Cell} {m t b : List Int} {i : Nat} (h : lft tk l m b i = 0) : outB tk l m t b i = 0 := by unfold outB; rw [h, qht]
theorem qjd (tk : Int) (l : List Cell) (m t b : List Int) (i : Nat) : 0 ≤ outA tk l m t b i ∧ outA tk l m t b i ≤ 100000000000000000 := by
  unfold outA loA
  cases loOk (t.getD i 0) (m.getD i 0) (rgt tk l m b i) (lft tk l m b i)
  · simp
  · exact qlf _ _ _
theorem qjf (tk : Int) (l : List Cell) (m t b : List Int) (i : Nat) : -100000000000000000 ≤ outB tk l m t b i ∧ outB tk l m t b i ≤ 100000000000000000 := by
  unfold outB loB
  cases loOk (t.getD i 0) (m.getD i 0) (rgt tk l m b i) (lft tk l m b i)
  · simp
  · have h1 := qlf (t.getD i 0) (rgt tk l m b i) (m.getD i 0)
    have h2 := qlf (t.getD i 0) (rgt tk l m b i + lft tk l m b i) (m.getD i 0)
    simp only [qdj]; omega
def Tk (tk : Int) (l : List Cell) (m t b : List Int) (k j : Nat) : Int := t.getD j 0 - (if j < k then outA tk l m t b j + outB tk l m t b j else 0) + (if 1 ≤ j ∧ j ≤ k then outA tk l m t b (j - 1) else 0) + (if j + 1 < k then outB tk l m t b (j + 1) else 0)
def upd (G : Nat → Int) (i : Nat) (A B : Int) (j : Nat) : Int := if 1 ≤ i ∧ j = i - 1 then G j + B else if j = i + 1 then G j + A else if j = i then G j - A - B else G j
theorem qmg {G : Nat → Int} {i : Nat} {A B : Int} (g : 1 ≤ i) : (fun j => if j = i - 1 then G (i - 1) + B else if j = i + 1 then G (i + 1) + A else if j = i then G i - A - B else G j) = upd G i A B := by
  funext j
  unfold upd
  by_cases q1 : j = i - 1
  · rw [if_pos q1, if_pos ⟨g, q1⟩, q1]
  · rw [if_neg q1, if_neg (show ¬ (1 ≤ i ∧ j = i - 1) from fun hh => q1 hh.2)]
    by_cases q2 : j = i + 1
    · rw [if_pos q2, if_pos q2, q2]
    · rw [if_neg q2, if_neg q2]
      by_cases q3 : j = i
      · rw [if_pos q3, if_pos q3, q3]
      · rw [if_neg q3, if_neg q3]
theorem qmf {G : Nat → Int} {i : Nat} {A B : Int} (hB : B = 0) : (fun j => if j = i + 1 then G (i + 1) + A else if j = i then G i - A - B else G j) = upd G i A B := by
  funext j
  unfold upd
  by_cases q1 : 1 ≤ i ∧ j = i - 1
  · rw [if_pos q1, if_neg (by omega), if_neg (by omega), hB]; omega
  · rw [if_neg q1]
    by_cases q2 : j = i + 1
    · rw [if_pos q2, if_pos q2, q2]
    · rw [if_neg q2, if_neg q2]
      by_cases q3 : j = i
      · rw [if_pos q3, if_pos q3, q3]
      · rw [if_neg q3, if_neg q3]
theorem qme {G : Nat → Int} {i : Nat} {A B : Int} (g : 1 ≤ i) (hA : A = 0) : (fun j => if j = i - 1 then G (i - 1) + B else if j = i then G i - A - B else G j) = upd G i A B := by
  funext j
  unfold upd
  by_cases q1 : j = i - 1
  · rw [if_pos q1, if_pos ⟨g, q1⟩, q1]
  · rw [if_neg q1, if_neg (show ¬ (1 ≤ i ∧ j = i - 1) from fun hh => q1 hh.2)]
    by_cases q2 : j = i + 1
    · rw [if_pos q2, if_neg (by omega), hA]; omega
    · rw [if_neg q2]
      by_cases q3 : j = i
      · rw [if_pos q3, if_pos q3, q3]
      · rw [if_neg q3, if_neg q3]
theorem qmd {G : Nat → Int} {i : Nat} {A B : Int} (hA : A = 0) (hB : B = 0) : (fun j => if j = i then G i - A - B else G j) = upd G i A B := by
  funext j
  unfold upd
  by_cases q1 : 1 ≤ i ∧ j = i - 1
  · rw [if_pos q1, if_neg (by omega), hB]; omega
  · rw [if_neg q1]
    by_cases q2 : j = i + 1
    · rw [if_pos q2, if_neg (by omega), hA]; omega
    · rw [if_neg q2]
      by_cases q3 : j = i
      · rw [if_pos q3, if_pos q3, q3]
      · rw [if_neg q3, if_neg q3]
theorem qak (tk : Int) (l : List Cell) (m t b : List Int) (i : Nat) (hi : i < l.length) :
    tab l.length (upd (Tk tk l m t b i) i (outA tk l m t b i) (outB tk l m t b i)) = tab l.length (Tk tk l m t b (i + 1)) := qlz fun j hj => by
  unfold upd
  by_cases g1 : 1 ≤ i ∧ j = i - 1
  · obtain ⟨g1, rfl⟩ := g1
    rw [if_pos ⟨g1, rfl⟩]
    unfold Tk
    rw [if_pos (show i - 1 < i by omega), if_neg (show ¬ (i - 1 + 1 < i) by omega), if_pos (show i - 1 < i + 1 by omega), if_pos (show i - 1 + 1 < i + 1 by omega), show i - 1 + 1 = i by omega]
    have e2 : (1 ≤ i - 1 ∧ i - 1 ≤ i) = (1 ≤ i - 1 ∧ i - 1 ≤ i + 1) := by rw [eq_iff_iff]; omega
    simp only [e2]; omega
  · rw [if_neg g1]
    by_cases g2 : j = i + 1
    · subst g2
      rw [if_pos rfl]
      unfold Tk
      rw [if_neg (show ¬ (i + 1 < i) by omega), if_neg (show ¬ (1 ≤ i + 1 ∧ i + 1 ≤ i) by omega), if_neg (show ¬ (i + 1 + 1 < i) by omega), if_neg (show ¬ (i + 1 < i + 1) by omega), if_pos (show 1 ≤ i + 1 ∧ i + 1 ≤ i + 1 by omega), if_neg (show ¬ (i + 1 + 1 < i + 1) by omega), Nat.add_sub_cancel]; omega
    · rw [if_neg g2]
      by_cases g3 : j = i
      · subst g3
        rw [if_pos rfl]
        unfold Tk
        rw [if_neg (show ¬ (j < j) by omega), if_neg (show ¬ (j + 1 < j) by omega), if_pos (show j < j + 1 by omega), if_neg (show ¬ (j + 1 < j + 1) by omega)]
        have e2 : (1 ≤ j ∧ j ≤ j) = (1 ≤ j ∧ j ≤ j + 1) := by rw [eq_iff_iff]; omega
        simp only [e2]; omega
      · rw [if_neg g3]
        unfold Tk
        have e1 : (j < i) = (j < i + 1) := by rw [eq_iff_iff]; omega
        have e2 : (1 ≤ j ∧ j ≤ i) = (1 ≤ j ∧ j ≤ i + 1) := by rw [eq_iff_iff]; omega
        have e3 : (j + 1 < i) = (j + 1 < i + 1) := by rw [eq_iff_iff]; omega
        simp only [e1, e2, e3]
theorem qaj (tk : Int) (l : List Cell) (m t b : List Int) (hm : m.length = l.length) : tab l.length (Tk tk l m t b l.length) = tab l.length (stT tk l m t b) := qlz fun j hj => by
  unfold Tk stT
  rw [if_pos hj]
  have e2 : (1 ≤ j ∧ j ≤ l.length) = (1 ≤ j) := by rw [eq_iff_iff]; omega
  simp only [e2]
  by_cases g : j + 1 < l.length
  · rw [if_pos g]; omega
  · rw [if_neg g]
    have : outB tk l m t b (j + 1) = 0 := by
      apply qjg
      unfold lft
      rw [if_pos (by omega), Nat.add_sub_cancel, qf3 (by omega)]; rfl
    omega
theorem qal (tk : Int) (l : List Cell) (m t b : List Int) (ht : t.length = l.length) : t = tab l.length (Tk tk l m t b 0) := by
  have h := ql2 t
  rw [ht] at h
  refine h.trans (qlz fun j hj => ?_)
  unfold Tk
  rw [if_neg (by omega), if_neg (by omega), if_neg (by omega)]; omega
end Go.Proofs.Ytcaapedadpnjoaa
end
section
namespace Go.Proofs.Ytcaapedadpnjoaa
open Go.Ev
theorem qft (k : Nat) (a b c d e f : Int) : go (k + 1) spec_l09Pair [(.int .i64 (a)), (.int .i64 (b)), (.int .i64 (c)), (.int .i64 (d)), (.int .i64 (e)), (.int .i64 (f))] =
 (go k spec_WidthOf [(.int .i64 (if f > e then f else e))]).bind fun r0 =>
 (go k spec_WidthOf [(.int .i64 (e))]).bind fun r1 =>
 (go k spec_WidthOf [(.int .i64 (f))]).bind fun r2 =>
 (go k spec_DivTrunc [(.int .i64 (IntKind.wrap .i64 (IntKind.wrap .i64 (a - b) * D.toInt (nth r0 0)))), (.int .i64 (IntKind.wrap .i64 ((32 : Int) * IntKind.wrap .i64 (D.toInt (nth r1 0) + D.toInt (nth r2 0)))))]).bind fun r3 =>
 some [(.int .i64 (if IntKind.wrap .i64 ((0 : Int) - IntKind.wrap .i64 (Int.tdiv d (4 : Int))) > if IntKind.wrap .i64 (Int.tdiv c (4 : Int)) < D.toInt (nth r3 0) then IntKind.wrap .i64 (Int.tdiv c (4 : Int)) else D.toInt (nth r3 0) then IntKind.wrap .i64 ((0 : Int) - IntKind.wrap .i64 (Int.tdiv d (4 : Int))) else if IntKind.wrap .i64 (Int.tdiv c (4 : Int)) < D.toInt (nth r3 0) then IntKind.wrap .i64 (Int.tdiv c (4 : Int)) else D.toInt (nth r3 0)))] := by kernel_rfl
theorem qfs (k : Nat) (a0 : Int) (a1z : Bool) (a1 : List (Int × Int × Int)) (a2z : Bool) (a2 : List Int) (a3z : Bool) (a3 : List Int) (a4z : Bool) (a4 : List Int) (b : Int) : go (k + 1) spec_l09Flux [(.agg [(.int .i64 (a0)), (.arr false (a1z) (.r3 (a1))), (.arr false (a2z) (.ints .i64 (a2))), (.arr false (a3z) (.ints .i64 (a3))), (.arr false (a4z) (.ints .i64 (a4)))]), (.int .i64 (b))] =
 (go k spec_l09Surface [(.agg [(.int .i64 (a0)), (.arr false (a1z) (.r3 (a1))), (.arr false (a2z) (.ints .i64 (a2))), (.arr false (a3z) (.ints .i64 (a3))), (.arr false (a4z) (.ints .i64 (a4)))]), (.int .i64 (b))]).bind fun r0 =>
 (go k spec_l09Surface [(.agg [(.int .i64 (a0)), (.arr false (a1z) (.r3 (a1))), (.arr false (a2z) (.ints .i64 (a2))), (.arr false (a3z) (.ints .i64 (a3))), (.arr false (a4z) (.ints .i64 (a4)))]), (.int .i64 (IntKind.wrap .i64 (b + (1 : Int))))]).bind fun r1 =>
 cond (decide ((0 : Int) ≤ b) && decide (b < nI (List.length a2)))
 (cond (decide ((0 : Int) ≤ IntKind.wrap .i64 (b + (1 : Int))) && decide (IntKind.wrap .i64 (b + (1 : Int)) < nI (List.length a2)))
 (cond (decide ((0 : Int) ≤ b) && decide (b < nI (List.length a1)))
 (cond (decide ((0 : Int) ≤ IntKind.wrap .i64 (b + (1 : Int))) && decide (IntKind.wrap .i64 (b + (1 : Int)) < nI (List.length a1)))
 ((go k spec_l09Pair [(.int .i64 (D.toInt (nth r0 0))), (.int .i64 (D.toInt (nth r1 0))), (.int .i64 (List.getD a2 (Int.toNat b) (0 : Int))), (.int .i64 (List.getD a2 (Int.toNat (IntKind.wrap .i64 (b + (1 : Int)))) (0 : Int))), (.int .i64 (Prod.fst (Prod.snd (List.getD a1 (Int.toNat b) zz3)))), (.int .i64 (Prod.fst (Prod.snd (List.getD a1 (Int.toNat (IntKind.wrap .i64 (b + (1 : Int)))) zz3))))]).bind fun r2 =>
 some [(.int .i64 (D.toInt (nth r2 0)))])
 (none))
 (none))
 (none))
 (none) := by kernel_rfl
theorem qe3 (k : Nat) (a b c d : Int) : go (k + 1) spec_LeafOut [(.int .i64 (a)), (.int .i64 (b)), (.int .i64 (c)), (.int .i64 (d))] =
 (go k spec_l01In [(.int .i64 (b)), (.int .i64 ((1 : Int))), (.int .i64 ((10000000 : Int)))]).bind fun r0 =>
 cond (!bit (nth r0 0))
 (some [(.int .i64 (0 : Int)), (.int .i64 (0 : Int))])
 ((go k spec_l01In [(.int .i64 (a)), (.int .i64 (0 : Int)), (.int .i64 (IntKind.wrap .i64 ((1000 : Int) * b)))]).bind fun r1 =>
 cond (!bit (nth r1 0))
 (some [(.int .i64 (0 : Int)), (.int .i64 (0 : Int))])
 ((go k spec_l01In [(.int .i64 (c)), (.int .i64 (0 : Int)), (.int .i64 (b))]).bind fun r2 =>
 cond (!bit (nth r2 0))
 (some [(.int .i64 (0 : Int)), (.int .i64 (0 : Int))])
 ((go k spec_l01In [(.int .i64 (d)), (.int .i64 (0 : Int)), (.int .i64 (IntKind.wrap .i64 (b - c)))]).bind fun r3 =>
 cond (!bit (nth r3 0))
 (some [(.int .i64 (0 : Int)), (.int .i64 (0 : Int))])
 ((go k spec_ShareOut [(.int .i64 (a)), (.int .i64 (c)), (.int .i64 (b))]).bind fun r4 =>
 (go k spec_ShareOut [(.int .i64 (a)), (.int .i64 (IntKind.wrap .i64 (c + d))), (.int .i64 (b))]).bind fun r5 =>
 some [(.int .i64 (D.toInt (nth r4 0))), (.int .i64 (IntKind.wrap .i64 (D.toInt (nth r5 0) - D.toInt (nth r4 0))))])))) := by kernel_rfl
theorem qe7 (k : Nat) (a b c : Int) : go (k + 1) spec_ShareOut [(.int .i64 (a)), (.int .i64 (b)), (.int .i64 (c))] =
 (go k spec_l01In [(.int .i64 (c)), (.int .i64 ((1 : Int))), (.int .i64 ((10000000 : Int)))]).bind fun r0 =>
 cond (!bit (nth r0 0))
 (some [(.int .i64 (0 : Int))])
 ((go k spec_l01In [(.int .i64 (b)), (.int .i64 (0 : Int)), (.int .i64 (c))]).bind fun r1 =>
 cond (!bit (nth r1 0))
 (some [(.int .i64 (0 : Int))])
 ((go k spec_l01In [(.int .i64 (a)), (.int .i64 (0 : Int)), (.int .i64 (IntKind.wrap .i64 ((1000 : Int) * c)))]).bind fun r2 =>
 cond (!bit (nth r2 0))
 (some [(.int .i64 (0 : Int))])
 (cond (!decide (c = (0 : Int)))
 (some [(.int .i64 (IntKind.wrap .i64 (Int.tdiv (IntKind.wrap .i64 (a * b)) c)))])
 (none)))) := by kernel_rfl
theorem qey (k : Nat) (a b : Int) : go (k + 1) spec_DivTrunc [(.int .i64 (a)), (.int .i64 (b))] =
 cond (decide (b ≤ (0 : Int)))
 (some [(.int .i64 (0 : Int))])
 (cond (!decide (b = (0 : Int)))
 (some [(.int .i64 (IntKind.wrap .i64 (Int.tdiv a b)))])
 (none)) := by kernel_rfl
theorem qfa (k : Nat) (a0 : Int) (a1z : Bool) (a1 : List (Int × Int × Int)) (a2z : Bool) (a2 : List Int) (a3z : Bool) (a3 : List Int) (a4z : Bool) (a4 : List Int) (b : Int) : go (k + 1) spec_StepState [(.agg [(.int .i64 (a0)), (.arr false (a1z) (.r3 (a1))), (.arr false (a2z) (.ints .i64 (a2))), (.arr false (a3z) (.ints .i64 (a3))), (.arr false (a4z) (.ints .i64 (a4)))]), (.int .i64 (b))] =
 (go k spec_StateOk [(.agg [(.int .i64 (a0)), (.arr false (a1z) (.r3 (a1))), (.arr false (a2z) (.ints .i64 (a2))), (.arr false (a3z) (.ints .i64 (a3))), (.arr false (a4z) (.ints .i64 (a4)))])]).bind fun r0 =>
 cond (!bit (nth r0 0))
 ((go k spec_l07Copy [(.agg [(.int .i64 (a0)), (.arr false (a1z) (.r3 (a1))), (.arr false (a2z) (.ints .i64 (a2))), (.arr false (a3z) (.ints .i64 (a3))), (.arr false (a4z) (.ints .i64 (a4)))])]).bind fun r1 =>
 some [(.agg [(.int .i64 (D.toInt (D.cell 0 (nth r1 0)))), (.arr true (D.nil (D.cell 1 (nth r1 0))) (.r3 (D.r3 (D.cell 1 (nth r1 0))))), (.arr true (D.nil (D.cell 2 (nth r1 0))) (.ints .i64 (D.ints (D.cell 2 (nth r1 0))))), (.arr true (D.nil (D.cell 3 (nth r1 0))) (.ints .i64 (D.ints (D.cell 3 (nth r1 0))))), (.arr true (D.nil (D.cell 4 (nth r1 0))) (.ints .i64 (D.ints (D.cell 4 (nth r1 0)))))])])
 (cond (decide (b < (0 : Int)))
 ((go k spec_l07Copy [(.agg [(.int .i64 (a0)), (.arr false (a1z) (.r3 (a1))), (.arr false (a2z) (.ints .i64 (a2))), (.arr false (a3z) (.ints .i64 (a3))), (.arr false (a4z) (.ints .i64 (a4)))])]).bind fun r2 =>
 some [(.agg [(.int .i64 (D.toInt (D.cell 0 (nth r2 0)))), (.arr true (D.nil (D.cell 1 (nth r2 0))) (.r3 (D.r3 (D.cell 1 (nth r2 0))))), (.arr true (D.nil (D.cell 2 (nth r2 0))) (.ints .i64 (D.ints (D.cell 2 (nth r2 0))))), (.arr true (D.nil (D.cell 3 (nth r2 0))) (.ints .i64 (D.ints (D.cell 3 (nth r2 0))))), (.arr true (D.nil (D.cell 4 (nth r2 0))) (.ints .i64 (D.ints (D.cell 4 (nth r2 0)))))])])
 ((go k spec_l11Step [(.agg [(.int .i64 (a0)), (.arr false (a1z) (.r3 (a1))), (.arr false (a2z) (.ints .i64 (a2))), (.arr false (a3z) (.ints .i64 (a3))), (.arr false (a4z) (.ints .i64 (a4)))]), (.int .i64 (b))]).bind fun r3 =>
 some [(.agg [(.int .i64 (D.toInt (D.cell 0 (nth r3 0)))), (.arr true (D.nil (D.cell 1 (nth r3 0))) (.r3 (D.r3 (D.cell 1 (nth r3 0))))), (.arr true (D.nil (D.cell 2 (nth r3 0))) (.ints .i64 (D.ints (D.cell 2 (nth r3 0))))), (.arr true (D.nil (D.cell 3 (nth r3 0))) (.ints .i64 (D.ints (D.cell 3 (nth r3 0))))), (.arr true (D.nil (D.cell 4 (nth r3 0))) (.ints .i64 (D.ints (D.cell 4 (nth r3 0)))))])])) := by kernel_rfl
def qk6 (x0 : Int) (z1 : Bool) (l2 : List (Int × Int × Int)) (z3 : Bool) (l4 : List Int) (z5 : Bool) (l6 : List Int) (z7 : Bool) (l8 : List Int) (x9 : Int) (z10 : Bool) (l11 : List (Int × Int × Int)) (z12 : Bool) (l13 : List Int) (z14 : Bool) (l15 : List Int) (z16 : Bool) (l17 : List Int) (x18 : Int) (z19 : Bool) (l20 : List (Int × Int × Int)) (z21 : Bool) (l22 : List Int) (z23 : Bool) (l24 : List Int) (z25 : Bool) (l26 : List Int) (x27 : Int) (z28 : Bool) (l29 : List Int) : St := ⟨fill 151 [(2, (.ptr 4 (0) (0))), (4, (.ptr 9 (0) (0))), (5, (.ptr 14 (0) (0))), (6, (.sl 15 none)), (8, (.int .i64 (x0)))], [], [(.arr false (z1) (.r3 (l2))), (.arr false (z3) (.ints .i64 (l4))), (.arr false (z5) (.ints .i64 (l6))), (.arr false (z7) (.ints .i64 (l8))), (.box true [(.int .i64 (x9)), (.sl 0 none), (.sl 1 none), (.sl 2 none), (.sl 3 none)]), (.arr true (z10) (.r3 (l11))), (.arr true (z12) (.ints .i64 (l13))), (.arr true (z14) (.ints .i64 (l15))), (.arr true (z16) (.ints .i64 (l17))), (.box true [(.int .i64 (x18)), (.sl 5 none), (.sl 6 none), (.sl 7 none), (.sl 8 none)]), (.arr true (z19) (.r3 (l20))), (.arr true (z21) (.ints .i64 (l22))), (.arr true (z23) (.ints .i64 (l24))), (.arr true (z25) (.ints .i64 (l26))), (.box true [(.int .i64 (x27)), (.sl 10 none), (.sl 11 none), (.sl 12 none), (.sl 13 none)]), (.arr true (z28) (.ints .i64 (l29)))]⟩
def qk7 (x0 x1 : Int) (z2 : Bool) (l3 : List (Int × Int × Int)) (z4 : Bool) (l5 : List Int) (z6 : Bool) (l7 : List Int) (z8 : Bool) (l9 : List Int) (x10 : Int) (z11 : Bool) (l12 : List (Int × Int × Int)) (z13 : Bool) (l14 : List Int) (z15 : Bool) (l16 : List Int) (z17 : Bool) (l18 : List Int) (x19 : Int) (z20 : Bool) (l21 : List (Int × Int × Int)) (z22 : Bool) (l23 : List Int) (z24 : Bool) (l25 : List Int) (z26 : Bool) (l27 : List Int) (x28 : Int) (z29 : Bool) (l30 : List Int) : St := ⟨fill 151 [(1, (.int .i64 (x0))), (2, (.ptr 4 (0) (0))), (4, (.ptr 9 (0) (0))), (5, (.ptr 14 (0) (0))), (6, (.sl 15 none)), (7, (.int .i64 (x1)))], [], [(.arr false (z2) (.r3 (l3))), (.arr false (z4) (.ints .i64 (l5))), (.arr false (z6) (.ints .i64 (l7))), (.arr false (z8) (.ints .i64 (l9))), (.box true [(.int .i64 (x10)), (.sl 0 none), (.sl 1 none), (.sl 2 none), (.sl 3 none)]), (.arr true (z11) (.r3 (l12))), (.arr true (z13) (.ints .i64 (l14))), (.arr true (z15) (.ints .i64 (l16))), (.arr true (z17) (.ints .i64 (l18))), (.box true [(.int .i64 (x19)), (.sl 5 none), (.sl 6 none), (.sl 7 none), (.sl 8 none)]), (.arr true (z20) (.r3 (l21))), (.arr true (z22) (.ints .i64 (l23))), (.arr true (z24) (.ints .i64 (l25))), (.arr true (z26) (.ints .i64 (l27))), (.box true [(.int .i64 (x28)), (.sl 10 none), (.sl 11 none), (.sl 12 none), (.sl 13 none)]), (.arr true (z29) (.ints .i64 (l30)))]⟩
theorem qfv (k : Nat) (a0 : Int) (a1z : Bool) (a1 : List (Int × Int × Int)) (a2z : Bool) (a2 : List Int) (a3z : Bool) (a3 : List Int) (a4z : Bool) (a4 : List Int) (b : Int) : go (k + 1) spec_l11Step [(.agg [(.int .i64 (a0)), (.arr false (a1z) (.r3 (a1))), (.arr false (a2z) (.ints .i64 (a2))), (.arr false (a3z) (.ints .i64 (a3))), (.arr false (a4z) (.ints .i64 (a4)))]), (.int .i64 (b))] =
 (go k spec_l07Copy [(.agg [(.int .i64 (a0)), (.arr false (a1z) (.r3 (a1))), (.arr false (a2z) (.ints .i64 (a2))), (.arr false (a3z) (.ints .i64 (a3))), (.arr false (a4z) (.ints .i64 (a4)))])]).bind fun r0 =>
 cond (decide ((0 : Int) ≤ nI (List.length a2)) && decide (nI (List.length a2) ≤ nI (List.length a2)) && decide (nI (List.length a2) ≤ nI bigLen))
 (lp k spec_l11Step [] [] 4 k (qk7 b (0 : Int) a1z a1 a2z a2 a3z a3 a4z a4 a0 true ([]) true ([]) true ([]) true ([]) (0 : Int) (D.nil (D.cell 1 (nth r0 0))) (D.r3 (D.cell 1 (nth r0 0))) (D.nil (D.cell 2 (nth r0 0))) (D.ints (D.cell 2 (nth r0 0))) (D.nil (D.cell 3 (nth r0 0))) (D.ints (D.cell 3 (nth r0 0))) (D.nil (D.cell 4 (nth r0 0))) (D.ints (D.cell 4 (nth r0 0))) (D.toInt (D.cell 0 (nth r0 0))) false (List.replicate (Int.toNat (nI (List.length a2))) (0 : Int))))
 (none) := by kernel_rfl
theorem qhm (k n : Nat) (fu : List (Nat × Nat)) (x0 : Int) (z1 : Bool) (l2 : List (Int × Int × Int)) (z3 : Bool) (l4 : List Int) (z5 : Bool) (l6 : List Int) (z7 : Bool) (l8 : List Int) (x9 : Int) (z10 : Bool) (l11 : List (Int × Int × Int)) (z12 : Bool) (l13 : List Int) (z14 : Bool) (l15 : List Int) (z16 : Bool) (l17 : List Int) (x18 : Int) (z19 : Bool) (l20 : List (Int × Int × Int)) (z21 : Bool) (l22 : List Int) (z23 : Bool) (l24 : List Int) (z25 : Bool) (l26 : List Int) (x27 : Int) (z28 : Bool) (l29 : List Int) : lp k spec_l11Step [] fu 11 (n + 1) (qk6 x0 z1 l2 z3 l4 z5 l6 z7 l8 x9 z10 l11 z12 l13 z14 l15 z16 l17 x18 z19 l20 z21 l22 z23 l24 z25 l26 x27 z28 l29) =
 cond (decide (x0 < nI (List.length l4)))
 (cond (decide ((0 : Int) ≤ x0) && decide (x0 < nI (List.length l29)))
 (cond (decide ((0 : Int) < x0))
 (cond (decide ((0 : Int) ≤ IntKind.wrap .i64 (x0 - (1 : Int))) && decide (IntKind.wrap .i64 (x0 - (1 : Int)) < nI (List.length l29)))
 (cond (decide ((0 : Int) ≤ x0) && decide (x0 < nI (List.length l6)))
 (cond (decide ((0 : Int) ≤ x0) && decide (x0 < nI (List.length l4)))
 ((go k spec_LeafOut [(.int .i64 (List.getD l6 (Int.toNat x0) (0 : Int))), (.int .i64 (List.getD l4 (Int.toNat x0) (0 : Int))), (.int .i64 (if (0 : Int) > List.getD l29 (Int.toNat x0) (0 : Int) then (0 : Int) else List.getD l29 (Int.toNat x0) (0 : Int))), (.int .i64 (if (0 : Int) > IntKind.wrap .i64 ((0 : Int) - List.getD l29 (Int.toNat (IntKind.wrap .i64 (x0 - (1 : Int)))) (0 : Int)) then (0 : Int) else IntKind.wrap .i64 ((0 : Int) - List.getD l29 (Int.toNat (IntKind.wrap .i64 (x0 - (1 : Int)))) (0 : Int))))]).bind fun r0 =>
 cond (decide ((0 : Int) ≤ x0) && decide (x0 < nI (List.length l24)))
 (cond (decide ((0 : Int) ≤ x0) && decide (x0 < nI (List.length l24)))
 (cond (decide ((0 : Int) < if (0 : Int) > List.getD l29 (Int.toNat x0) (0 : Int) then (0 : Int) else List.getD l29 (Int.toNat x0) (0 : Int)))
 (cond (decide ((0 : Int) ≤ IntKind.wrap .i64 (x0 + (1 : Int))) && decide (IntKind.wrap .i64 (x0 + (1 : Int)) < nI (List.length (List.set l24 (Int.toNat x0) (IntKind.wrap .i64 (IntKind.wrap .i64 (List.getD l24 (Int.toNat x0) (0 : Int) - D.toInt (nth r0 0)) - D.toInt (nth r0 1)))))))
 (cond (decide ((0 : Int) ≤ IntKind.wrap .i64 (x0 + (1 : Int))) && decide (IntKind.wrap .i64 (x0 + (1 : Int)) < nI (List.length (List.set l24 (Int.toNat x0) (IntKind.wrap .i64 (IntKind.wrap .i64 (List.getD l24 (Int.toNat x0) (0 : Int) - D.toInt (nth r0 0)) - D.toInt (nth r0 1)))))))
 (cond (decide ((0 : Int) < if (0 : Int) > IntKind.wrap .i64 ((0 : Int) - List.getD l29 (Int.toNat (IntKind.wrap .i64 (x0 - (1 : Int)))) (0 : Int)) then (0 : Int) else IntKind.wrap .i64 ((0 : Int) - List.getD l29 (Int.toNat (IntKind.wrap .i64 (x0 - (1 : Int)))) (0 : Int))))
 (cond (decide ((0 : Int) ≤ IntKind.wrap .i64 (x0 - (1 : Int))) && decide (IntKind.wrap .i64 (x0 - (1 : Int)) < nI (List.length (List.set (List.set l24 (Int.toNat x0) (IntKind.wrap .i64 (IntKind.wrap .i64 (List.getD l24 (Int.toNat x0) (0 : Int) - D.toInt (nth r0 0)) - D.toInt (nth r0 1)))) (Int.toNat (IntKind.wrap .i64 (x0 + (1 : Int)))) (IntKind.wrap .i64 (List.getD (List.set l24 (Int.toNat x0) (IntKind.wrap .i64 (IntKind.wrap .i64 (List.getD l24 (Int.toNat x0) (0 : Int) - D.toInt (nth r0 0)) - D.toInt (nth r0 1)))) (Int.toNat (IntKind.wrap .i64 (x0 + (1 : Int)))) (0 : Int) + D.toInt (nth r0 0)))))))
 (cond (decide ((0 : Int) ≤ IntKind.wrap .i64 (x0 - (1 : Int))) && decide (IntKind.wrap .i64 (x0 - (1 : Int)) < nI (List.length (List.set (List.set l24 (Int.toNat x0) (IntKind.wrap .i64 (IntKind.wrap .i64 (List.getD l24 (Int.toNat x0) (0 : Int) - D.toInt (nth r0 0)) - D.toInt (nth r0 1)))) (Int.toNat (IntKind.wrap .i64 (x0 + (1 : Int)))) (IntKind.wrap .i64 (List.getD (List.set l24 (Int.toNat x0) (IntKind.wrap .i64 (IntKind.wrap .i64 (List.getD l24 (Int.toNat x0) (0 : Int) - D.toInt (nth r0 0)) - D.toInt (nth r0 1)))) (Int.toNat (IntKind.wrap .i64 (x0 + (1 : Int)))) (0 : Int) + D.toInt (nth r0 0)))))))
 (lp k spec_l11Step [] fu 11 n (qk6 (IntKind.wrap .i64 (x0 + (1 : Int))) z1 l2 z3 l4 z5 l6 z7 l8 x9 z10 l11 z12 l13 z14 l15 z16 l17 x18 z19 l20 z21 l22 z23 (List.set (List.set (List.set l24 (Int.toNat x0) (IntKind.wrap .i64 (IntKind.wrap .i64 (List.getD l24 (Int.toNat x0) (0 : Int) - D.toInt (nth r0 0)) - D.toInt (nth r0 1)))) (Int.toNat (IntKind.wrap .i64 (x0 + (1 : Int)))) (IntKind.wrap .i64 (List.getD (List.set l24 (Int.toNat x0) (IntKind.wrap .i64 (IntKind.wrap .i64 (List.getD l24 (Int.toNat x0) (0 : Int) - D.toInt (nth r0 0)) - D.toInt (nth r0 1)))) (Int.toNat (IntKind.wrap .i64 (x0 + (1 : Int)))) (0 : Int) + D.toInt (nth r0 0)))) (Int.toNat (IntKind.wrap .i64 (x0 - (1 : Int)))) (IntKind.wrap .i64 (List.getD (List.set (List.set l24 (Int.toNat x0) (IntKind.wrap .i64 (IntKind.wrap .i64 (List.getD l24 (Int.toNat x0) (0 : Int) - D.toInt (nth r0 0)) - D.toInt (nth r0 1)))) (Int.toNat (IntKind.wrap .i64 (x0 + (1 : Int)))) (IntKind.wrap .i64 (List.getD (List.set l24 (Int.toNat x0) (IntKind.wrap .i64 (IntKind.wrap .i64 (List.getD l24 (Int.toNat x0) (0 : Int) - D.toInt (nth r0 0)) - D.toInt (nth r0 1)))) (Int.toNat (IntKind.wrap .i64 (x0 + (1 : Int)))) (0 : Int) + D.toInt (nth r0 0)))) (Int.toNat (IntKind.wrap .i64 (x0 - (1 : Int)))) (0 : Int) + D.toInt (nth r0 1)))) z25 l26 x27 z28 l29))
 (none))
 (none))
 (lp k spec_l11Step [] fu 11 n (qk6 (IntKind.wrap .i64 (x0 + (1 : Int))) z1 l2 z3 l4 z5 l6 z7 l8 x9 z10 l11 z12 l13 z14 l15 z16 l17 x18 z19 l20 z21 l22 z23 (List.set (List.set l24 (Int.toNat x0) (IntKind.wrap .i64 (IntKind.wrap .i64 (List.getD l24 (Int.toNat x0) (0 : Int) - D.toInt (nth r0 0)) - D.toInt (nth r0 1)))) (Int.toNat (IntKind.wrap .i64 (x0 + (1 : Int)))) (IntKind.wrap .i64 (List.getD (List.set l24 (Int.toNat x0) (IntKind.wrap .i64 (IntKind.wrap .i64 (List.getD l24 (Int.toNat x0) (0 : Int) - D.toInt (nth r0 0)) - D.toInt (nth r0 1)))) (Int.toNat (IntKind.wrap .i64 (x0 + (1 : Int)))) (0 : Int) + D.toInt (nth r0 0)))) z25 l26 x27 z28 l29)))
 (none))
 (none))
 (cond (decide ((0 : Int) < if (0 : Int) > IntKind.wrap .i64 ((0 : Int) - List.getD l29 (Int.toNat (IntKind.wrap .i64 (x0 - (1 : Int)))) (0 : Int)) then (0 : Int) else IntKind.wrap .i64 ((0 : Int) - List.getD l29 (Int.toNat (IntKind.wrap .i64 (x0 - (1 : Int)))) (0 : Int))))
 (cond (decide ((0 : Int) ≤ IntKind.wrap .i64 (x0 - (1 : Int))) && decide (IntKind.wrap .i64 (x0 - (1 : Int)) < nI (List.length (List.set l24 (Int.toNat x0) (IntKind.wrap .i64 (IntKind.wrap .i64 (List.getD l24 (Int.toNat x0) (0 : Int) - D.toInt (nth r0 0)) - D.toInt (nth r0 1)))))))
 (cond (decide ((0 : Int) ≤ IntKind.wrap .i64 (x0 - (1 : Int))) && decide (IntKind.wrap .i64 (x0 - (1 : Int)) < nI (List.length (List.set l24 (Int.toNat x0) (IntKind.wrap .i64 (IntKind.wrap .i64 (List.getD l24 (Int.toNat x0) (0 : Int) - D.toInt (nth r0 0)) - D.toInt (nth r0 1)))))))
 (lp k spec_l11Step [] fu 11 n (qk6 (IntKind.wrap .i64 (x0 + (1 : Int))) z1 l2 z3 l4 z5 l6 z7 l8 x9 z10 l11 z12 l13 z14 l15 z16 l17 x18 z19 l20 z21 l22 z23 (List.set (List.set l24 (Int.toNat x0) (IntKind.wrap .i64 (IntKind.wrap .i64 (List.getD l24 (Int.toNat x0) (0 : Int) - D.toInt (nth r0 0)) - D.toInt (nth r0 1)))) (Int.toNat (IntKind.wrap .i64 (x0 - (1 : Int)))) (IntKind.wrap .i64 (List.getD (List.set l24 (Int.toNat x0) (IntKind.wrap .i64 (IntKind.wrap .i64 (List.getD l24 (Int.toNat x0) (0 : Int) - D.toInt (nth r0 0)) - D.toInt (nth r0 1)))) (Int.toNat (IntKind.wrap .i64 (x0 - (1 : Int)))) (0 : Int) + D.toInt (nth r0 1)))) z25 l26 x27 z28 l29))
 (none))
 (none))
 (lp k spec_l11Step [] fu 11 n (qk6 (IntKind.wrap .i64 (x0 + (1 : Int))) z1 l2 z3 l4 z5 l6 z7 l8 x9 z10 l11 z12 l13 z14 l15 z16 l17 x18 z19 l20 z21 l22 z23 (List.set l24 (Int.toNat x0) (IntKind.wrap .i64 (IntKind.wrap .i64 (List.getD l24 (Int.toNat x0) (0 : Int) - D.toInt (nth r0 0)) - D.toInt (nth r0 1)))) z25 l26 x27 z28 l29))))
 (none))
 (none))
 (none))
 (none))
 (none))
 (cond (decide ((0 : Int) ≤ x0) && decide (x0 < nI (List.length l6)))
 (cond (decide ((0 : Int) ≤ x0) && decide (x0 < nI (List.length l4)))
 ((go k spec_LeafOut [(.int .i64 (List.getD l6 (Int.toNat x0) (0 : Int))), (.int .i64 (List.getD l4 (Int.toNat x0) (0 : Int))), (.int .i64 (if (0 : Int) > List.getD l29 (Int.toNat x0) (0 : Int) then (0 : Int) else List.getD l29 (Int.toNat x0) (0 : Int))), (.int .i64 (0 : Int))]).bind fun r1 =>
 cond (decide ((0 : Int) ≤ x0) && decide (x0 < nI (List.length l24)))
 (cond (decide ((0 : Int) ≤ x0) && decide (x0 < nI (List.length l24)))
 (cond (decide ((0 : Int) < if (0 : Int) > List.getD l29 (Int.toNat x0) (0 : Int) then (0 : Int) else List.getD l29 (Int.toNat x0) (0 : Int)))
 (cond (decide ((0 : Int) ≤ IntKind.wrap .i64 (x0 + (1 : Int))) && decide (IntKind.wrap .i64 (x0 + (1 : Int)) < nI (List.length (List.set l24 (Int.toNat x0) (IntKind.wrap .i64 (IntKind.wrap .i64 (List.getD l24 (Int.toNat x0) (0 : Int) - D.toInt (nth r1 0)) - D.toInt (nth r1 1)))))))
 (cond (decide ((0 : Int) ≤ IntKind.wrap .i64 (x0 + (1 : Int))) && decide (IntKind.wrap .i64 (x0 + (1 : Int)) < nI (List.length (List.set l24 (Int.toNat x0) (IntKind.wrap .i64 (IntKind.wrap .i64 (List.getD l24 (Int.toNat x0) (0 : Int) - D.toInt (nth r1 0)) - D.toInt (nth r1 1)))))))
 (lp k spec_l11Step [] fu 11 n (qk6 (IntKind.wrap .i64 (x0 + (1 : Int))) z1 l2 z3 l4 z5 l6 z7 l8 x9 z10 l11 z12 l13 z14 l15 z16 l17 x18 z19 l20 z21 l22 z23 (List.set (List.set l24 (Int.toNat x0) (IntKind.wrap .i64 (IntKind.wrap .i64 (List.getD l24 (Int.toNat x0) (0 : Int) - D.toInt (nth r1 0)) - D.toInt (nth r1 1)))) (Int.toNat (IntKind.wrap .i64 (x0 + (1 : Int)))) (IntKind.wrap .i64 (List.getD (List.set l24 (Int.toNat x0) (IntKind.wrap .i64 (IntKind.wrap .i64 (List.getD l24 (Int.toNat x0) (0 : Int) - D.toInt (nth r1 0)) - D.toInt (nth r1 1)))) (Int.toNat (IntKind.wrap .i64 (x0 + (1 : Int)))) (0 : Int) + D.toInt (nth r1 0)))) z25 l26 x27 z28 l29))
 (none))
 (none))
 (lp k spec_l11Step [] fu 11 n (qk6 (IntKind.wrap .i64 (x0 + (1 : Int))) z1 l2 z3 l4 z5 l6 z7 l8 x9 z10 l11 z12 l13 z14 l15 z16 l17 x18 z19 l20 z21 l22 z23 (List.set l24 (Int.toNat x0) (IntKind.wrap .i64 (IntKind.wrap .i64 (List.getD l24 (Int.toNat x0) (0 : Int) - D.toInt (nth r1 0)) - D.toInt (nth r1 1)))) z25 l26 x27 z28 l29)))
 (none))
 (none))
 (none))
 (none)))
 (none))
 (some [(.agg [(.int .i64 (x27)), (.arr true (z19) (.r3 (l20))), (.arr true (z21) (.ints .i64 (l22))), (.arr true (z23) (.ints .i64 (l24))), (.arr true (z25) (.ints .i64 (l26)))])]) := by kernel_rfl
theorem qhn (k n : Nat) (fu : List (Nat × Nat)) (x0 x1 : Int) (z2 : Bool) (l3 : List (Int × Int × Int)) (z4 : Bool) (l5 : List Int) (z6 : Bool) (l7 : List Int) (z8 : Bool) (l9 : List Int) (x10 : Int) (z11 : Bool) (l12 : List (Int × Int × Int)) (z13 : Bool) (l14 : List Int) (z15 : Bool) (l16 : List Int) (z17 : Bool) (l18 : List Int) (x19 : Int) (z20 : Bool) (l21 : List (Int × Int × Int)) (z22 : Bool) (l23 : List Int) (z24 : Bool) (l25 : List Int) (z26 : Bool) (l27 : List Int) (x28 : Int) (z29 : Bool) (l30 : List Int) : lp k spec_l11Step [] fu 4 (n + 1) (qk7 x0 x1 z2 l3 z4 l5 z6 l7 z8 l9 x10 z11 l12 z13 l14 z15 l16 z17 l18 x19 z20 l21 z22 l23 z24 l25 z26 l27 x28 z29 l30) =
 cond (decide (IntKind.wrap .i64 (x1 + (1 : Int)) < nI (List.length l5)))
 ((go k spec_l05Face [(.agg [(.int .i64 (x10)), (.arr false (z2) (.r3 (l3)))]), (.int .i64 (x1))]).bind fun r0 =>
 (go k spec_IsActive [(.int .i64 (x0)), (.int .i64 (D.toInt (nth r0 0)))]).bind fun r1 =>
 cond (!bit (nth r1 0))
 (lp k spec_l11Step [] fu 4 n (qk7 x0 (IntKind.wrap .i64 (x1 + (1 : Int))) z2 l3 z4 l5 z6 l7 z8 l9 x10 z11 l12 z13 l14 z15 l16 z17 l18 x19 z20 l21 z22 l23 z24 l25 z26 l27 x28 z29 l30))
 ((go k spec_l09Flux [(.agg [(.int .i64 (x10)), (.arr false (z2) (.r3 (l3))), (.arr false (z4) (.ints .i64 (l5))), (.arr false (z6) (.ints .i64 (l7))), (.arr false (z8) (.ints .i64 (l9)))]), (.int .i64 (x1))]).bind fun r2 =>
 cond (decide ((0 : Int) ≤ x1) && decide (x1 < nI (List.length l30)))
 (cond (decide ((0 : Int) ≤ x1) && decide (x1 < nI (List.length l23)))
 (cond (decide ((0 : Int) ≤ x1) && decide (x1 < nI (List.length (List.set l30 (Int.toNat x1) (D.toInt (nth r2 0))))))
 (cond (decide ((0 : Int) ≤ x1) && decide (x1 < nI (List.length l23)))
 (cond (decide ((0 : Int) ≤ IntKind.wrap .i64 (x1 + (1 : Int))) && decide (IntKind.wrap .i64 (x1 + (1 : Int)) < nI (List.length (List.set l23 (Int.toNat x1) (IntKind.wrap .i64 (List.getD l23 (Int.toNat x1) (0 : Int) - List.getD (List.set l30 (Int.toNat x1) (D.toInt (nth r2 0))) (Int.toNat x1) (0 : Int)))))))
 (cond (decide ((0 : Int) ≤ x1) && decide (x1 < nI (List.length (List.set l30 (Int.toNat x1) (D.toInt (nth r2 0))))))
 (cond (decide ((0 : Int) ≤ IntKind.wrap .i64 (x1 + (1 : Int))) && decide (IntKind.wrap .i64 (x1 + (1 : Int)) < nI (List.length (List.set l23 (Int.toNat x1) (IntKind.wrap .i64 (List.getD l23 (Int.toNat x1) (0 : Int) - List.getD (List.set l30 (Int.toNat x1) (D.toInt (nth r2 0))) (Int.toNat x1) (0 : Int)))))))
 (lp k spec_l11Step [] fu 4 n (qk7 x0 (IntKind.wrap .i64 (x1 + (1 : Int))) z2 l3 z4 l5 z6 l7 z8 l9 x10 z11 l12 z13 l14 z15 l16 z17 l18 x19 z20 l21 z22 (List.set (List.set l23 (Int.toNat x1) (IntKind.wrap .i64 (List.getD l23 (Int.toNat x1) (0 : Int) - List.getD (List.set l30 (Int.toNat x1) (D.toInt (nth r2 0))) (Int.toNat x1) (0 : Int)))) (Int.toNat (IntKind.wrap .i64 (x1 + (1 : Int)))) (IntKind.wrap .i64 (List.getD (List.set l23 (Int.toNat x1) (IntKind.wrap .i64 (List.getD l23 (Int.toNat x1) (0 : Int) - List.getD (List.set l30 (Int.toNat x1) (D.toInt (nth r2 0))) (Int.toNat x1) (0 : Int)))) (Int.toNat (IntKind.wrap .i64 (x1 + (1 : Int)))) (0 : Int) + List.getD (List.set l30 (Int.toNat x1) (D.toInt (nth r2 0))) (Int.toNat x1) (0 : Int)))) z24 l25 z26 l27 x28 z29 (List.set l30 (Int.toNat x1) (D.toInt (nth r2 0)))))
 (none))
 (none))
 (none))
 (none))
 (none))
 (none))
 (none)))
 (lp k spec_l11Step [] fu 11 k (qk6 (0 : Int) z2 l3 z4 l5 z6 l7 z8 l9 x10 z11 l12 z13 l14 z15 l16 z17 l18 x19 z20 l21 z22 l23 z24 l25 z26 l27 x28 z29 l30)) := by kernel_rfl

end Go.Proofs.Ytcaapedadpnjoaa
end
section
namespace Go.Proofs.Ytcaapedadpnjoaa
open Go.Ev
theorem qcf (k : Nat) (hk : 2000000 ≤ k) (a : Int) (b : Int) (c : Int) : go (k + 2) spec_ShareOut [(.int .i64 (a)), (.int .i64 (b)), (.int .i64 (c))] = some [.int .i64 (qld a b c)] := by
  rw [qe7]
  unfold qld
  cases hm : inR c 1 10000000
  · simp (disch := omega) only [qcm, hm, bit, qax, nth0, ql8, Bool.not_false, qdj, Bool.false_and, qdh]
  cases hp : inR b 0 c
  · simp (disch := omega) only [qcm, hm, bit, hp, qax, nth0, ql8, Bool.not_false, qdj, Bool.not_true, qdh, Bool.false_and, Bool.and_false]
  have hm' := qgh.1 hm
  cases ht : inR a 0 (1000 * c)
  · simp (disch := omega) only [qcm, hm, bit, hp, qmn, ht, dF, Bool.not_false, qdj, qax, nth0, ql8, Bool.not_true, qdh, Bool.and_false]
  have q := qlh hm hp ht
  have q2 : 0 ≤ Int.tdiv (a * b) c ∧ Int.tdiv (a * b) c ≤ 100000000000000000 := by
    have := ql6 (x := a * b) (y := c) (B := 100000000000000000) (by omega) (by omega) (by omega)
    rw [Int.tdiv_eq_ediv_of_nonneg q.1] at *
    exact ⟨Int.ediv_nonneg q.1 (by omega), this.2⟩
  simp (disch := omega) only [qcm, hm, bit, hp, qmn, ht, dF, Bool.not_false, qdj, qax, nth0, ql8, Bool.not_true, qdh, Bool.and_true]
theorem qcb (k : Nat) (hk : 2000000 ≤ k) (a : Int) (b : Int) (c : Int) (d : Int) : go (k + 3) spec_LeafOut [(.int .i64 (a)), (.int .i64 (b)), (.int .i64 (c)), (.int .i64 (d))] = some [.int .i64 (loA a b c d), .int .i64 (loB a b c d)] := by
  rw [qe3]
  unfold loA loB loOk
  cases hm : inR b 1 10000000
  · simp (disch := omega) only [qcm, hm, bit, qax, nth0, ql8, Bool.not_false, qdj, Bool.false_and, qdh]
  have hm' := qgh.1 hm
  cases ht : inR a 0 (1000 * b)
  · simp (disch := omega) only [qcm, hm, bit, qmn, ht, qax, nth0, ql8, Bool.not_false, qdj, Bool.not_true, qdh, Bool.false_and, Bool.and_false]
  cases hr : inR c 0 b
  · simp (disch := omega) only [qcm, hm, bit, qmn, ht, hr, qax, nth0, ql8, Bool.not_false, qdj, Bool.not_true, qdh, Bool.false_and, Bool.and_false]
  have hr' := qgh.1 hr
  cases hl : inR d 0 (b - c)
  · simp (disch := omega) only [qcm, hm, bit, qmn, ht, hr, hl, qax, nth0, ql8, Bool.not_false, qdj, Bool.not_true, qdh, Bool.and_false]
  have hl' := qgh.1 hl
  have s1 := qlf a c b; have s2 := qlf a (c + d) b
  simp (disch := omega) only [qcm, hm, bit, qmn, ht, hr, hl, qcf, qax, nth0, ql9, ql8, Bool.not_true, qdh, Bool.and_true, qdj]
theorem qb6 (k : Nat) (hk : 2000000 ≤ k) (a b : Int) (hb : 0 < b) (ha : -1000000000000 ≤ a) (ha' : a ≤ 1000000000000) : go (k + 1) spec_DivTrunc [.int .i64 a, .int .i64 b] = some [.int .i64 (Int.tdiv a b)] := by
  rw [qey]
  have := ql6 hb ha ha'
  simp (disch := omega) only [dF, Bool.not_false, qmn, qdj, qdh]
theorem qc1 (k : Nat) (hk : 2000000 ≤ k) (a : Int) (b : Int) (c : Int) (d : Int) (e : Int) (f : Int) (ha : 0 ≤ a ∧ a ≤ 161000000) (hb : 0 ≤ b ∧ b ≤ 161000000) (hc : 0 ≤ c ∧ c ≤ 10000000) (hd : 0 ≤ d ∧ d ≤ 10000000) (he : inR e 0 4 = true) (hf : inR f 0 4 = true) : go (k + 3) spec_l09Pair [(.int .i64 (a)), (.int .i64 (b)), (.int .i64 (c)), (.int .i64 (d)), (.int .i64 (e)), (.int .i64 (f))] = some [.int .i64 (qji a b c d e f)] := by
  rw [qft]
  have w1 := qmj he; have w2 := qmj hf; have w3 := qmk (max f e)
  have p := qi6 (x := a - b) (w := qmi (max f e)) (A := 161000000) (by omega) (by omega) w3.1 w3.2
  have t := ql6 (x := (a - b) * qmi (max f e)) (y := 32 * (qmi e + qmi f)) (B := 2576000000) (by omega) (by omega) (by omega)
  have t1 : Int.tdiv c 4 = c / 4 := Int.tdiv_eq_ediv_of_nonneg (by omega)
  have t2 : Int.tdiv d 4 = d / 4 := Int.tdiv_eq_ediv_of_nonneg (by omega)
  simp (disch := omega) only [imax, qcj, qmn, t2, t1, imin, qax, nth0, ql9, qb6]
  rfl
theorem qc0 (k : Nat) (hk : 2000000 ≤ k) (r : Int) (z1 z2 z3 z4 : Bool) (l : List Cell) (m t b : List Int) (F : StF r l m t b) (i : Nat) (hi : i + 1 < l.length) :
    go (k + 4) spec_l09Flux [.agg [.int .i64 r, .arr false z1 (.r3 l), .arr false z2 (.ints .i64 m), .arr false z3 (.ints .i64 t), .arr false z4 (.ints .i64 b)], .int .i64 (i : Int)] = some [.int .i64 (fl l m b i)] := by
  rw [qfs]
  have hl := F.len; have hm := F.ml
  have h1 := F.at i; have h2 := F.at (i + 1); have s1 := qly F i; have s2 := qly F (i + 1)
  have v1 := F.lev i; have v2 := F.lev (i + 1)
  have e1 := qc2 (k + 3 - 1) (by omega) r z1 z2 z3 z4 l m t b F i (by omega)
  have e2 := qc2 (k + 3 - 1) (by omega) r z1 z2 z3 z4 l m t b F (i + 1) hi
  rw [show k + 3 - 1 + 1 = k + 3 by omega] at e1 e2
  have e3 := qc1 (k + 3 - 3) (by omega) (surf l m b i) (surf l m b (i + 1)) (m.getD i 0) (m.getD (i + 1) 0) (l.getD i zz3).2.1 (l.getD (i + 1) zz3).2.1 s1 s2 ⟨h1.1, h1.2.1⟩ ⟨h2.1, h2.2.1⟩ v1 v2
  rw [show k + 3 - 3 + 3 = k + 3 by omega] at e3
  simp (disch := omega) only [e1, qc6, qmn, e2, dT, nI, Bool.and_true, Int.toNat_natCast, qdj, qax, nth0, ql9, e3]
  rfl
def Fk (tk : Int) (l : List Cell) (m b : List Int) (k j : Nat) : Int := if j < k then ff tk l m b j else 0
def Mk (tk : Int) (l : List Cell) (m b : List Int) (k j : Nat) : Int := m.getD j 0 - (if j < k then ff tk l m b j else 0) + (if 1 ≤ j ∧ j ≤ k then ff tk l m b (j - 1) else 0)
theorem qik (k : Nat) (hk : 2000000 ≤ k) (fu : List (Nat × Nat)) (r tk : Int) (z1 z2 z3 z4 y1 y2 y3 y4 x1 x2 x3 x4 : Bool) (c1 : List Cell) (c2 c3 c4 : List Int) (c0 : Int) (l : List Cell) (m t b tr bd : List Int) (ld : List Cell) (r' : Int) (F : StF r l m t b) : ∀ (n i : Nat), i < l.length → l.length - i < n →
    lp (k + 4) spec_l11Step [] fu 4 (n) (qk7 tk (i : Int) z1 l z2 m z3 t z4 b r y1 c1 y2 c2 y3 c3 y4 c4 c0 x1 ld x2 (tab l.length (Mk tk l m b i)) x3 tr x4 bd r' false (tab l.length (Fk tk l m b i))) = lp (k + 4) spec_l11Step [] fu 11 (k + 4) (qk6 0 z1 l z2 m z3 t z4 b r y1 c1 y2 c2 y3 c3 y4 c4 c0 x1 ld x2 (tab l.length (stM tk l m b)) x3 tr x4 bd r' false (tab l.length (ff tk l m b)))
  | 0, i, hi, hn => by omega
  | n + 1, i, hi, hn => by
    have hl := F.len; have hm := F.ml
    rw [qhn]
    by_cases h : i + 1 < l.length
    · have IH := qik k hk fu r tk z1 z2 z3 z4 y1 y2 y3 y4 x1 x2 x3 x4 c1 c2 c3 c4 c0 l m t b tr bd ld r' F n (i + 1) h (by omega)
      have b0 := qf6 F i; have b1 := qf4 F tk (i - 1); have a0 := F.at i; have a1 := F.at (i + 1); have a2 := F.at (i - 1)
      have eF := qc0 (k + 4 - 4) (by omega) r z1 z2 z3 z4 l m t b F i h
      rw [show k + 4 - 4 + 4 = k + 4 by omega] at eF
      cases ha : qgj tk (qf2 l i)
      · have hz : ff tk l m b i = 0 := by unfold ff qam; rw [ha]; simp
        simp (disch := omega) only [qc6, qmn, nI, dT, qct, qb9, bit, Bool.true_and, Int.toNat_natCast, List.length_set, qax, nth0, ql8, ql9, ha, Bool.not_false, qdj]
        rw [← IH]
        have q1 : tab l.length (Mk tk l m b i) = tab l.length (Mk tk l m b (i + 1)) := qlz fun j hj => by
          unfold Mk
          by_cases g1 : j = i
          · subst g1
            by_cases g2 : 1 ≤ j
            · simp (disch := omega) only [hz, if_neg, if_pos]
            · simp (disch := omega) only [hz, if_neg, if_pos]
          · by_cases g2 : j = i + 1
            · subst g2; simp (disch := omega) only [if_neg, Nat.add_sub_cancel, hz, if_pos]
            · have e1 : (j < i) = (j < i + 1) := by rw [eq_iff_iff]; omega
              have e2 : (1 ≤ j ∧ j ≤ i) = (1 ≤ j ∧ j ≤ i + 1) := by rw [eq_iff_iff]; omega
              simp only [e1, e2]
        have q2 : tab l.length (Fk tk l m b i) = tab l.length (Fk tk l m b (i + 1)) := qlz fun j hj => by
          unfold Fk
          by_cases g1 : j = i
          · subst g1; rw [if_neg (by omega), if_pos (by omega), hz]
          · have e1 : (j < i) = (j < i + 1) := by rw [eq_iff_iff]; omega
            simp only [e1]
        rw [q1, q2]
      · have hz : ff tk l m b i = fl l m b i := by unfold ff qam; rw [ha, dT h]; rfl
        have v1 : Mk tk l m b i i = m.getD i 0 + (if 1 ≤ i then ff tk l m b (i - 1) else 0) := by
          unfold Mk; rw [if_neg (by omega)]
          by_cases g2 : 1 ≤ i
          · rw [if_pos (by omega), if_pos g2]; omega
          · rw [if_neg (by omega), if_neg g2]; omega
        have v2 : Mk tk l m b i (i + 1) = m.getD (i + 1) 0 := by
          unfold Mk; rw [if_neg (by omega), if_neg (by omega)]; omega
        have bb : -5000000 ≤ (if 1 ≤ i then ff tk l m b (i - 1) else 0) ∧ (if 1 ≤ i then ff tk l m b (i - 1) else 0) ≤ 5000000 := by
          by_cases g2 : 1 ≤ i
          · rw [if_pos g2]; rw [show i - 1 + 1 = i by omega] at b1; omega
          · rw [if_neg g2]; omega
        have w1 : -20000000 ≤ Mk tk l m b i i ∧ Mk tk l m b i i ≤ 20000000 := by rw [v1]; omega
        have w2 : -20000000 ≤ Mk tk l m b i (i + 1) ∧ Mk tk l m b i (i + 1) ≤ 20000000 := by rw [v2]; omega
        simp (disch := omega) only [qc6, qmn, nI, dT, qct, qb9, bit, eF, ql1, Bool.and_true, Int.toNat_natCast, ql3, ql0, itT, if_neg, qdj, qax, nth0, ql9, ql8, ha, Bool.not_true, qdh]
        rw [v1, v2]
        rw [← IH]
        have q1 : tab l.length (fun j => if j = i + 1 then m.getD (i + 1) 0 + fl l m b i else if j = i then m.getD i 0 + (if 1 ≤ i then ff tk l m b (i - 1) else 0) - fl l m b i else Mk tk l m b i j) = tab l.length (Mk tk l m b (i + 1)) := qlz fun j hj => by
          by_cases g2 : j = i + 1
          · subst g2; unfold Mk; simp (disch := omega) only [if_pos, if_neg, Nat.add_sub_cancel, hz, itT]; omega
          · by_cases g1 : j = i
            · subst g1; unfold Mk
              by_cases g3 : 1 ≤ j
              · simp (disch := omega) only [if_pos, hz, if_neg, itT]; omega
              · simp (disch := omega) only [if_neg, hz, itT, if_pos]; omega
            · rw [if_neg g2, if_neg g1]
              have e1 : (j < i) = (j < i + 1) := by rw [eq_iff_iff]; omega
              have e2 : (1 ≤ j ∧ j ≤ i) = (1 ≤ j ∧ j ≤ i + 1) := by rw [eq_iff_iff]; omega
              unfold Mk
              simp only [e1, e2]
        have q2 : tab l.length (fun j => if j = i then fl l m b i else Fk tk l m b i j) = tab l.length (Fk tk l m b (i + 1)) := qlz fun j hj => by
          by_cases g1 : j = i
          · subst g1; unfold Fk; rw [if_pos rfl, if_pos (by omega), hz]
          · rw [if_neg g1]
            have e1 : (j < i) = (j < i + 1) := by rw [eq_iff_iff]; omega
            unfold Fk
            simp only [e1]
        rw [q1, q2]
    · simp (disch := omega) only [qc6, qmn, nI, dF, bit, dT, Bool.true_and, Int.toNat_natCast, List.length_set, qdh]
      have q1 : tab l.length (Mk tk l m b i) = tab l.length (stM tk l m b) := qlz fun j hj => by
        unfold Mk stM
        by_cases g1 : j = i
        · subst g1; rw [if_neg (by omega), qf3 (i := j) (show l.length ≤ j + 1 by omega)]
          by_cases g3 : 1 ≤ j
          · rw [if_pos g3, if_pos (by omega)]
          · rw [if_neg g3, if_neg (by omega)]
        · rw [if_pos (by omega)]
          by_cases g3 : 1 ≤ j
          · rw [if_pos g3, if_pos (by omega)]
          · rw [if_neg g3, if_neg (by omega)]
      have q2 : tab l.length (Fk tk l m b i) = tab l.length (ff tk l m b) := qlz fun j hj => by
        unfold Fk
        by_cases g1 : j = i
        · subst g1; rw [if_neg (by omega), qf3 (i := j) (show l.length ≤ j + 1 by omega)]
        · rw [if_pos (by omega)]
      rw [q1, q2]
set_option maxHeartbeats 2000000 in
theorem qij (k : Nat) (hk : 2000000 ≤ k) (fu : List (Nat × Nat)) (r tk : Int) (z1 z2 z3 z4 y1 y2 y3 y4 : Bool) (c1 : List Cell) (c2 c3 c4 : List Int) (c0 : Int) (l : List Cell) (m t b mm bd : List Int) (ld : List Cell) (r' : Int) (F : StF r l m t b) : ∀ (n i : Nat), i ≤ l.length → l.length - i < n →
    lp (k + 4) spec_l11Step [] fu 11 (n) (qk6 (i : Int) z1 l z2 m z3 t z4 b r y1 c1 y2 c2 y3 c3 y4 c4 c0 false ld false mm false (tab l.length (Tk tk l m t b i)) false bd r' false (tab l.length (ff tk l m b))) = some [.agg [.int .i64 r', .arr true false (.r3 ld), .arr true false (.ints .i64 mm), .arr true false (.ints .i64 (tab l.length (stT tk l m t b))), .arr true false (.ints .i64 bd)]]
  | 0, i, hi, hn => by omega
  | n + 1, i, hi, hn => by
    have hl := F.len; have hm := F.ml; have ht := F.tl
    rw [qhm]
    by_cases h : i < l.length
    · have IH := qij k hk fu r tk z1 z2 z3 z4 y1 y2 y3 y4 c1 c2 c3 c4 c0 l m t b mm bd ld r' F n (i + 1) (by omega) (by omega)
      rw [← qak tk l m t b i h] at IH
      have f1 := qf4 F tk i; have f2 := qf4 F tk (i - 1); have a0 := F.at i; have a1 := F.at (i + 1); have a2 := F.at (i - 1)
      have A := qjd tk l m t b i; have B := qjf tk l m t b i
      have A' := qjd tk l m t b (i - 1); have B' := qjf tk l m t b (i - 1); have A'' := qjd tk l m t b (i - 1 - 1)
      have v1 : Tk tk l m t b i i = t.getD i 0 + (if 1 ≤ i then outA tk l m t b (i - 1) else 0) := by
        unfold Tk; rw [if_neg (by omega), if_neg (show ¬ (i + 1 < i) by omega)]
        by_cases g2 : 1 ≤ i
        · rw [if_pos (by omega), if_pos g2]; omega
        · rw [if_neg (by omega), if_neg g2]; omega
      have w1 : 0 ≤ Tk tk l m t b i i ∧ Tk tk l m t b i i ≤ 200000000000000000 := by
        rw [v1]
        by_cases g2 : 1 ≤ i
        · rw [if_pos g2]; omega
        · rw [if_neg g2]; omega
      have w2 : 0 ≤ Tk tk l m t b i (i + 1) ∧ Tk tk l m t b i (i + 1) ≤ 200000000000000000 := by
        unfold Tk; rw [if_neg (by omega), if_neg (by omega), if_neg (by omega)]; omega
      have hA : loA (t.getD i 0) (m.getD i 0) (max 0 (ff tk l m b i)) (lft tk l m b i) = outA tk l m t b i := rfl
      have hB : loB (t.getD i 0) (m.getD i 0) (max 0 (ff tk l m b i)) (lft tk l m b i) = outB tk l m t b i := rfl
      have hi1 : 0 < ff tk l m b i → i + 1 < l.length := fun g4 => by
        rcases Nat.lt_or_ge (i + 1) l.length with q | q
        · exact q
        · rw [qf3 q] at g4; omega
      have zA : ¬ 0 < ff tk l m b i → outA tk l m t b i = 0 := fun g4 => qje (by unfold rgt; omega)
      by_cases g1 : 1 ≤ i
      · have hL : max 0 (0 - ff tk l m b (i - 1)) = lft tk l m b i := by unfold lft; rw [if_pos g1]
        have hL0 : 0 ≤ lft tk l m b i := by rw [← hL]; omega
        rw [show i - 1 + 1 = i by omega] at f2
        have w3 : -300000000000000000 ≤ Tk tk l m t b i (i - 1) ∧ Tk tk l m t b i (i - 1) ≤ 300000000000000000 := by
          unfold Tk; rw [if_pos (by omega), if_neg (show ¬ (i - 1 + 1 < i) by omega)]
          by_cases g3 : 1 ≤ i - 1
          · rw [if_pos (show 1 ≤ i - 1 ∧ i - 1 ≤ i by omega)]; omega
          · rw [if_neg (show ¬ (1 ≤ i - 1 ∧ i - 1 ≤ i) by omega)]; omega
        by_cases g4 : 0 < ff tk l m b i
        · have := hi1 g4
          by_cases g5 : 0 < lft tk l m b i
          · rw [← qmg g1] at IH
            simp (disch := omega) only [nI, dT, ql1, Bool.and_true, qc5, qmn, Int.toNat_natCast, ql0, imax, hL, qcb, hA, hB, qc6, ql3, niF, qdj, qax, nth1, ql9, nth0]
            exact IH
          · rw [← qmf (qjg (by omega))] at IH
            simp (disch := omega) only [nI, dT, ql1, Bool.and_true, qc5, qmn, Int.toNat_natCast, ql0, imax, hL, qcb, hA, hB, qc6, ql3, dF, niF, qdj, qdh, qax, nth0, ql9, nth1]
            exact IH
        · by_cases g5 : 0 < lft tk l m b i
          · rw [← qme g1 (zA g4)] at IH
            simp (disch := omega) only [nI, dT, ql1, Bool.and_true, qc5, qmn, Int.toNat_natCast, ql0, imax, hL, qcb, hA, hB, dF, qc6, ql3, Bool.true_and, niF, qdj, qdh, qax, nth1, ql9, nth0]
            exact IH
          · rw [← qmd (zA g4) (qjg (by omega))] at IH
            simp (disch := omega) only [nI, dT, ql1, Bool.and_true, qc5, qmn, Int.toNat_natCast, ql0, imax, hL, qcb, hA, hB, dF, qc6, ql3, Bool.true_and, niF, qdj, qdh, qax, nth0, ql9, nth1]
            exact IH
      · have hL : (0 : Int) = lft tk l m b i := by unfold lft; rw [if_neg g1]
        have zB : outB tk l m t b i = 0 := qjg hL.symm
        have hA' : loA (t.getD i 0) (m.getD i 0) (max 0 (ff tk l m b i)) 0 = outA tk l m t b i := by unfold outA rgt; rw [← hL]
        have hB' : loB (t.getD i 0) (m.getD i 0) (max 0 (ff tk l m b i)) 0 = outB tk l m t b i := by unfold outB rgt; rw [← hL]
        by_cases g4 : 0 < ff tk l m b i
        · have := hi1 g4
          rw [← qmf zB] at IH
          simp (disch := omega) only [nI, dT, ql1, Bool.and_true, dF, qmn, Int.toNat_natCast, ql0, imax, qcb, qc6, ql3, niF, qc5, qdh, qdj, qax, nth0, ql9, nth1, hA', hB']
          exact IH
        · rw [← qmd (zA g4) zB] at IH
          simp (disch := omega) only [nI, dT, ql1, Bool.and_true, dF, qmn, Int.toNat_natCast, ql0, imax, qcb, qc6, ql3, Bool.true_and, niF, qc5, qdh, qdj, qax, nth0, ql9, nth1, hA', hB']
          exact IH
    · simp (disch := omega) only [nI, dF, dT, Bool.true_and, qmn, Bool.and_false, Int.toNat_natCast, imax, qc6, List.length_set, qdh, qdj]
      rw [show i = l.length by omega, qaj tk l m t b hm]
theorem qae (tk : Int) (l : List Cell) (m b : List Int) (hm : m.length = l.length) : m = tab l.length (Mk tk l m b 0) := by
  have h := ql2 m
  rw [hm] at h
  refine h.trans (qlz fun j hj => ?_)
  unfold Mk
  rw [if_neg (by omega), if_neg (by omega)]; omega
theorem qaa (tk : Int) (l : List Cell) (m b : List Int) : List.replicate l.length (0 : Int) = tab l.length (Fk tk l m b 0) := by
  rw [ql4]
  refine qlz fun j hj => ?_
  unfold Fk
  rw [if_neg (by omega)]
theorem qc3 (k : Nat) (hk : 2000000 ≤ k) (r : Int) (z1 z2 z3 z4 : Bool) (l : List Cell) (m t b : List Int) (F : StF r l m t b) (tk : Int) :
    go (k + 5) spec_l11Step [.agg [.int .i64 r, .arr false z1 (.r3 l), .arr false z2 (.ints .i64 m), .arr false z3 (.ints .i64 t), .arr false z4 (.ints .i64 b)], .int .i64 tk] = some [.agg [.int .i64 r, .arr true false (.r3 l), .arr true false (.ints .i64 (tab l.length (stM tk l m b))), .arr true false (.ints .i64 (tab l.length (stT tk l m t b))), .arr true false (.ints .i64 b)]] := by
  rw [qfv]
  have hl := F.len; have hm := F.ml; have ht := F.tl; have hb := F.bl; have hr := F.rr
  simp (disch := omega) only [qcx, nI, dT, Bool.and_true, big0, Int.toNat_natCast, qdj, qax, nth0, qc8, qja, qjs, qc9, qgi, qda, qdb, qc7, ql9]
  rw [show List.replicate m.length (0 : Int) = tab l.length (Fk tk l m b 0) by rw [hm]; exact qaa tk l m b]
  have e1 := qik k hk [] r tk z1 z2 z3 z4 true true true true false false false false [] [] [] [] 0 l m t b t b l r F (k + 4) 0 (by omega) (by omega)
  have e2 := qij k hk [] r tk z1 z2 z3 z4 true true true true [] [] [] [] 0 l m t b (tab l.length (stM tk l m b)) b l r F (k + 4) 0 (by omega) (by omega)
  rw [← qae tk l m b hm] at e1
  rw [← qal tk l m t b ht] at e2
  exact e1.trans e2
theorem qci (k : Nat) (hk : 2000000 ≤ k) (a0 : Int) (a1z : Bool) (a1 : List (Int × Int × Int)) (a2z : Bool) (a2 : List Int) (a3z : Bool) (a3 : List Int) (a4z : Bool) (a4 : List Int) (b : Int) (h1 : (a1.length : Int) ≤ 1048576) (h2 : (a2.length : Int) ≤ 1048576) (h3 : (a3.length : Int) ≤ 1048576) (h4 : (a4.length : Int) ≤ 1048576) : go (k + 8) spec_StepState [(.agg [(.int .i64 (a0)), (.arr false (a1z) (.r3 (a1))), (.arr false (a2z) (.ints .i64 (a2))), (.arr false (a3z) (.ints .i64 (a3))), (.arr false (a4z) (.ints .i64 (a4)))]), (.int .i64 (b))] = some [.agg [.int .i64 a0, .arr true false (.r3 a1), .arr true false (.ints .i64 (cond (stOk a0 a1 a2 a3 a4 && decide (0 ≤ b)) (tab a1.length (stM b a1 a2 a4)) a2)), .arr true false (.ints .i64 (cond (stOk a0 a1 a2 a3 a4 && decide (0 ≤ b)) (tab a1.length (stT b a1 a2 a3 a4)) a3)), .arr true false (.ints .i64 a4)]] := by
  rw [qfa]
  simp (disch := omega) only [qch, bit, qax, nth0, ql8]
  cases g : stOk a0 a1 a2 a3 a4
  · simp (disch := omega) only [Bool.not_false, qcx, qax, nth0, qc7, ql9, qc8, qja, qjs, qc9, qgi, qda, qdb, qdj, Bool.false_and, qdh]
  · by_cases hb : 0 ≤ b
    · have F := stF.1 g
      have e := qc3 (k + 7 - 5) (by omega) a0 a1z a2z a3z a4z a1 a2 a3 a4 F b
      rw [show k + 7 - 5 + 5 = k + 7 by omega] at e
      simp (disch := omega) only [Bool.not_true, dF, e, qax, nth0, qc7, ql9, qc8, qja, qjs, qc9, qgi, qda, qdb, qdh, dT, Bool.and_true, qdj]
    · simp (disch := omega) only [Bool.not_true, qcx, qax, nth0, qc7, ql9, qc8, qja, qjs, qc9, qgi, qda, qdb, dT, qdj, qdh, dF, Bool.and_false]
end Go.Proofs.Ytcaapedadpnjoaa
end
section
namespace Go.Proofs.Ytcaapedadpnjoaa
open Go.Ev
def qlx (g : Nat → Int) : Nat → Int
  | 0 => 0
  | n + 1 => qlx g n + g n
theorem qgk : ∀ (a b : List Int), isum (a ++ b) = isum a + isum b
  | [], b => by simp [isum]
  | x :: a, b => by simp only [List.cons_append, isum, qgk a b]; omega
theorem qgq (g : Nat → Int) : ∀ n, isum (tab n g) = qlx g n
  | 0 => by simp [tab, isum, qlx]
  | n + 1 => by
    have := qgq g n
    unfold tab at *
    rw [List.range_succ, List.map_append, qgk, this]
    simp [isum, qlx]
theorem qgp (l : List Int) : isum l = qlx (fun j => l.getD j 0) l.length := by
  have h := ql2 l
  have e := qgq (fun j => l.getD j 0) l.length
  rw [← h] at e; exact e
theorem qiv : ∀ (m t : List Int), m.length = t.length → (∀ i, i < m.length → (0 ≤ m.getD i 0 ∧ m.getD i 0 ≤ 10000000) ∧ 0 ≤ t.getD i 0 ∧ t.getD i 0 ≤ 1000 * m.getD i 0) → qir m t = true
  | [], t, hl, h => by simp [qir]
  | x :: m, [], hl, h => by simp at hl
  | x :: m, y :: t, hl, h => by
    have h0 := h 0 (by simp)
    simp only [List.getD_cons_zero] at h0
    have ih := qiv m t (by simpa using hl) fun i hi => by simpa using h (i + 1) (by simpa using hi)
    simp only [qir, ih, Bool.and_true, Bool.and_eq_true, qgh]
    exact h0
theorem qfx : ∀ (l : List Int), (∀ x ∈ l, 0 ≤ x) → ∀ x ∈ l, x ≤ isum l
  | [], h, x, hx => by cases hx
  | y :: l, h, x, hx => by
    have hn : 0 ≤ isum l := by
      clear hx
      induction l with
      | nil => simp [isum]
      | cons z l ih =>
        have := ih (fun w hw => h w (by simp only [List.mem_cons] at *; rcases hw with rfl | hw <;> simp_all))
        have := h z (by simp)
        simp only [isum]; omega
    have hy := h y (by simp)
    simp only [isum]
    rcases List.mem_cons.1 hx with rfl | hx
    · omega
    · have := qfx l (fun w hw => h w (by simp [hw])) x hx
      omega
theorem qle {t p m : Int} (hm : 1 ≤ m) (hm' : m ≤ 10000000) (hp : 0 ≤ p) (hp' : p ≤ m) (ht : 0 ≤ t) (ht' : t ≤ 1000 * m) : qld t p m = t * p / m := by
  unfold qld
  rw [qgh.2 ⟨hm, hm'⟩, qgh.2 ⟨hp, hp'⟩, qgh.2 ⟨ht, ht'⟩]
  simp only [Bool.and_self, qdj]
  exact Int.tdiv_eq_ediv_of_nonneg (Int.mul_nonneg ht hp)
theorem qli {t p m : Int} (hm : 1 ≤ m) (hp : 0 ≤ p) (hp' : p ≤ m) (ht : 0 ≤ t) (ht' : t ≤ 1000 * m) : 0 ≤ t * p / m ∧ t * p / m ≤ t ∧ t - 1000 * (m - p) ≤ t * p / m := by
  refine ⟨Int.ediv_nonneg (Int.mul_nonneg ht hp) (by omega), ?_, ?_⟩
  · apply Int.ediv_le_of_le_mul (by omega)
    exact Int.mul_le_mul_of_nonneg_left hp' ht
  · apply Int.le_ediv_of_mul_le (by omega)
    have h1 : t * (m - p) ≤ 1000 * m * (m - p) := Int.mul_le_mul_of_nonneg_right ht' (by omega)
    have e1 : t * (m - p) = t * m - t * p := Int.mul_sub t m p
    have e2 : 1000 * m * (m - p) = 1000 * (m - p) * m := by rw [Int.mul_assoc, Int.mul_comm m (m - p), ← Int.mul_assoc]
    have e3 : (t - 1000 * (m - p)) * m = t * m - 1000 * (m - p) * m := Int.sub_mul _ _ _
    omega
theorem qlj {t r l m : Int} (hm : 1 ≤ m) (hr : 0 ≤ r) (hl : 0 ≤ l) (ht : 0 ≤ t) (ht' : t ≤ 1000 * m) : t * r / m ≤ t * (r + l) / m ∧ t * (r + l) / m ≤ t * r / m + 1000 * l := by
  have e : t * (r + l) = t * r + t * l := Int.mul_add t r l
  have n := Int.mul_nonneg ht hl
  have h1 : t * l ≤ 1000 * m * l := Int.mul_le_mul_of_nonneg_right ht' hl
  have e2 : 1000 * m * l = 1000 * l * m := by rw [Int.mul_assoc, Int.mul_comm m l, ← Int.mul_assoc]
  refine ⟨Int.ediv_le_ediv (by omega) (by omega), ?_⟩
  rw [← Int.add_mul_ediv_right _ _ (by omega : m ≠ 0)]
  exact Int.ediv_le_ediv (by omega) (by omega)
section
variable {r : Int} {l : List Cell} {m t b : List Int}
theorem qjy (F : StF r l m t b) (tk : Int) (i : Nat) : 0 ≤ rgt tk l m b i ∧ rgt tk l m b i ≤ m.getD i 0 / 4 := by
  have := qf4 F tk i; have := F.at i
  unfold rgt; omega
theorem qhr (F : StF r l m t b) (tk : Int) (i : Nat) : 0 ≤ lft tk l m b i ∧ lft tk l m b i ≤ m.getD i 0 / 4 := by
  have h := qf4 F tk (i - 1); have := F.at i
  unfold lft
  by_cases g : 1 ≤ i
  · rw [if_pos g]; rw [show i - 1 + 1 = i by omega] at h; omega
  · rw [if_neg g]; omega
theorem qjh (F : StF r l m t b) (tk : Int) (i : Nat) : 0 ≤ outA tk l m t b i ∧ outA tk l m t b i ≤ 1000 * rgt tk l m b i ∧ 0 ≤ outB tk l m t b i ∧ outB tk l m t b i ≤ 1000 * lft tk l m b i ∧
    outA tk l m t b i + outB tk l m t b i ≤ t.getD i 0 ∧ t.getD i 0 - 1000 * (m.getD i 0 - rgt tk l m b i - lft tk l m b i) ≤ outA tk l m t b i + outB tk l m t b i := by
  have h := F.at i; have R := qjy F tk i; have L := qhr F tk i
  by_cases hm : 1 ≤ m.getD i 0
  · have ok : loOk (t.getD i 0) (m.getD i 0) (rgt tk l m b i) (lft tk l m b i) = true := by
      unfold loOk
      rw [qgh.2 ⟨hm, h.2.1⟩, qgh.2 ⟨h.2.2.1, h.2.2.2⟩, qgh.2 ⟨R.1, by omega⟩, qgh.2 ⟨L.1, by omega⟩]; rfl
    have s1 := qle (t := t.getD i 0) (p := rgt tk l m b i) hm h.2.1 R.1 (by omega) h.2.2.1 h.2.2.2
    have s2 := qle (t := t.getD i 0) (p := rgt tk l m b i + lft tk l m b i) hm h.2.1 (by omega) (by omega) h.2.2.1 h.2.2.2
    have c1 := qli (t := t.getD i 0) (p := rgt tk l m b i + lft tk l m b i) hm (by omega) (by omega) h.2.2.1 h.2.2.2
    have c2 := qlj (t := t.getD i 0) (r := rgt tk l m b i) (l := lft tk l m b i) hm R.1 L.1 h.2.2.1 h.2.2.2
    have c3 := qlg (t := t.getD i 0) (p := rgt tk l m b i) (m := m.getD i 0) h.2.2.1 R.1 h.2.2.2
    have c4 := (qlf (t.getD i 0) (rgt tk l m b i) (m.getD i 0)).1
    unfold outA outB loA loB
    rw [ok]
    simp only [qdj]
    omega
  · have z : m.getD i 0 = 0 := by omega
    have ok : loOk (t.getD i 0) (m.getD i 0) (rgt tk l m b i) (lft tk l m b i) = false := by
      unfold loOk
      have : inR (m.getD i 0) 1 10000000 = false := by rw [← Bool.not_eq_true, qgh]; omega
      rw [this]; rfl
    unfold outA outB loA loB
    rw [ok]
    simp only [qdh]
    omega
theorem qln (F : StF r l m t b) (tk : Int) (j : Nat) : stM tk l m b j = m.getD j 0 - rgt tk l m b j - lft tk l m b j + (if 1 ≤ j then rgt tk l m b (j - 1) else 0) + lft tk l m b (j + 1) := by
  unfold stM rgt lft
  rw [if_pos (show 1 ≤ j + 1 by omega), Nat.add_sub_cancel]
  by_cases g : 1 ≤ j
  · simp only [if_pos g]; omega
  · simp only [if_neg g]; omega
theorem qlo (F : StF r l m t b) (tk : Int) (j : Nat) : 0 ≤ stM tk l m b j := by
  rw [qln F]
  have R := qjy F tk j; have L := qhr F tk j; have R' := qjy F tk (j - 1); have L' := qhr F tk (j + 1); have := F.at j
  by_cases g : 1 ≤ j
  · rw [if_pos g]; omega
  · rw [if_neg g]; omega
theorem qlq (F : StF r l m t b) (tk : Int) (j : Nat) : 0 ≤ stT tk l m t b j ∧ stT tk l m t b j ≤ 1000 * stM tk l m b j := by
  rw [qln F]
  unfold stT
  have a := qjh F tk j; have a1 := qjh F tk (j - 1); have a2 := qjh F tk (j + 1)
  by_cases g : 1 ≤ j
  · rw [if_pos g, if_pos g]; omega
  · rw [if_neg g, if_neg g]; omega
theorem qlp (tk : Int) (l : List Cell) (m b : List Int) : ∀ n, qlx (stM tk l m b) n = qlx (fun j => m.getD j 0) n - (if 1 ≤ n then ff tk l m b (n - 1) else 0)
  | 0 => by simp [qlx]
  | n + 1 => by
    have ih := qlp tk l m b n
    simp only [qlx, ih]
    rw [if_pos (show 1 ≤ n + 1 by omega), Nat.add_sub_cancel]
    unfold stM
    by_cases g : 1 ≤ n
    · simp only [if_pos g]; omega
    · simp only [if_neg g]; omega
theorem qlw (F : StF r l m t b) (tk : Int) : isum (tab l.length (stM tk l m b)) = isum m := by
  have L := F.len
  rw [qgq, qlp, qgp m, F.ml, if_pos L.1, qf3 (by omega)]; omega
theorem qlv (F : StF r l m t b) (tk : Int) : StF r l (tab l.length (stM tk l m b)) (tab l.length (stT tk l m t b)) b := by
  have hs := qlw F tk
  have hn : ∀ x ∈ tab l.length (stM tk l m b), 0 ≤ x := by
    intro x hx
    simp only [tab, List.mem_map] at hx
    obtain ⟨j, _, rfl⟩ := hx
    exact qlo F tk j
  refine ⟨F.mesh, F.bal, ql1 _ _, ql1 _ _, F.bl, ?_, F.bed, by rw [hs]; exact F.sum⟩
  refine qiv _ _ (by rw [ql1, ql1]) fun i hi => ?_
  rw [ql1] at hi
  have h1 := qfx _ hn _ (qf9 (by rw [ql1]; exact hi : i < (tab l.length (stM tk l m b)).length) 0)
  rw [hs] at h1
  have := F.sum
  rw [ql0 hi] at *
  rw [ql0 hi]
  exact ⟨⟨qlo F tk i, by omega⟩, qlq F tk i⟩
end
end Go.Proofs.Ytcaapedadpnjoaa
end
section
namespace Go.Proofs.Ytcaapedadpnjoaa
open Go.Ev
theorem qd5 (k : Nat) (a0 : Int) (a1z : Bool) (a1 : List (Int × Int × Int)) (a2z : Bool) (a2 : List Int) (a3z : Bool) (a3 : List Int) (a4z : Bool) (a4 : List Int) (b : Int) : go (k + 1) impl_State_flux [(.agg [(.int .i64 (a0)), (.arr false (a1z) (.r3 (a1))), (.arr false (a2z) (.ints .i64 (a2))), (.arr false (a3z) (.ints .i64 (a3))), (.arr false (a4z) (.ints .i64 (a4)))]), (.int .i64 (b))] =
 (go k impl_State_side [(.agg [(.int .i64 (a0)), (.arr false (a1z) (.r3 (a1))), (.arr false (a2z) (.ints .i64 (a2))), (.arr false (a3z) (.ints .i64 (a3))), (.arr false (a4z) (.ints .i64 (a4)))]), (.int .i64 (b))]).bind fun r0 =>
 (go k impl_State_side [(.agg [(.int .i64 (a0)), (.arr false (a1z) (.r3 (a1))), (.arr false (a2z) (.ints .i64 (a2))), (.arr false (a3z) (.ints .i64 (a3))), (.arr false (a4z) (.ints .i64 (a4)))]), (.int .i64 (IntKind.wrap .i64 (b + (1 : Int))))]).bind fun r1 =>
 (go k impl_flux [(.agg [(.int .i64 (D.toInt (D.cell 0 (nth r0 0)))), (.int .i64 (D.toInt (D.cell 1 (nth r0 0)))), (.int .i64 (D.toInt (D.cell 2 (nth r0 0))))]), (.agg [(.int .i64 (D.toInt (D.cell 0 (nth r1 0)))), (.int .i64 (D.toInt (D.cell 1 (nth r1 0)))), (.int .i64 (D.toInt (D.cell 2 (nth r1 0))))])]).bind fun r2 =>
 some [(.int .i64 (D.toInt (nth r2 0)))] := by kernel_rfl
theorem qea (k : Nat) (a0 : Int) (a1z : Bool) (a1 : List (Int × Int × Int)) (a2z : Bool) (a2 : List Int) (a3z : Bool) (a3 : List Int) (a4z : Bool) (a4 : List Int) (b : Int) : go (k + 1) impl_State_side [(.agg [(.int .i64 (a0)), (.arr false (a1z) (.r3 (a1))), (.arr false (a2z) (.ints .i64 (a2))), (.arr false (a3z) (.ints .i64 (a3))), (.arr false (a4z) (.ints .i64 (a4)))]), (.int .i64 (b))] =
 cond (decide ((0 : Int) ≤ b) && decide (b < nI (List.length a1)))
 (cond (decide ((0 : Int) ≤ b) && decide (b < nI (List.length a2)))
 ((go k impl_State_surface [(.agg [(.int .i64 (a0)), (.arr false (a1z) (.r3 (a1))), (.arr false (a2z) (.ints .i64 (a2))), (.arr false (a3z) (.ints .i64 (a3))), (.arr false (a4z) (.ints .i64 (a4)))]), (.int .i64 (b))]).bind fun r0 =>
 some [(.agg [(.int .i64 (Prod.fst (Prod.snd (List.getD a1 (Int.toNat b) zz3)))), (.int .i64 (List.getD a2 (Int.toNat b) (0 : Int))), (.int .i64 (D.toInt (nth r0 0)))])])
 (none))
 (none) := by kernel_rfl
theorem qei (k : Nat) (a0 a1 a2 b0 b1 b2 : Int) : go (k + 1) impl_flux [(.agg [(.int .i64 (a0)), (.int .i64 (a1)), (.int .i64 (a2))]), (.agg [(.int .i64 (b0)), (.int .i64 (b1)), (.int .i64 (b2))])] =
 (go k impl_WidthOf [(.int .i64 (a0))]).bind fun r0 =>
 (go k impl_WidthOf [(.int .i64 (b0))]).bind fun r1 =>
 (go k impl_WidthOf [(.int .i64 (if b0 > a0 then b0 else a0))]).bind fun r2 =>
 (go k impl_DivTrunc [(.int .i64 (IntKind.wrap .i64 (IntKind.wrap .i64 (a2 - b2) * D.toInt (nth r2 0)))), (.int .i64 (IntKind.wrap .i64 ((32 : Int) * IntKind.wrap .i64 (D.toInt (nth r0 0) + D.toInt (nth r1 0)))))]).bind fun r3 =>
 (go k impl_Clamp [(.int .i64 (D.toInt (nth r3 0))), (.int .i64 (IntKind.wrap .i64 ((0 : Int) - IntKind.wrap .i64 (Int.tdiv b1 (4 : Int))))), (.int .i64 (IntKind.wrap .i64 (Int.tdiv a1 (4 : Int))))]).bind fun r4 =>
 some [(.int .i64 (D.toInt (nth r4 0)))] := by kernel_rfl
theorem qdp (k : Nat) (a b c : Int) : go (k + 1) impl_Clamp [(.int .i64 (a)), (.int .i64 (b)), (.int .i64 (c))] =
 cond (decide (c < b))
 (some [(.int .i64 (b))])
 (some [(.int .i64 (if c < if b > a then b else a then c else if b > a then b else a))]) := by kernel_rfl
theorem qdq (k : Nat) (a b : Int) : go (k + 1) impl_DivTrunc [(.int .i64 (a)), (.int .i64 (b))] =
 cond (decide (b ≤ (0 : Int)))
 (some [(.int .i64 (0 : Int))])
 (cond (!decide (b = (0 : Int)))
 (some [(.int .i64 (IntKind.wrap .i64 (Int.tdiv a b)))])
 (none)) := by kernel_rfl
theorem qdw (k : Nat) (a b c d : Int) : go (k + 1) impl_LeafOut [(.int .i64 (a)), (.int .i64 (b)), (.int .i64 (c)), (.int .i64 (d))] =
 (go k impl_within [(.int .i64 (b)), (.int .i64 ((1 : Int))), (.int .i64 ((10000000 : Int)))]).bind fun r0 =>
 cond (!bit (nth r0 0))
 (some [(.int .i64 (0 : Int)), (.int .i64 (0 : Int))])
 ((go k impl_within [(.int .i64 (a)), (.int .i64 (0 : Int)), (.int .i64 (IntKind.wrap .i64 ((1000 : Int) * b)))]).bind fun r1 =>
 cond (!bit (nth r1 0))
 (some [(.int .i64 (0 : Int)), (.int .i64 (0 : Int))])
 ((go k impl_within [(.int .i64 (c)), (.int .i64 (0 : Int)), (.int .i64 (b))]).bind fun r2 =>
 cond (!bit (nth r2 0))
 (some [(.int .i64 (0 : Int)), (.int .i64 (0 : Int))])
 ((go k impl_within [(.int .i64 (d)), (.int .i64 (0 : Int)), (.int .i64 (IntKind.wrap .i64 (b - c)))]).bind fun r3 =>
 cond (!bit (nth r3 0))
 (some [(.int .i64 (0 : Int)), (.int .i64 (0 : Int))])
 ((go k impl_ShareOut [(.int .i64 (a)), (.int .i64 (c)), (.int .i64 (b))]).bind fun r4 =>
 (go k impl_ShareOut [(.int .i64 (a)), (.int .i64 (IntKind.wrap .i64 (c + d))), (.int .i64 (b))]).bind fun r5 =>
 some [(.int .i64 (D.toInt (nth r4 0))), (.int .i64 (IntKind.wrap .i64 (D.toInt (nth r5 0) - D.toInt (nth r4 0))))])))) := by kernel_rfl
theorem qd2 (k : Nat) (a b c : Int) : go (k + 1) impl_ShareOut [(.int .i64 (a)), (.int .i64 (b)), (.int .i64 (c))] =
 (go k impl_within [(.int .i64 (c)), (.int .i64 ((1 : Int))), (.int .i64 ((10000000 : Int)))]).bind fun r0 =>
 cond (!bit (nth r0 0))
 (some [(.int .i64 (0 : Int))])
 ((go k impl_within [(.int .i64 (b)), (.int .i64 (0 : Int)), (.int .i64 (c))]).bind fun r1 =>
 cond (!bit (nth r1 0))
 (some [(.int .i64 (0 : Int))])
 ((go k impl_within [(.int .i64 (a)), (.int .i64 (0 : Int)), (.int .i64 (IntKind.wrap .i64 ((1000 : Int) * c)))]).bind fun r2 =>
 cond (!bit (nth r2 0))
 (some [(.int .i64 (0 : Int))])
 (cond (!decide (c = (0 : Int)))
 (some [(.int .i64 (IntKind.wrap .i64 (Int.tdiv (IntKind.wrap .i64 (a * b)) c)))])
 (none)))) := by kernel_rfl
def qke (x0 x1 x2 : Int) (z3 : Bool) (l4 : List (Int × Int × Int)) (x5 : Int) (z6 : Bool) (l7 : List Int) : St := ⟨fill 26 [(1, (.int .i64 (x0))), (2, (.ptr 1 (0) (0))), (5, (.sl 2 none)), (11, (.int .i64 (x1))), (12, (.int .i64 (x2)))], [], [(.arr false (z3) (.r3 (l4))), (.box true [(.int .i64 (x5)), (.sl 0 none)]), (.arr true (z6) (.ints .i64 (l7)))]⟩
theorem qdy (k : Nat) (a0 : Int) (a1z : Bool) (a1 : List (Int × Int × Int)) (b : Int) : go (k + 1) impl_Mesh_active [(.agg [(.int .i64 (a0)), (.arr false (a1z) (.r3 (a1)))]), (.int .i64 (b))] =
 lp k impl_Mesh_active [] [] 3 k (qke b (IntKind.wrap .i64 (nI (List.length a1) - (1 : Int))) (0 : Int) a1z a1 a0 false ([])) := by kernel_rfl
theorem qgu (k n : Nat) (fu : List (Nat × Nat)) (x0 x1 x2 : Int) (z3 : Bool) (l4 : List (Int × Int × Int)) (x5 : Int) (z6 : Bool) (l7 : List Int) : lp k impl_Mesh_active [] fu 3 (n + 1) (qke x0 x1 x2 z3 l4 x5 z6 l7) =
 cond (decide (x2 < x1))
 ((go k impl_Mesh_faceLevel [(.agg [(.int .i64 (x5)), (.arr false (z3) (.r3 (l4)))]), (.int .i64 (x2))]).bind fun r0 =>
 (go k impl_IsActive [(.int .i64 (x0)), (.int .i64 (D.toInt (nth r0 0)))]).bind fun r1 =>
 cond (bit (nth r1 0))
 (cond (decide (List.length (l7 ++ [x2]) ≤ bigLen))
 (lp k impl_Mesh_active [] fu 3 n (qke x0 x1 (IntKind.wrap .i64 (x2 + (1 : Int))) z3 l4 x5 (z6 && decide (List.length (l7 ++ [x2]) = 0)) (l7 ++ [x2])))
 (none))
 (lp k impl_Mesh_active [] fu 3 n (qke x0 x1 (IntKind.wrap .i64 (x2 + (1 : Int))) z3 l4 x5 z6 l7)))
 (some [(.arr true (z6) (.ints .i64 (l7)))]) := by kernel_rfl
def qkh (x0 x1 : Int) (z2 : Bool) (l3 : List (Int × Int × Int)) (z4 : Bool) (l5 : List Int) (z6 : Bool) (l7 : List Int) (z8 : Bool) (l9 : List Int) (x10 : Int) (z11 : Bool) (l12 : List Int) (z13 : Bool) (l14 : List Int) (z15 : Bool) (l16 : List Int) (z17 : Bool) (l18 : List Int) : St := ⟨fill 155 [(0, (.ptr 4 (0) (0))), (4, (.sl 5 none)), (5, (.sl 6 none)), (9, (.ptr 8 (0) (0))), (10, (.ptr 10 (0) (0))), (11, (.fn impl_State_move_1 [(.ptr 8 (0) (0)), (.ptr 10 (0) (0))])), (69, (.int .i64 (x0))), (70, (.int .i64 (x1)))], [(.ptr 4 (0) (0))], [(.arr true (z2) (.r3 (l3))), (.arr true (z4) (.ints .i64 (l5))), (.arr true (z6) (.ints .i64 (l7))), (.arr true (z8) (.ints .i64 (l9))), (.box true [(.int .i64 (x10)), (.sl 0 none), (.sl 1 none), (.sl 2 none), (.sl 3 none)]), (.arr true (z11) (.ints .i64 (l12))), (.arr true (z13) (.ints .i64 (l14))), (.arr true (z15) (.ints .i64 (l16))), (.box true [(.sl 7 none)]), (.arr true (z17) (.ints .i64 (l18))), (.box true [(.sl 9 none)])]⟩
def qki (x0 x1 : Int) (z2 : Bool) (l3 : List (Int × Int × Int)) (z4 : Bool) (l5 : List Int) (z6 : Bool) (l7 : List Int) (z8 : Bool) (l9 : List Int) (x10 : Int) (z11 : Bool) (l12 : List Int) (z13 : Bool) (l14 : List Int) : St := ⟨fill 155 [(0, (.ptr 4 (0) (0))), (9, (.ptr 6 (0) (0))), (10, (.ptr 8 (0) (0))), (124, (.int .i64 (x0))), (125, (.int .i64 (x1)))], [(.ptr 4 (0) (0))], [(.arr true (z2) (.r3 (l3))), (.arr true (z4) (.ints .i64 (l5))), (.arr true (z6) (.ints .i64 (l7))), (.arr true (z8) (.ints .i64 (l9))), (.box true [(.int .i64 (x10)), (.sl 0 none), (.sl 1 none), (.sl 2 none), (.sl 3 none)]), (.arr true (z11) (.ints .i64 (l12))), (.box true [(.sl 5 none)]), (.arr true (z13) (.ints .i64 (l14))), (.box true [(.sl 7 none)])]⟩
def qkj (x0 x1 : Int) (z2 : Bool) (l3 : List (Int × Int × Int)) (z4 : Bool) (l5 : List Int) (z6 : Bool) (l7 : List Int) (z8 : Bool) (l9 : List Int) (x10 : Int) (z11 : Bool) (l12 : List Int) (z13 : Bool) (l14 : List Int) (z15 : Bool) (l16 : List Int) : St := ⟨fill 155 [(0, (.ptr 4 (0) (0))), (4, (.sl 5 none)), (5, (.sl 6 none)), (28, (.sl 7 none)), (29, (.int .i64 (x0))), (30, (.int .i64 (x1)))], [(.ptr 4 (0) (0))], [(.arr true (z2) (.r3 (l3))), (.arr true (z4) (.ints .i64 (l5))), (.arr true (z6) (.ints .i64 (l7))), (.arr true (z8) (.ints .i64 (l9))), (.box true [(.int .i64 (x10)), (.sl 0 none), (.sl 1 none), (.sl 2 none), (.sl 3 none)]), (.arr true (z11) (.ints .i64 (l12))), (.arr true (z13) (.ints .i64 (l14))), (.arr false (z15) (.ints .i64 (l16)))]⟩
theorem qd8 (k : Nat) (a0 : Int) (a1z : Bool) (a1 : List (Int × Int × Int)) (a2z : Bool) (a2 : List Int) (a3z : Bool) (a3 : List Int) (a4z : Bool) (a4 : List Int) (bz : Bool) (b : List Int) : go (k + 1) impl_State_move [(.ptr true [(.int .i64 (a0)), (.arr true (a1z) (.r3 (a1))), (.arr true (a2z) (.ints .i64 (a2))), (.arr true (a3z) (.ints .i64 (a3))), (.arr true (a4z) (.ints .i64 (a4)))]), (.arr false (bz) (.ints .i64 (b)))] =
 cond (decide ((0 : Int) ≤ nI (List.length a2)) && decide (nI (List.length a2) ≤ nI (List.length a2)) && decide (nI (List.length a2) ≤ nI bigLen))
 (cond (decide ((0 : Int) ≤ nI (List.length a2)) && decide (nI (List.length a2) ≤ nI (List.length a2)) && decide (nI (List.length a2) ≤ nI bigLen))
 (lp k impl_State_move [(.ptr true [(.int .i64 (a0)), (.arr true (a1z) (.r3 (a1))), (.arr true (a2z) (.ints .i64 (a2))), (.arr true (a3z) (.ints .i64 (a3))), (.arr true (a4z) (.ints .i64 (a4)))])] [] 2 k (qkj (nI (List.length b)) (0 : Int) a1z a1 a2z a2 a3z a3 a4z a4 a0 false (List.replicate (Int.toNat (nI (List.length a2))) (0 : Int)) false (List.replicate (Int.toNat (nI (List.length a2))) (0 : Int)) bz b))
 (none))
 (none) := by kernel_rfl
theorem qgx (k n : Nat) (fu : List (Nat × Nat)) (a0 : Int) (a1z : Bool) (a1 : List (Int × Int × Int)) (a2z : Bool) (a2 : List Int) (a3z : Bool) (a3 : List Int) (a4z : Bool) (a4 : List Int) (x0 x1 : Int) (z2 : Bool) (l3 : List (Int × Int × Int)) (z4 : Bool) (l5 : List Int) (z6 : Bool) (l7 : List Int) (z8 : Bool) (l9 : List Int) (x10 : Int) (z11 : Bool) (l12 : List Int) (z13 : Bool) (l14 : List Int) (z15 : Bool) (l16 : List Int) (z17 : Bool) (l18 : List Int) : lp k impl_State_move [(.ptr true [(.int .i64 (a0)), (.arr true (a1z) (.r3 (a1))), (.arr true (a2z) (.ints .i64 (a2))), (.arr true (a3z) (.ints .i64 (a3))), (.arr true (a4z) (.ints .i64 (a4)))])] fu 12 (n + 1) (qkh x0 x1 z2 l3 z4 l5 z6 l7 z8 l9 x10 z11 l12 z13 l14 z15 l16 z17 l18) =
 cond (decide (x1 < x0))
 (cond (decide ((0 : Int) ≤ x1) && decide (x1 < nI (List.length l7)))
 (cond (decide ((0 : Int) ≤ x1) && decide (x1 < nI (List.length l5)))
 (cond (decide ((0 : Int) ≤ x1) && decide (x1 < nI (List.length l12)))
 (cond (decide ((0 : Int) ≤ x1) && decide (x1 < nI (List.length l14)))
 ((go k impl_LeafOut [(.int .i64 (List.getD l7 (Int.toNat x1) (0 : Int))), (.int .i64 (List.getD l5 (Int.toNat x1) (0 : Int))), (.int .i64 (List.getD l12 (Int.toNat x1) (0 : Int))), (.int .i64 (List.getD l14 (Int.toNat x1) (0 : Int)))]).bind fun r0 =>
 cond (decide ((0 : Int) ≤ x1) && decide (x1 < nI (List.length l12)))
 ((go k impl_State_move_1 [(.int .i64 (x1)), (.int .i64 (IntKind.wrap .i64 (x1 + (1 : Int)))), (.int .i64 (List.getD l12 (Int.toNat x1) (0 : Int))), (.int .i64 (D.toInt (nth r0 0))), (.ptr true [(.arr true (z15) (.ints .i64 (l16)))]), (.ptr true [(.arr true (z17) (.ints .i64 (l18)))])]).bind fun r1 =>
 cond (decide ((0 : Int) ≤ x1) && decide (x1 < nI (List.length l14)))
 ((go k impl_State_move_1 [(.int .i64 (x1)), (.int .i64 (IntKind.wrap .i64 (x1 - (1 : Int)))), (.int .i64 (List.getD l14 (Int.toNat x1) (0 : Int))), (.int .i64 (D.toInt (nth r0 1))), (.ptr true [(.arr true (D.nil (D.cell 0 (nth r1 0))) (.ints .i64 (D.ints (D.cell 0 (nth r1 0)))))]), (.ptr true [(.arr true (D.nil (D.cell 0 (nth r1 1))) (.ints .i64 (D.ints (D.cell 0 (nth r1 1)))))])]).bind fun r2 =>
 lp k impl_State_move [(.ptr true [(.int .i64 (a0)), (.arr true (a1z) (.r3 (a1))), (.arr true (a2z) (.ints .i64 (a2))), (.arr true (a3z) (.ints .i64 (a3))), (.arr true (a4z) (.ints .i64 (a4)))])] fu 12 n (qkh x0 (IntKind.wrap .i64 (x1 + (1 : Int))) z2 l3 z4 l5 z6 l7 z8 l9 x10 z11 l12 z13 l14 (D.nil (D.cell 0 (nth r2 0))) (D.ints (D.cell 0 (nth r2 0))) (D.nil (D.cell 0 (nth r2 1))) (D.ints (D.cell 0 (nth r2 1)))))
 (none))
 (none))
 (none))
 (none))
 (none))
 (none))
 (lp k impl_State_move [(.ptr true [(.int .i64 (a0)), (.arr true (a1z) (.r3 (a1))), (.arr true (a2z) (.ints .i64 (a2))), (.arr true (a3z) (.ints .i64 (a3))), (.arr true (a4z) (.ints .i64 (a4)))])] fu 19 k (qki (nI (List.length l5)) (0 : Int) z2 l3 z4 l5 z6 l7 z8 l9 x10 z15 l16 z17 l18)) := by kernel_rfl
theorem qgy (k n : Nat) (fu : List (Nat × Nat)) (a0 : Int) (a1z : Bool) (a1 : List (Int × Int × Int)) (a2z : Bool) (a2 : List Int) (a3z : Bool) (a3 : List Int) (a4z : Bool) (a4 : List Int) (x0 x1 : Int) (z2 : Bool) (l3 : List (Int × Int × Int)) (z4 : Bool) (l5 : List Int) (z6 : Bool) (l7 : List Int) (z8 : Bool) (l9 : List Int) (x10 : Int) (z11 : Bool) (l12 : List Int) (z13 : Bool) (l14 : List Int) : lp k impl_State_move [(.ptr true [(.int .i64 (a0)), (.arr true (a1z) (.r3 (a1))), (.arr true (a2z) (.ints .i64 (a2))), (.arr true (a3z) (.ints .i64 (a3))), (.arr true (a4z) (.ints .i64 (a4)))])] fu 19 (n + 1) (qki x0 x1 z2 l3 z4 l5 z6 l7 z8 l9 x10 z11 l12 z13 l14) =
 cond (decide (x1 < x0))
 (cond (decide ((0 : Int) ≤ x1) && decide (x1 < nI (List.length l5)))
 (cond (decide ((0 : Int) ≤ x1) && decide (x1 < nI (List.length l12)))
 (cond (decide ((0 : Int) ≤ x1) && decide (x1 < nI (List.length l5)))
 (cond (decide ((0 : Int) ≤ x1) && decide (x1 < nI (List.length l7)))
 (cond (decide ((0 : Int) ≤ x1) && decide (x1 < nI (List.length l14)))
 (cond (decide ((0 : Int) ≤ x1) && decide (x1 < nI (List.length l7)))
 (lp k impl_State_move [(.ptr true [(.int .i64 (a0)), (.arr true (a1z) (.r3 (a1))), (.arr true (a2z) (.ints .i64 (a2))), (.arr true (a3z) (.ints .i64 (a3))), (.arr true (a4z) (.ints .i64 (a4)))])] fu 19 n (qki x0 (IntKind.wrap .i64 (x1 + (1 : Int))) z2 l3 z4 (List.set l5 (Int.toNat x1) (IntKind.wrap .i64 (List.getD l5 (Int.toNat x1) (0 : Int) + List.getD l12 (Int.toNat x1) (0 : Int)))) z6 (List.set l7 (Int.toNat x1) (IntKind.wrap .i64 (List.getD l7 (Int.toNat x1) (0 : Int) + List.getD l14 (Int.toNat x1) (0 : Int)))) z8 l9 x10 z11 l12 z13 l14))
 (none))
 (none))
 (none))
 (none))
 (none))
 (none))
 (some [(.ptr true [(.int .i64 (x10)), (.arr true (z2) (.r3 (l3))), (.arr true (z4) (.ints .i64 (l5))), (.arr true (z6) (.ints .i64 (l7))), (.arr true (z8) (.ints .i64 (l9)))])]) := by kernel_rfl
theorem qgz (k n : Nat) (fu : List (Nat × Nat)) (a0 : Int) (a1z : Bool) (a1 : List (Int × Int × Int)) (a2z : Bool) (a2 : List Int) (a3z : Bool) (a3 : List Int) (a4z : Bool) (a4 : List Int) (x0 x1 : Int) (z2 : Bool) (l3 : List (Int × Int × Int)) (z4 : Bool) (l5 : List Int) (z6 : Bool) (l7 : List Int) (z8 : Bool) (l9 : List Int) (x10 : Int) (z11 : Bool) (l12 : List Int) (z13 : Bool) (l14 : List Int) (z15 : Bool) (l16 : List Int) : lp k impl_State_move [(.ptr true [(.int .i64 (a0)), (.arr true (a1z) (.r3 (a1))), (.arr true (a2z) (.ints .i64 (a2))), (.arr true (a3z) (.ints .i64 (a3))), (.arr true (a4z) (.ints .i64 (a4)))])] fu 2 (n + 1) (qkj x0 x1 z2 l3 z4 l5 z6 l7 z8 l9 x10 z11 l12 z13 l14 z15 l16) =
 cond (decide (x1 < x0))
 (cond (decide ((0 : Int) ≤ x1) && decide (x1 < nI (List.length l16)))
 ((go k impl_State_flux [(.agg [(.int .i64 (x10)), (.arr false (z2) (.r3 (l3))), (.arr false (z4) (.ints .i64 (l5))), (.arr false (z6) (.ints .i64 (l7))), (.arr false (z8) (.ints .i64 (l9)))]), (.int .i64 (List.getD l16 (Int.toNat x1) (0 : Int)))]).bind fun r0 =>
 cond (decide ((0 : Int) < D.toInt (nth r0 0)))
 (cond (decide ((0 : Int) ≤ List.getD l16 (Int.toNat x1) (0 : Int)) && decide (List.getD l16 (Int.toNat x1) (0 : Int) < nI (List.length l12)))
 (lp k impl_State_move [(.ptr true [(.int .i64 (a0)), (.arr true (a1z) (.r3 (a1))), (.arr true (a2z) (.ints .i64 (a2))), (.arr true (a3z) (.ints .i64 (a3))), (.arr true (a4z) (.ints .i64 (a4)))])] fu 2 n (qkj x0 (IntKind.wrap .i64 (x1 + (1 : Int))) z2 l3 z4 l5 z6 l7 z8 l9 x10 z11 (List.set l12 (Int.toNat (List.getD l16 (Int.toNat x1) (0 : Int))) (D.toInt (nth r0 0))) z13 l14 z15 l16))
 (none))
 (cond (decide ((0 : Int) ≤ IntKind.wrap .i64 (List.getD l16 (Int.toNat x1) (0 : Int) + (1 : Int))) && decide (IntKind.wrap .i64 (List.getD l16 (Int.toNat x1) (0 : Int) + (1 : Int)) < nI (List.length l14)))
 (lp k impl_State_move [(.ptr true [(.int .i64 (a0)), (.arr true (a1z) (.r3 (a1))), (.arr true (a2z) (.ints .i64 (a2))), (.arr true (a3z) (.ints .i64 (a3))), (.arr true (a4z) (.ints .i64 (a4)))])] fu 2 n (qkj x0 (IntKind.wrap .i64 (x1 + (1 : Int))) z2 l3 z4 l5 z6 l7 z8 l9 x10 z11 l12 z13 (List.set l14 (Int.toNat (IntKind.wrap .i64 (List.getD l16 (Int.toNat x1) (0 : Int) + (1 : Int)))) (IntKind.wrap .i64 ((0 : Int) - D.toInt (nth r0 0)))) z15 l16))
 (none)))
 (none))
 (cond (decide ((0 : Int) ≤ nI (List.length l5)) && decide (nI (List.length l5) ≤ nI (List.length l5)) && decide (nI (List.length l5) ≤ nI bigLen))
 (cond (decide ((0 : Int) ≤ nI (List.length l5)) && decide (nI (List.length l5) ≤ nI (List.length l5)) && decide (nI (List.length l5) ≤ nI bigLen))
 (lp k impl_State_move [(.ptr true [(.int .i64 (a0)), (.arr true (a1z) (.r3 (a1))), (.arr true (a2z) (.ints .i64 (a2))), (.arr true (a3z) (.ints .i64 (a3))), (.arr true (a4z) (.ints .i64 (a4)))])] fu 12 k (qkh (nI (List.length l5)) (0 : Int) z2 l3 z4 l5 z6 l7 z8 l9 x10 z11 l12 z13 l14 false (List.replicate (Int.toNat (nI (List.length l5))) (0 : Int)) false (List.replicate (Int.toNat (nI (List.length l5))) (0 : Int))))
 (none))
 (none)) := by kernel_rfl
theorem qd9 (k : Nat) (v0 v1 v2 v3 : Int) (v4 : Bool) (v5 : List Int) (v6 : Bool) (v7 : List Int) : go (k + 1) impl_State_move_1 [(.int .i64 (v0)), (.int .i64 (v1)), (.int .i64 (v2)), (.int .i64 (v3)), (.ptr true [(.arr true (v4) (.ints .i64 (v5)))]), (.ptr true [(.arr true (v6) (.ints .i64 (v7)))])] =
 cond (decide ((0 : Int) < v2))
 (cond (decide ((0 : Int) ≤ v0) && decide (v0 < nI (List.length v5)))
 (cond (decide ((0 : Int) ≤ v0) && decide (v0 < nI (List.length v5)))
 (cond (decide ((0 : Int) ≤ v1) && decide (v1 < nI (List.length (List.set v5 (Int.toNat v0) (IntKind.wrap .i64 (List.getD v5 (Int.toNat v0) (0 : Int) - v2))))))
 (cond (decide ((0 : Int) ≤ v1) && decide (v1 < nI (List.length (List.set v5 (Int.toNat v0) (IntKind.wrap .i64 (List.getD v5 (Int.toNat v0) (0 : Int) - v2))))))
 (cond (decide ((0 : Int) ≤ v0) && decide (v0 < nI (List.length v7)))
 (cond (decide ((0 : Int) ≤ v0) && decide (v0 < nI (List.length v7)))
 (cond (decide ((0 : Int) ≤ v1) && decide (v1 < nI (List.length (List.set v7 (Int.toNat v0) (IntKind.wrap .i64 (List.getD v7 (Int.toNat v0) (0 : Int) - v3))))))
 (cond (decide ((0 : Int) ≤ v1) && decide (v1 < nI (List.length (List.set v7 (Int.toNat v0) (IntKind.wrap .i64 (List.getD v7 (Int.toNat v0) (0 : Int) - v3))))))
 (some [(.ptr true [(.arr true (v4) (.ints .i64 (List.set (List.set v5 (Int.toNat v0) (IntKind.wrap .i64 (List.getD v5 (Int.toNat v0) (0 : Int) - v2))) (Int.toNat v1) (IntKind.wrap .i64 (List.getD (List.set v5 (Int.toNat v0) (IntKind.wrap .i64 (List.getD v5 (Int.toNat v0) (0 : Int) - v2))) (Int.toNat v1) (0 : Int) + v2)))))]), (.ptr true [(.arr true (v6) (.ints .i64 (List.set (List.set v7 (Int.toNat v0) (IntKind.wrap .i64 (List.getD v7 (Int.toNat v0) (0 : Int) - v3))) (Int.toNat v1) (IntKind.wrap .i64 (List.getD (List.set v7 (Int.toNat v0) (IntKind.wrap .i64 (List.getD v7 (Int.toNat v0) (0 : Int) - v3))) (Int.toNat v1) (0 : Int) + v3)))))])])
 (none))
 (none))
 (none))
 (none))
 (none))
 (none))
 (none))
 (none))
 (some [(.ptr true [(.arr true (v4) (.ints .i64 (v5)))]), (.ptr true [(.arr true (v6) (.ints .i64 (v7)))])]) := by kernel_rfl
theorem qec (k : Nat) (a0 : Int) (a1z : Bool) (a1 : List (Int × Int × Int)) (a2z : Bool) (a2 : List Int) (a3z : Bool) (a3 : List Int) (a4z : Bool) (a4 : List Int) (b : Int) : go (k + 1) impl_StepState [(.agg [(.int .i64 (a0)), (.arr false (a1z) (.r3 (a1))), (.arr false (a2z) (.ints .i64 (a2))), (.arr false (a3z) (.ints .i64 (a3))), (.arr false (a4z) (.ints .i64 (a4)))]), (.int .i64 (b))] =
 (go k impl_copyState [(.agg [(.int .i64 (a0)), (.arr false (a1z) (.r3 (a1))), (.arr false (a2z) (.ints .i64 (a2))), (.arr false (a3z) (.ints .i64 (a3))), (.arr false (a4z) (.ints .i64 (a4)))])]).bind fun r0 =>
 (go k impl_StateOk [(.agg [(.int .i64 (a0)), (.arr false (a1z) (.r3 (a1))), (.arr false (a2z) (.ints .i64 (a2))), (.arr false (a3z) (.ints .i64 (a3))), (.arr false (a4z) (.ints .i64 (a4)))])]).bind fun r1 =>
 cond (bit (nth r1 0))
 (cond (decide ((0 : Int) ≤ b))
 ((go k impl_Mesh_active [(.agg [(.int .i64 (a0)), (.arr false (a1z) (.r3 (a1)))]), (.int .i64 (b))]).bind fun r2 =>
 (go k impl_State_move [(.ptr true [(.int .i64 (D.toInt (D.cell 0 (nth r0 0)))), (.arr true (D.nil (D.cell 1 (nth r0 0))) (.r3 (D.r3 (D.cell 1 (nth r0 0))))), (.arr true (D.nil (D.cell 2 (nth r0 0))) (.ints .i64 (D.ints (D.cell 2 (nth r0 0))))), (.arr true (D.nil (D.cell 3 (nth r0 0))) (.ints .i64 (D.ints (D.cell 3 (nth r0 0))))), (.arr true (D.nil (D.cell 4 (nth r0 0))) (.ints .i64 (D.ints (D.cell 4 (nth r0 0)))))]), (.arr false (D.nil (nth r2 0)) (.ints .i64 (D.ints (nth r2 0))))]).bind fun r3 =>
 some [(.agg [(.int .i64 (D.toInt (D.cell 0 (nth r3 0)))), (.arr true (D.nil (D.cell 1 (nth r3 0))) (.r3 (D.r3 (D.cell 1 (nth r3 0))))), (.arr true (D.nil (D.cell 2 (nth r3 0))) (.ints .i64 (D.ints (D.cell 2 (nth r3 0))))), (.arr true (D.nil (D.cell 3 (nth r3 0))) (.ints .i64 (D.ints (D.cell 3 (nth r3 0))))), (.arr true (D.nil (D.cell 4 (nth r3 0))) (.ints .i64 (D.ints (D.cell 4 (nth r3 0)))))])])
 (some [(.agg [(.int .i64 (D.toInt (D.cell 0 (nth r0 0)))), (.arr true (D.nil (D.cell 1 (nth r0 0))) (.r3 (D.r3 (D.cell 1 (nth r0 0))))), (.arr true (D.nil (D.cell 2 (nth r0 0))) (.ints .i64 (D.ints (D.cell 2 (nth r0 0))))), (.arr true (D.nil (D.cell 3 (nth r0 0))) (.ints .i64 (D.ints (D.cell 3 (nth r0 0))))), (.arr true (D.nil (D.cell 4 (nth r0 0))) (.ints .i64 (D.ints (D.cell 4 (nth r0 0)))))])]))
 (some [(.agg [(.int .i64 (D.toInt (D.cell 0 (nth r0 0)))), (.arr true (D.nil (D.cell 1 (nth r0 0))) (.r3 (D.r3 (D.cell 1 (nth r0 0))))), (.arr true (D.nil (D.cell 2 (nth r0 0))) (.ints .i64 (D.ints (D.cell 2 (nth r0 0))))), (.arr true (D.nil (D.cell 3 (nth r0 0))) (.ints .i64 (D.ints (D.cell 3 (nth r0 0))))), (.arr true (D.nil (D.cell 4 (nth r0 0))) (.ints .i64 (D.ints (D.cell 4 (nth r0 0)))))])]) := by kernel_rfl

end Go.Proofs.Ytcaapedadpnjoaa
end
section
namespace Go.Proofs.Ytcaapedadpnjoaa
open Go.Ev
set_option maxRecDepth 20000
theorem qbb (k : Nat) (hk : 2000000 ≤ k) (a : Int) (b : Int) (c : Int) : go (k + 2) impl_ShareOut [(.int .i64 (a)), (.int .i64 (b)), (.int .i64 (c))] = some [.int .i64 (qld a b c)] := by
  rw [qd2]
  unfold qld
  cases hm : inR c 1 10000000
  · simp (disch := omega) only [qbx, hm, bit, qax, nth0, ql8, Bool.not_false, qdj, Bool.false_and, qdh]
  cases hp : inR b 0 c
  · simp (disch := omega) only [qbx, hm, bit, hp, qax, nth0, ql8, Bool.not_false, qdj, Bool.not_true, qdh, Bool.false_and, Bool.and_false]
  have hm' := qgh.1 hm
  cases ht : inR a 0 (1000 * c)
  · simp (disch := omega) only [qbx, hm, bit, hp, qmn, ht, dF, Bool.not_false, qdj, qax, nth0, ql8, Bool.not_true, qdh, Bool.and_false]
  have q := qlh hm hp ht
  have q2 : 0 ≤ Int.tdiv (a * b) c ∧ Int.tdiv (a * b) c ≤ 100000000000000000 := by
    have := ql6 (x := a * b) (y := c) (B := 100000000000000000) (by omega) (by omega) (by omega)
    rw [Int.tdiv_eq_ediv_of_nonneg q.1] at *
    exact ⟨Int.ediv_nonneg q.1 (by omega), this.2⟩
  simp (disch := omega) only [qbx, hm, bit, hp, qmn, ht, dF, Bool.not_false, qdj, qax, nth0, ql8, Bool.not_true, qdh, Bool.and_true]
theorem qa8 (k : Nat) (hk : 2000000 ≤ k) (a : Int) (b : Int) (c : Int) (d : Int) : go (k + 3) impl_LeafOut [(.int .i64 (a)), (.int .i64 (b)), (.int .i64 (c)), (.int .i64 (d))] = some [.int .i64 (loA a b c d), .int .i64 (loB a b c d)] := by
  rw [qdw]
  unfold loA loB loOk
  cases hm : inR b 1 10000000
  · simp (disch := omega) only [qbx, hm, bit, qax, nth0, ql8, Bool.not_false, qdj, Bool.false_and, qdh]
  have hm' := qgh.1 hm
  cases ht : inR a 0 (1000 * b)
  · simp (disch := omega) only [qbx, hm, bit, qmn, ht, qax, nth0, ql8, Bool.not_false, qdj, Bool.not_true, qdh, Bool.false_and, Bool.and_false]
  cases hr : inR c 0 b
  · simp (disch := omega) only [qbx, hm, bit, qmn, ht, hr, qax, nth0, ql8, Bool.not_false, qdj, Bool.not_true, qdh, Bool.false_and, Bool.and_false]
  have hr' := qgh.1 hr
  cases hl : inR d 0 (b - c)
  · simp (disch := omega) only [qbx, hm, bit, qmn, ht, hr, hl, qax, nth0, ql8, Bool.not_false, qdj, Bool.not_true, qdh, Bool.and_false]
  have hl' := qgh.1 hl
  have s1 := qlf a c b; have s2 := qlf a (c + d) b
  simp (disch := omega) only [qbx, hm, bit, qmn, ht, hr, hl, qbb, qax, nth0, ql9, ql8, Bool.not_true, qdh, Bool.and_true, qdj]
theorem qa3 (k : Nat) (hk : 2000000 ≤ k) (a b : Int) (hb : 0 < b) (ha : -1000000000000 ≤ a) (ha' : a ≤ 1000000000000) : go (k + 1) impl_DivTrunc [.int .i64 a, .int .i64 b] = some [.int .i64 (Int.tdiv a b)] := by
  rw [qdq]
  have := ql6 hb ha ha'
  simp (disch := omega) only [dF, Bool.not_false, qmn, qdj, qdh]
theorem qa2 (k : Nat) (hk : 2000000 ≤ k) (a b c : Int) (h : b ≤ c) : go (k + 1) impl_Clamp [.int .i64 a, .int .i64 b, .int .i64 c] = some [.int .i64 (max b (min c a))] := by
  rw [qdp]
  simp (disch := omega) only [dF, imax, imin, qdh]
  rw [show min c (max b a) = max b (min c a) by omega]
theorem qbm (k : Nat) (hk : 2000000 ≤ k) (e c a f d b : Int) (ha : 0 ≤ a ∧ a ≤ 161000000) (hb : 0 ≤ b ∧ b ≤ 161000000) (hc : 0 ≤ c ∧ c ≤ 10000000) (hd : 0 ≤ d ∧ d ≤ 10000000) (he : inR e 0 4 = true) (hf : inR f 0 4 = true) :
    go (k + 4) impl_flux [.agg [.int .i64 e, .int .i64 c, .int .i64 a], .agg [.int .i64 f, .int .i64 d, .int .i64 b]] = some [.int .i64 (qji a b c d e f)] := by
  rw [qei]
  have w1 := qmj he; have w2 := qmj hf; have w3 := qmk (max f e)
  have p := qi6 (x := a - b) (w := qmi (max f e)) (A := 161000000) (by omega) (by omega) w3.1 w3.2
  have t := ql6 (x := (a - b) * qmi (max f e)) (y := 32 * (qmi e + qmi f)) (B := 2576000000) (by omega) (by omega) (by omega)
  have t1 : Int.tdiv c 4 = c / 4 := Int.tdiv_eq_ediv_of_nonneg (by omega)
  have t2 : Int.tdiv d 4 = d / 4 := Int.tdiv_eq_ediv_of_nonneg (by omega)
  simp (disch := omega) only [qbf, imax, qmn, t2, t1, qa2, qax, nth0, ql9, qa3]
  rfl
theorem qbt (k : Nat) (hk : 2000000 ≤ k) (r : Int) (z1 z2 z3 z4 : Bool) (l : List Cell) (m t b : List Int) (F : StF r l m t b) (i : Nat) (hi : i < l.length) :
    go (k + 2) impl_State_side [.agg [.int .i64 (r), .arr false (z1) (.r3 (l)), .arr false (z2) (.ints .i64 (m)), .arr false (z3) (.ints .i64 (t)), .arr false (z4) (.ints .i64 (b))], .int .i64 (i : Int)] = some [.agg [.int .i64 (qhq l i), .int .i64 (m.getD i 0), .int .i64 (surf l m b i)]] := by
  rw [qea]
  have hl := F.len; have hm := F.ml
  have e1 := qbv (k + 1 - 1) (by omega) r z1 z2 z3 z4 l m t b F i hi
  rw [show k + 1 - 1 + 1 = k + 1 by omega] at e1
  simp (disch := omega) only [dT, nI, Bool.and_true, e1, Int.toNat_natCast, qax, nth0, ql9, qdj]
theorem qbs (k : Nat) (hk : 2000000 ≤ k) (r : Int) (z1 z2 z3 z4 : Bool) (l : List Cell) (m t b : List Int) (F : StF r l m t b) (i : Nat) (hi : i + 1 < l.length) :
    go (k + 5) impl_State_flux [.agg [.int .i64 (r), .arr false (z1) (.r3 (l)), .arr false (z2) (.ints .i64 (m)), .arr false (z3) (.ints .i64 (t)), .arr false (z4) (.ints .i64 (b))], .int .i64 (i : Int)] = some [.int .i64 (fl l m b i)] := by
  rw [qd5]
  have hl := F.len
  have h1 := F.at i; have h2 := F.at (i + 1); have s1 := qly F i; have s2 := qly F (i + 1)
  have v1 := F.lev i; have v2 := F.lev (i + 1)
  have e1 := qbt (k + 4 - 2) (by omega) r z1 z2 z3 z4 l m t b F i (by omega)
  have e2 := qbt (k + 4 - 2) (by omega) r z1 z2 z3 z4 l m t b F (i + 1) hi
  rw [show k + 4 - 2 + 2 = k + 4 by omega] at e1 e2
  have e3 := qbm (k + 4 - 4) (by omega) (qhq l i) (m.getD i 0) (surf l m b i) (qhq l (i + 1)) (m.getD (i + 1) 0) (surf l m b (i + 1)) s1 s2 ⟨h1.1, h1.2.1⟩ ⟨h2.1, h2.2.1⟩ v1 v2
  rw [show k + 4 - 4 + 4 = k + 4 by omega] at e3
  simp (disch := omega) only [e1, qc6, qmn, e2, qax, nth0, qc7, ql9, qc8, qc9, e3]
  rfl
def nats (l : List Nat) : List Int := l.map (fun i : Nat => (i : Int))
theorem qi8 (l : List Nat) : (nats l).length = l.length := by simp [nats]
theorem qi7 {l : List Nat} {i : Nat} (h : i < l.length) : (nats l).getD i 0 = ((l.getD i 0 : Nat) : Int) := by simp [nats, h]
def qan (tk : Int) (l : List Cell) : Nat → Nat → List Nat
  | 0, _ => []
  | n + 1, i => if qgj tk (qf2 l i) = true then i :: qan tk l n (i + 1) else qan tk l n (i + 1)
theorem qao (tk : Int) (l : List Cell) : ∀ n i, (qan tk l n i).length ≤ n
  | 0, i => by simp [qan]
  | n + 1, i => by
    have := qao tk l n (i + 1)
    unfold qan
    split
    · simp only [List.length_cons]; omega
    · omega
theorem qap (tk : Int) (l : List Cell) : ∀ n i j, j ∈ qan tk l n i ↔ (i ≤ j ∧ j < i + n) ∧ qgj tk (qf2 l j) = true
  | 0, i, j => by simp [qan]; omega
  | n + 1, i, j => by
    have ih := qap tk l n (i + 1) j
    unfold qan
    split
    · rename_i h
      rw [List.mem_cons, ih]
      constructor
      · rintro (rfl | ⟨h1, h2⟩)
        · exact ⟨by omega, h⟩
        · exact ⟨by omega, h2⟩
      · rintro ⟨h1, h2⟩
        by_cases e : j = i
        · exact .inl e
        · exact .inr ⟨by omega, h2⟩
    · rename_i h
      rw [ih]
      constructor
      · rintro ⟨h1, h2⟩; exact ⟨by omega, h2⟩
      · rintro ⟨h1, h2⟩
        refine ⟨?_, h2⟩
        by_cases e : j = i
        · subst e; exact absurd h2 h
        · omega
def acts (tk : Int) (l : List Cell) : List Nat := qan tk l (l.length - 1) 0
theorem qh4 (k : Nat) (hk : 2000000 ≤ k) (fu : List (Nat × Nat)) (z : Bool) (tk r : Int) (l : List Cell) (hl : (l.length : Int) ≤ 1000) (h1 : 1 ≤ l.length) : ∀ (n i : Nat) (acc : List Nat), i ≤ l.length - 1 → l.length - 1 - i < n → acc.length ≤ i →
    lp (k + 4) impl_Mesh_active [] fu 3 (n) (qke tk ((l.length - 1 : Nat) : Int) (i : Int) z l r false (nats acc)) = some [.arr true false (.ints .i64 (nats (acc ++ qan tk l (l.length - 1 - i) i)))]
  | 0, i, acc, hi, hn, ha => by omega
  | n + 1, i, acc, hi, hn, ha => by
    rw [qgu]
    have nl := qi8 acc
    by_cases h : i < l.length - 1
    · rw [show l.length - 1 - i = (l.length - 1 - (i + 1)) + 1 by omega, qan]
      have eL := qbl (k + 4 - 1) (by omega) r z l i (by omega) (by omega)
      rw [show k + 4 - 1 + 1 = k + 4 by omega] at eL
      have hd : (i : Int) < ((l.length - 1 : Nat) : Int) := by omega
      rw [dT hd, qdj, eL, qax, nth0, ql9, qa6 _ (by omega), qax, nth0, bit, ql8]
      cases g : qgj tk (qf2 l i)
      · have e := qh4 k hk fu z tk r l hl h1 n (i + 1) acc (by omega) (by omega) (by omega)
        rw [if_neg (by simp), qdh]
        simp (disch := omega) only [qc6, qmn, e]
      · have e := qh4 k hk fu z tk r l hl h1 n (i + 1) (acc ++ [i]) (by omega) (by omega) (by simp; omega)
        rw [if_pos rfl, qdj]
        have q : nats acc ++ [(i : Int)] = nats (acc ++ [i]) := by simp [nats]
        have ql : (nats (acc ++ [i])).length = acc.length + 1 := by simp [nats]
        rw [show acc ++ i :: qan tk l (l.length - 1 - (i + 1)) (i + 1) = (acc ++ [i]) ++ qan tk l (l.length - 1 - (i + 1)) (i + 1) by simp]
        simp (disch := omega) only [q, ql, big0, dT, qc6, qmn, dF, Bool.and_false, e, qdj]
    · simp (disch := omega) only [dF, bit, big0, qc6, qmn, Bool.false_and, qdh]
      rw [show l.length - 1 - i = 0 by omega, qan, List.append_nil]
theorem qbh (k : Nat) (hk : 2000000 ≤ k) (a0 : Int) (a1z : Bool) (a1 : List (Int × Int × Int)) (b : Int) (hl : (a1.length : Int) ≤ 1000) (h1 : 1 ≤ a1.length) : go (k + 5) impl_Mesh_active [(.agg [(.int .i64 (a0)), (.arr false (a1z) (.r3 (a1)))]), (.int .i64 (b))] = some [.arr true false (.ints .i64 (nats (acts b a1)))] := by
  rw [qdy]
  have e := qh4 k hk [] a1z b a0 a1 hl h1 (k + 4) 0 [] (by omega) (by omega) (by simp)
  rw [List.nil_append, show nats [] = [] from rfl] at e
  simp (disch := omega) only [nI, qc5, qmn]
  exact e
end Go.Proofs.Ytcaapedadpnjoaa
end
section
namespace Go.Proofs.Ytcaapedadpnjoaa
open Go.Ev
set_option maxRecDepth 20000
theorem qjj (o : Bool) (d0 : D) (l : List D) : (D.ptr o (d0 :: l)).cell 0 = d0 := Eq.trans rfl rfl
theorem qjk (o : Bool) (d0 d1 : D) (l : List D) : (D.ptr o (d0 :: d1 :: l)).cell 1 = d1 := Eq.trans rfl rfl
theorem qjl (o : Bool) (d0 d1 d2 : D) (l : List D) : (D.ptr o (d0 :: d1 :: d2 :: l)).cell 2 = d2 := Eq.trans rfl rfl
theorem qjm (o : Bool) (d0 d1 d2 d3 : D) (l : List D) : (D.ptr o (d0 :: d1 :: d2 :: d3 :: l)).cell 3 = d3 := Eq.trans rfl rfl
theorem qjn (o : Bool) (d0 d1 d2 d3 d4 : D) (l : List D) : (D.ptr o (d0 :: d1 :: d2 :: d3 :: d4 :: l)).cell 4 = d4 := Eq.trans rfl rfl
theorem qix {fs : List Nat} {p : Nat} (h : p < fs.length) (j : Nat) : j ∈ fs.take (p + 1) ↔ j ∈ fs.take p ∨ j = fs.getD p 0 := by
  rw [List.take_succ_eq_append_getElem h, List.mem_append, List.mem_singleton]
  simp [h]
def Rk (tk : Int) (l : List Cell) (m b : List Int) (fs : List Nat) (j : Nat) : Int := if j ∈ fs then rgt tk l m b j else 0
def Lk (tk : Int) (l : List Cell) (m b : List Int) (fs : List Nat) (j : Nat) : Int := if 1 ≤ j ∧ j - 1 ∈ fs then lft tk l m b j else 0
theorem qia (k : Nat) (hk : 2000000 ≤ k) (fu : List (Nat × Nat)) (a0 : Int) (a1z : Bool) (a1 : List Cell) (a2z : Bool) (a2 : List Int) (a3z : Bool) (a3 : List Int) (a4z : Bool) (a4 : List Int) (z1 z2 z3 z4 z5 : Bool) (r : Int) (l : List Cell) (m t b : List Int) (tk : Int) (F : StF r l m t b) (fs : List Nat) (hf : ∀ i ∈ fs, i + 1 < l.length ∧ qgj tk (qf2 l i) = true) (hfl : (fs.length : Int) ≤ 1000) : ∀ (n p : Nat), p ≤ fs.length → fs.length - p < n →
    lp (k + 5) impl_State_move [(.ptr true [(.int .i64 (a0)), (.arr true (a1z) (.r3 (a1))), (.arr true (a2z) (.ints .i64 (a2))), (.arr true (a3z) (.ints .i64 (a3))), (.arr true (a4z) (.ints .i64 (a4)))])] fu 2 (n) (qkj (fs.length : Int) (p : Int) z1 l z2 m z3 t z4 b r false (tab l.length (Rk tk l m b (fs.take p))) false (tab l.length (Lk tk l m b (fs.take p))) z5 (nats fs)) = lp (k + 5) impl_State_move [(.ptr true [(.int .i64 (a0)), (.arr true (a1z) (.r3 (a1))), (.arr true (a2z) (.ints .i64 (a2))), (.arr true (a3z) (.ints .i64 (a3))), (.arr true (a4z) (.ints .i64 (a4)))])] fu 12 (k + 5) (qkh (l.length : Int) 0 z1 l z2 m z3 t z4 b r false (tab l.length (Rk tk l m b fs)) false (tab l.length (Lk tk l m b fs)) false (List.replicate l.length 0) false (List.replicate l.length 0))
  | 0, p, hp, hn => by omega
  | n + 1, p, hp, hn => by
    have hl := F.len; have hm := F.ml
    have nl := qi8 fs
    rw [qgz]
    by_cases h : p < fs.length
    · obtain ⟨h1, h2⟩ := hf _ (qf9 h 0)
      have ng := qi7 h
      have hz : ff tk l m b (fs.getD p 0) = fl l m b (fs.getD p 0) := by unfold ff qam; rw [h2, dT h1]; rfl
      have b0 := qf6 F (fs.getD p 0); have a0' := F.at (fs.getD p 0); have a1' := F.at (fs.getD p 0 + 1)
      have IH := qia k hk fu a0 a1z a1 a2z a2 a3z a3 a4z a4 z1 z2 z3 z4 z5 r l m t b tk F fs hf hfl n (p + 1) (by omega) (by omega)
      have eF := qbs (k + 5 - 5) (by omega) r z1 z2 z3 z4 l m t b F (fs.getD p 0) h1
      rw [show k + 5 - 5 + 5 = k + 5 by omega] at eF
      by_cases g : 0 < fl l m b (fs.getD p 0)
      · have q1 : tab l.length (fun j => if j = fs.getD p 0 then fl l m b (fs.getD p 0) else Rk tk l m b (fs.take p) j) = tab l.length (Rk tk l m b (fs.take (p + 1))) := qlz fun j hj => by
          unfold Rk
          simp only [qix h]
          by_cases e : j = fs.getD p 0
          · rw [if_pos e, if_pos (.inr e), e]; unfold rgt; rw [hz]; omega
          · rw [if_neg e]; simp only [e, or_false]
        have q2 : tab l.length (Lk tk l m b (fs.take p)) = tab l.length (Lk tk l m b (fs.take (p + 1))) := qlz fun j hj => by
          unfold Lk
          simp only [qix h]
          by_cases e : 1 ≤ j ∧ j - 1 = fs.getD p 0
          · have : lft tk l m b j = 0 := by unfold lft; rw [if_pos e.1, e.2, hz]; omega
            rw [this]; simp
          · have : (1 ≤ j ∧ (j - 1 ∈ fs.take p ∨ j - 1 = fs.getD p 0)) = (1 ≤ j ∧ j - 1 ∈ fs.take p) := propext ⟨fun hh => ⟨hh.1, hh.2.resolve_right fun e2 => e ⟨hh.1, e2⟩⟩, fun hh => ⟨hh.1, .inl hh.2⟩⟩
            simp only [this]
        rw [← q1, ← q2] at IH
        simp (disch := omega) only [dT, nI, nl, Bool.and_true, Int.toNat_natCast, ng, eF, ql1, qc6, qmn, ql3, qdj, qax, nth0, ql9, IH, big0]
      · have q1 : tab l.length (fun j => if j = fs.getD p 0 + 1 then 0 - fl l m b (fs.getD p 0) else Lk tk l m b (fs.take p) j) = tab l.length (Lk tk l m b (fs.take (p + 1))) := qlz fun j hj => by
          unfold Lk
          simp only [qix h]
          by_cases e : j = fs.getD p 0 + 1
          · rw [if_pos e, if_pos ⟨by omega, .inr (by omega)⟩]; unfold lft; rw [if_pos (by omega), show j - 1 = fs.getD p 0 by omega, hz]; omega
          · rw [if_neg e]
            have : (1 ≤ j ∧ (j - 1 ∈ fs.take p ∨ j - 1 = fs.getD p 0)) = (1 ≤ j ∧ j - 1 ∈ fs.take p) := propext ⟨fun hh => ⟨hh.1, hh.2.resolve_right fun e2 => e (by omega)⟩, fun hh => ⟨hh.1, .inl hh.2⟩⟩
            simp only [this]
        have q2 : tab l.length (Rk tk l m b (fs.take p)) = tab l.length (Rk tk l m b (fs.take (p + 1))) := qlz fun j hj => by
          unfold Rk
          simp only [qix h]
          by_cases e : j = fs.getD p 0
          · have : rgt tk l m b j = 0 := by unfold rgt; rw [e, hz]; omega
            rw [this]; simp
          · simp only [e, or_false]
        rw [← q1, ← q2] at IH
        simp (disch := omega) only [dT, nI, nl, Bool.and_true, Int.toNat_natCast, ng, eF, ql1, qc6, qmn, ql3, qdj, qax, nth0, ql9, dF, IH, qdh, big0]
    · rw [List.take_of_length_le (by omega)]
      simp (disch := omega) only [dF, dT, nI, Bool.and_false, Int.toNat_natCast, qc6, qmn, qdh, Bool.and_true, big0, qdj]
      rw [hm]
def gk (A B : Nat → Int) (k j : Nat) : Int := 0 - (if j < k then A j + B j else 0) + (if 1 ≤ j ∧ j ≤ k then A (j - 1) else 0) + (if j + 1 < k then B (j + 1) else 0)
theorem qgd (L : Nat) (A B : Nat → Int) (i : Nat) : tab L (upd (gk A B i) i (A i) (B i)) = tab L (gk A B (i + 1)) := qlz fun j hj => by
  unfold upd
  by_cases g1 : 1 ≤ i ∧ j = i - 1
  · obtain ⟨g1, rfl⟩ := g1
    rw [if_pos ⟨g1, rfl⟩]
    unfold gk
    rw [if_pos (show i - 1 < i by omega), if_neg (show ¬ (i - 1 + 1 < i) by omega), if_pos (show i - 1 < i + 1 by omega), if_pos (show i - 1 + 1 < i + 1 by omega), show i - 1 + 1 = i by omega]
    have e2 : (1 ≤ i - 1 ∧ i - 1 ≤ i) = (1 ≤ i - 1 ∧ i - 1 ≤ i + 1) := by rw [eq_iff_iff]; omega
    simp only [e2]; omega
  · rw [if_neg g1]
    by_cases g2 : j = i + 1
    · subst g2
      rw [if_pos rfl]
      unfold gk
      rw [if_neg (show ¬ (i + 1 < i) by omega), if_neg (show ¬ (1 ≤ i + 1 ∧ i + 1 ≤ i) by omega), if_neg (show ¬ (i + 1 + 1 < i) by omega), if_neg (show ¬ (i + 1 < i + 1) by omega), if_pos (show 1 ≤ i + 1 ∧ i + 1 ≤ i + 1 by omega), if_neg (show ¬ (i + 1 + 1 < i + 1) by omega), Nat.add_sub_cancel]; omega
    · rw [if_neg g2]
      by_cases g3 : j = i
      · subst g3
        rw [if_pos rfl]
        unfold gk
        rw [if_neg (show ¬ (j < j) by omega), if_neg (show ¬ (j + 1 < j) by omega), if_pos (show j < j + 1 by omega), if_neg (show ¬ (j + 1 < j + 1) by omega)]
        have e2 : (1 ≤ j ∧ j ≤ j) = (1 ≤ j ∧ j ≤ j + 1) := by rw [eq_iff_iff]; omega
        simp only [e2]; omega
      · rw [if_neg g3]
        unfold gk
        have e1 : (j < i) = (j < i + 1) := by rw [eq_iff_iff]; omega
        have e2 : (1 ≤ j ∧ j ≤ i) = (1 ≤ j ∧ j ≤ i + 1) := by rw [eq_iff_iff]; omega
        have e3 : (j + 1 < i) = (j + 1 < i + 1) := by rw [eq_iff_iff]; omega
        simp only [e1, e2, e3]
theorem qgc {A B : Nat → Int} {C : Int} (hA : ∀ j, -C ≤ A j ∧ A j ≤ C) (hB : ∀ j, -C ≤ B j ∧ B j ≤ C) (k j : Nat) : -(4 * C) ≤ gk A B k j ∧ gk A B k j ≤ 4 * C := by
  have a := hA j; have b := hB j; have c := hA (j - 1); have d := hB (j + 1)
  unfold gk
  split <;> split <;> split <;> omega
theorem qge (L : Nat) (A B : Nat → Int) : List.replicate L (0 : Int) = tab L (gk A B 0) := by
  rw [ql4]
  refine qlz fun j hj => ?_
  unfold gk
  rw [if_neg (by omega), if_neg (by omega), if_neg (by omega)]; rfl
def sh (G : Nat → Int) (i u : Nat) (x : Int) (j : Nat) : Int := if j = u then G u + x else if j = i then G i - x else G j
theorem qbz (k : Nat) (hk : 2000000 ≤ k) (L : Nat) (G H : Nat → Int) (i u : Nat) (x y : Int) (z z' : Bool) (hi : i < L) (hu : u < L) (hiu : i ≠ u) (hx : 0 < x) (hL : (L : Int) ≤ 1000) (hx2 : x ≤ 1000000000000000000) (hy : -1000000000000000000 ≤ y ∧ y ≤ 1000000000000000000)
    (g1 : -1000000000000000000 ≤ G i ∧ G i ≤ 1000000000000000000) (g2 : -1000000000000000000 ≤ G u ∧ G u ≤ 1000000000000000000) (g3 : -1000000000000000000 ≤ H i ∧ H i ≤ 1000000000000000000) (g4 : -1000000000000000000 ≤ H u ∧ H u ≤ 1000000000000000000) :
    go (k + 1) impl_State_move_1 [.int .i64 (i : Int), .int .i64 (u : Int), .int .i64 x, .int .i64 y, .ptr true [.arr true z (.ints .i64 (tab L G))], .ptr true [.arr true z' (.ints .i64 (tab L H))]] = some [.ptr true [.arr true z (.ints .i64 (tab L (sh G i u x)))], .ptr true [.arr true z' (.ints .i64 (tab L (sh H i u y)))]] := by
  rw [qd9]
  simp (disch := omega) only [dT, nI, ql1, Bool.and_true, Int.toNat_natCast, ql0, qmn, ql3, if_neg, qdj]
  rfl
theorem qb0 (k : Nat) (hk : 2000000 ≤ k) (a b x y : Int) (z z' : Bool) (l l' : List Int) (hx : x = 0) :
    go (k + 1) impl_State_move_1 [.int .i64 a, .int .i64 b, .int .i64 x, .int .i64 y, .ptr true [.arr true z (.ints .i64 l)], .ptr true [.arr true z' (.ints .i64 l')]] = some [.ptr true [.arr true z (.ints .i64 l)], .ptr true [.arr true z' (.ints .i64 l')]] := by
  rw [qd9]
  simp (disch := omega) only [dF, nI, List.length_set, qdh]
theorem qlc {G : Nat → Int} {i : Nat} {A B : Int} (g : 1 ≤ i) : sh (sh G i (i + 1) A) i (i - 1) B = upd G i A B := by
  funext j
  unfold sh upd
  by_cases q1 : j = i - 1
  · subst q1; simp (disch := omega) only [if_neg, if_pos, itT, and_true]
  · by_cases q2 : j = i + 1
    · subst q2; simp (disch := omega) only [if_pos, if_neg, itT]
    · by_cases q3 : j = i
      · subst q3; simp (disch := omega) only [if_pos, if_neg, itT]
      · simp (disch := omega) only [if_neg]
theorem sh_r {G : Nat → Int} {i : Nat} {A B : Int} (hB : B = 0) : sh G i (i + 1) A = upd G i A B := by
  funext j
  unfold sh upd
  subst hB
  by_cases q1 : 1 ≤ i ∧ j = i - 1
  · obtain ⟨q0, rfl⟩ := q1; simp (disch := omega) only [if_neg, and_true, Int.add_zero, if_pos]
  · by_cases q2 : j = i + 1
    · subst q2; simp (disch := omega) only [if_neg, itT]
    · by_cases q3 : j = i
      · subst q3; simp (disch := omega) only [itT, if_neg, Int.sub_zero]
      · simp (disch := omega) only [if_neg]
theorem sh_l {G : Nat → Int} {i : Nat} {A B : Int} (g : 1 ≤ i) (hA : A = 0) : sh G i (i - 1) B = upd G i A B := by
  funext j
  unfold sh upd
  subst hA
  by_cases q1 : j = i - 1
  · subst q1; simp (disch := omega) only [if_neg, itT, and_true, if_pos]
  · by_cases q2 : j = i + 1
    · subst q2; simp (disch := omega) only [if_neg, Int.add_zero, itT]
    · by_cases q3 : j = i
      · subst q3; simp (disch := omega) only [itT, if_neg, Int.sub_zero]
      · simp (disch := omega) only [if_neg]
theorem sh_0 {G : Nat → Int} {i : Nat} {A B : Int} (hA : A = 0) (hB : B = 0) : G = upd G i A B := by
  funext j
  unfold upd
  subst hA hB
  by_cases q1 : 1 ≤ i ∧ j = i - 1
  · simp (disch := omega) only [Int.add_zero, if_pos]
  · by_cases q2 : j = i + 1
    · subst q2; simp (disch := omega) only [Int.add_zero, if_neg, itT]
    · by_cases q3 : j = i
      · subst q3; simp (disch := omega) only [Int.sub_zero, itT, if_neg]
      · simp (disch := omega) only [if_neg]
theorem rgtB {r : Int} {l : List Cell} {m t b : List Int} (F : StF r l m t b) (tk : Int) (j : Nat) : 0 ≤ rgt tk l m b j ∧ rgt tk l m b j ≤ 2500000 := by
  have f1 := qf4 F tk j; have a0 := F.at j
  unfold rgt; omega
theorem lftB {r : Int} {l : List Cell} {m t b : List Int} (F : StF r l m t b) (tk : Int) (j : Nat) : 0 ≤ lft tk l m b j ∧ lft tk l m b j ≤ 2500000 := by
  have f1 := qf4 F tk (j - 1); have a0 := F.at (j - 1 + 1)
  unfold lft
  split <;> omega
set_option maxHeartbeats 1000000 in
theorem qh8 (k : Nat) (hk : 2000000 ≤ k) (fu : List (Nat × Nat)) (a0 : Int) (a1z : Bool) (a1 : List Cell) (a2z : Bool) (a2 : List Int) (a3z : Bool) (a3 : List Int) (a4z : Bool) (a4 : List Int) (z1 z2 z3 z4 : Bool) (r : Int) (l : List Cell) (m t b : List Int) (tk : Int) (F : StF r l m t b) : ∀ (n i : Nat), i ≤ l.length → l.length - i < n →
    lp (k + 5) impl_State_move [(.ptr true [(.int .i64 (a0)), (.arr true (a1z) (.r3 (a1))), (.arr true (a2z) (.ints .i64 (a2))), (.arr true (a3z) (.ints .i64 (a3))), (.arr true (a4z) (.ints .i64 (a4)))])] fu 12 (n) (qkh (l.length : Int) (i : Int) z1 l z2 m z3 t z4 b r false (tab l.length (rgt tk l m b)) false (tab l.length (lft tk l m b)) false (tab l.length (gk (rgt tk l m b) (lft tk l m b) i)) false (tab l.length (gk (outA tk l m t b) (outB tk l m t b) i))) =
      lp (k + 5) impl_State_move [(.ptr true [(.int .i64 (a0)), (.arr true (a1z) (.r3 (a1))), (.arr true (a2z) (.ints .i64 (a2))), (.arr true (a3z) (.ints .i64 (a3))), (.arr true (a4z) (.ints .i64 (a4)))])] fu 19 (k + 5) (qki (l.length : Int) 0 z1 l z2 m z3 t z4 b r false (tab l.length (gk (rgt tk l m b) (lft tk l m b) l.length)) false (tab l.length (gk (outA tk l m t b) (outB tk l m t b) l.length)))
  | 0, i, hi, hn => by omega
  | n + 1, i, hi, hn => by
    have hl := F.len; have hm := F.ml; have ht := F.tl
    rw [qgx]
    by_cases h : i < l.length
    · have IH := qh8 k hk fu a0 a1z a1 a2z a2 a3z a3 a4z a4 z1 z2 z3 z4 r l m t b tk F n (i + 1) (by omega) (by omega)
      rw [← qgd l.length (rgt tk l m b) (lft tk l m b) i, ← qgd l.length (outA tk l m t b) (outB tk l m t b) i] at IH
      have B1 : ∀ p j, -10000000 ≤ gk (rgt tk l m b) (lft tk l m b) p j ∧ gk (rgt tk l m b) (lft tk l m b) p j ≤ 10000000 := fun p j => qgc (C := 2500000) (fun j => by have := rgtB F tk j; omega) (fun j => by have := lftB F tk j; omega) p j
      have B2 : ∀ p j, -400000000000000000 ≤ gk (outA tk l m t b) (outB tk l m t b) p j ∧ gk (outA tk l m t b) (outB tk l m t b) p j ≤ 400000000000000000 := fun p j => qgc (C := 100000000000000000) (fun j => by have := qjd tk l m t b j; omega) (fun j => qjf tk l m t b j) p j
      have r1 := rgtB F tk i; have r2 := lftB F tk i
      have A := qjd tk l m t b i; have B := qjf tk l m t b i
      have b1 := B1 i i; have b2 := B1 i (i + 1); have b3 := B1 i (i - 1); have c1 := B2 i i; have c2 := B2 i (i + 1); have c3 := B2 i (i - 1)
      have hA : loA (t.getD i 0) (m.getD i 0) (rgt tk l m b i) (lft tk l m b i) = outA tk l m t b i := rfl
      have hB : loB (t.getD i 0) (m.getD i 0) (rgt tk l m b i) (lft tk l m b i) = outB tk l m t b i := rfl
      have hi1 : 0 < rgt tk l m b i → i + 1 < l.length := fun g4 => by
        rcases Nat.lt_or_ge (i + 1) l.length with q | q
        · exact q
        · unfold rgt at g4; rw [qf3 q] at g4; omega
      have hi0 : 0 < lft tk l m b i → 1 ≤ i := fun g4 => by
        rcases Nat.lt_or_ge 0 i with q | q
        · exact q
        · unfold lft at g4; rw [if_neg (by omega)] at g4; omega
      have zA : rgt tk l m b i = 0 → outA tk l m t b i = 0 := qje
      have zB : lft tk l m b i = 0 → outB tk l m t b i = 0 := qjg
      by_cases g4 : 0 < rgt tk l m b i
      · have i1 := hi1 g4
        have s1 := qbz (k + 5 - 1) (by omega) l.length (gk (rgt tk l m b) (lft tk l m b) i) (gk (outA tk l m t b) (outB tk l m t b) i) i (i + 1) (rgt tk l m b i) (outA tk l m t b i) false false h i1 (by omega) g4 (by omega) (by omega) (by omega) (by omega) (by omega) (by omega) (by omega)
        rw [show k + 5 - 1 + 1 = k + 5 by omega] at s1
        by_cases g5 : 0 < lft tk l m b i
        · have i0 := hi0 g5
          have e1 : sh (gk (rgt tk l m b) (lft tk l m b) i) i (i + 1) (rgt tk l m b i) i = gk (rgt tk l m b) (lft tk l m b) i i - rgt tk l m b i := by unfold sh; rw [if_neg (by omega), if_pos rfl]
          have e2 : sh (gk (rgt tk l m b) (lft tk l m b) i) i (i + 1) (rgt tk l m b i) (i - 1) = gk (rgt tk l m b) (lft tk l m b) i (i - 1) := by unfold sh; rw [if_neg (by omega), if_neg (by omega)]
          have e3 : sh (gk (outA tk l m t b) (outB tk l m t b) i) i (i + 1) (outA tk l m t b i) i = gk (outA tk l m t b) (outB tk l m t b) i i - outA tk l m t b i := by unfold sh; rw [if_neg (by omega), if_pos rfl]
          have e4 : sh (gk (outA tk l m t b) (outB tk l m t b) i) i (i + 1) (outA tk l m t b i) (i - 1) = gk (outA tk l m t b) (outB tk l m t b) i (i - 1) := by unfold sh; rw [if_neg (by omega), if_neg (by omega)]
          have s2 := qbz (k + 5 - 1) (by omega) l.length (sh (gk (rgt tk l m b) (lft tk l m b) i) i (i + 1) (rgt tk l m b i)) (sh (gk (outA tk l m t b) (outB tk l m t b) i) i (i + 1) (outA tk l m t b i)) i (i - 1) (lft tk l m b i) (outB tk l m t b i) false false h (by omega) (by omega) g5 (by omega) (by omega) (by omega) (by omega) (by omega) (by omega) (by omega)
          rw [show k + 5 - 1 + 1 = k + 5 by omega] at s2
          rw [← qlc i0, ← qlc i0] at IH
          simp (disch := omega) only [dT, nI, Bool.and_true, ql1, Int.toNat_natCast, ql0, qa8, hA, hB, qc6, qmn, qc5, qdj, qax, nth0, ql9, s1, nth1, qjj, qja, qgi, s2]
          exact IH
        · have z0 : lft tk l m b i = 0 := by omega
          rw [← sh_r z0, ← sh_r (zB z0)] at IH
          simp (disch := omega) only [dT, nI, Bool.and_true, ql1, Int.toNat_natCast, ql0, qa8, hA, hB, qc6, qmn, qb0, qax, nth0, qjj, qja, qgi, nth1, qdj, ql9, s1]
          exact IH
      · have z1' : rgt tk l m b i = 0 := by omega
        by_cases g5 : 0 < lft tk l m b i
        · have i0 := hi0 g5
          have s2 := qbz (k + 5 - 1) (by omega) l.length (gk (rgt tk l m b) (lft tk l m b) i) (gk (outA tk l m t b) (outB tk l m t b) i) i (i - 1) (lft tk l m b i) (outB tk l m t b i) false false h (by omega) (by omega) g5 (by omega) (by omega) (by omega) (by omega) (by omega) (by omega) (by omega)
          rw [show k + 5 - 1 + 1 = k + 5 by omega] at s2
          rw [← sh_l i0 z1', ← sh_l i0 (zA z1')] at IH
          simp (disch := omega) only [dT, nI, Bool.and_true, ql1, Int.toNat_natCast, ql0, qa8, hA, hB, qc6, qmn, qb0, qc5, qdj, qax, nth0, qjj, qja, qgi, nth1, ql9, s2]
          exact IH
        · have z0 : lft tk l m b i = 0 := by omega
          rw [← sh_0 z1' z0, ← sh_0 (zA z1') (zB z0)] at IH
          simp (disch := omega) only [dT, nI, Bool.and_true, ql1, Int.toNat_natCast, ql0, qa8, hA, hB, qc6, qmn, qb0, qax, nth0, qjj, qja, qgi, nth1, qdj]
          exact IH
    · simp (disch := omega) only [dF, dT, nI, Bool.and_false, Bool.true_and, Int.toNat_natCast, qc6, qmn, qdh]
      rw [show i = l.length by omega, hm]
end Go.Proofs.Ytcaapedadpnjoaa
end
section
namespace Go.Proofs.Ytcaapedadpnjoaa
open Go.Ev
set_option maxRecDepth 20000
theorem qga (tk : Int) (l : List Cell) (m b : List Int) {j : Nat} (hj : j < l.length) : m.getD j 0 + gk (rgt tk l m b) (lft tk l m b) l.length j = stM tk l m b j := by
  have e1 : lft tk l m b (j + 1) = max 0 (0 - ff tk l m b j) := by unfold lft; rw [if_pos (by omega), Nat.add_sub_cancel]
  have e2 : rgt tk l m b j = max 0 (ff tk l m b j) := rfl
  have e3 : (if j + 1 < l.length then lft tk l m b (j + 1) else 0) = max 0 (0 - ff tk l m b j) := by
    by_cases g : j + 1 < l.length
    · rw [if_pos g, e1]
    · rw [if_neg g, qf3 (by omega)]; rfl
  unfold gk stM
  rw [if_pos hj, e3, e2]
  by_cases g : 1 ≤ j
  · have e4 : lft tk l m b j = max 0 (0 - ff tk l m b (j - 1)) := by unfold lft; rw [if_pos g]
    have e5 : rgt tk l m b (j - 1) = max 0 (ff tk l m b (j - 1)) := rfl
    rw [if_pos (by omega), if_pos g, e4, e5]; omega
  · have e4 : lft tk l m b j = 0 := by unfold lft; rw [if_neg g]
    rw [if_neg (by omega), if_neg g, e4]; omega
theorem qgb (tk : Int) (l : List Cell) (m t b : List Int) {j : Nat} (hj : j < l.length) : t.getD j 0 + gk (outA tk l m t b) (outB tk l m t b) l.length j = stT tk l m t b j := by
  have e3 : (if j + 1 < l.length then outB tk l m t b (j + 1) else 0) = outB tk l m t b (j + 1) := by
    by_cases g : j + 1 < l.length
    · rw [if_pos g]
    · rw [if_neg g, qjg]
      unfold lft
      rw [if_pos (by omega), Nat.add_sub_cancel, qf3 (by omega)]; rfl
  unfold gk stT
  rw [if_pos hj, e3]
  by_cases g : 1 ≤ j
  · rw [if_pos (by omega), if_pos g]; omega
  · rw [if_neg (by omega), if_neg g]; omega
theorem qh9 (k : Nat) (hk : 2000000 ≤ k) (fu : List (Nat × Nat)) (a0 : Int) (a1z : Bool) (a1 : List Cell) (a2z : Bool) (a2 : List Int) (a3z : Bool) (a3 : List Int) (a4z : Bool) (a4 : List Int) (z1 z2 z3 z4 : Bool) (r : Int) (l : List Cell) (m t b : List Int) (tk : Int) (F : StF r l m t b) : ∀ (n i : Nat), i ≤ l.length → l.length - i < n →
    lp (k + 5) impl_State_move [(.ptr true [(.int .i64 (a0)), (.arr true (a1z) (.r3 (a1))), (.arr true (a2z) (.ints .i64 (a2))), (.arr true (a3z) (.ints .i64 (a3))), (.arr true (a4z) (.ints .i64 (a4)))])] fu 19 (n) (qki (l.length : Int) (i : Int) z1 l z2 (tab l.length (fun j => if j < i then stM tk l m b j else m.getD j 0)) z3 (tab l.length (fun j => if j < i then stT tk l m t b j else t.getD j 0)) z4 b r false (tab l.length (gk (rgt tk l m b) (lft tk l m b) l.length)) false (tab l.length (gk (outA tk l m t b) (outB tk l m t b) l.length))) =
      some [.ptr true [.int .i64 (r), .arr true (z1) (.r3 (l)), .arr true (z2) (.ints .i64 (tab l.length (stM tk l m b))), .arr true (z3) (.ints .i64 (tab l.length (stT tk l m t b))), .arr true (z4) (.ints .i64 (b))]]
  | 0, i, hi, hn => by omega
  | n + 1, i, hi, hn => by
    have hl := F.len
    rw [qgy]
    by_cases h : i < l.length
    · have IH := qh9 k hk fu a0 a1z a1 a2z a2 a3z a3 a4z a4 z1 z2 z3 z4 r l m t b tk F n (i + 1) (by omega) (by omega)
      have q1 : tab l.length (fun j => if j = i then stM tk l m b i else if j < i then stM tk l m b j else m.getD j 0) = tab l.length (fun j => if j < i + 1 then stM tk l m b j else m.getD j 0) := qlz fun j hj => by
        by_cases e : j = i
        · subst e; rw [if_pos rfl, if_pos (by omega)]
        · rw [if_neg e]
          by_cases e2 : j < i
          · rw [if_pos e2, if_pos (by omega)]
          · rw [if_neg e2, if_neg (by omega)]
      have q2 : tab l.length (fun j => if j = i then stT tk l m t b i else if j < i then stT tk l m t b j else t.getD j 0) = tab l.length (fun j => if j < i + 1 then stT tk l m t b j else t.getD j 0) := qlz fun j hj => by
        by_cases e : j = i
        · subst e; rw [if_pos rfl, if_pos (by omega)]
        · rw [if_neg e]
          by_cases e2 : j < i
          · rw [if_pos e2, if_pos (by omega)]
          · rw [if_neg e2, if_neg (by omega)]
      rw [← q1, ← q2] at IH
      have B1 := qgc (A := rgt tk l m b) (B := lft tk l m b) (C := 2500000) (fun j => by have := rgtB F tk j; omega) (fun j => by have := lftB F tk j; omega) l.length i
      have B2 := qgc (A := outA tk l m t b) (B := outB tk l m t b) (C := 100000000000000000) (fun j => by have := qjd tk l m t b j; omega) (fun j => qjf tk l m t b j) l.length i
      have a := F.at i
      have v1 : (if i < i then stM tk l m b i else m.getD i 0) = m.getD i 0 := if_neg (by omega)
      have v2 : (if i < i then stT tk l m t b i else t.getD i 0) = t.getD i 0 := if_neg (by omega)
      have e1 := qga tk l m b h
      have e2 := qgb tk l m t b h
      simp (disch := omega) only [dT, nI, ql1, Bool.and_true, qc6, qmn, Int.toNat_natCast, ql0, v1, e1, ql3, v2, e2, qdj]
      exact IH
    · simp (disch := omega) only [dF, dT, nI, ql1, Bool.and_false, qc6, qmn, Int.toNat_natCast, qdh]
      have q1 : tab l.length (fun j => if j < i then stM tk l m b j else m.getD j 0) = tab l.length (stM tk l m b) := qlz fun j hj => by rw [if_pos (by omega)]
      have q2 : tab l.length (fun j => if j < i then stT tk l m t b j else t.getD j 0) = tab l.length (stT tk l m t b) := qlz fun j hj => by rw [if_pos (by omega)]
      rw [q1, q2]
theorem qaq {tk : Int} {l : List Cell} : (∀ i ∈ acts tk l, i + 1 < l.length ∧ qgj tk (qf2 l i) = true) ∧ (acts tk l).length ≤ l.length - 1 := by
  refine ⟨fun i hi => ?_, qao tk l _ _⟩
  unfold acts at hi
  rw [qap] at hi
  exact ⟨by omega, hi.2⟩
theorem qf5 {tk : Int} {l : List Cell} {m b : List Int} {i : Nat} (h : i ∉ acts tk l) : ff tk l m b i = 0 := by
  unfold acts at h
  rw [qap] at h
  unfold ff qam
  by_cases g : i + 1 < l.length
  · have : qgj tk (qf2 l i) = false := by
      rw [← Bool.not_eq_true]
      exact fun e => h ⟨⟨by omega, by omega⟩, e⟩
    rw [this]; simp
  · rw [dF g]; rfl
theorem qag (tk : Int) (l : List Cell) (m b : List Int) : tab l.length (Rk tk l m b (acts tk l)) = tab l.length (rgt tk l m b) := qlz fun j hj => by
  unfold Rk
  by_cases g : j ∈ acts tk l
  · rw [if_pos g]
  · rw [if_neg g]; unfold rgt; rw [qf5 g]; rfl
theorem qac (tk : Int) (l : List Cell) (m b : List Int) : tab l.length (Lk tk l m b (acts tk l)) = tab l.length (lft tk l m b) := qlz fun j hj => by
  unfold Lk
  by_cases g : 1 ≤ j ∧ j - 1 ∈ acts tk l
  · rw [if_pos g]
  · rw [if_neg g]; unfold lft
    by_cases g2 : 1 ≤ j
    · rw [if_pos g2, qf5 (fun e => g ⟨g2, e⟩)]; rfl
    · rw [if_neg g2]
theorem qah (tk : Int) (l : List Cell) (m b : List Int) : List.replicate l.length (0 : Int) = tab l.length (Rk tk l m b []) := by
  rw [ql4]
  exact qlz fun j hj => by unfold Rk; rw [if_neg (by simp)]
theorem qad (tk : Int) (l : List Cell) (m b : List Int) : List.replicate l.length (0 : Int) = tab l.length (Lk tk l m b []) := by
  rw [ql4]
  exact qlz fun j hj => by unfold Lk; rw [if_neg (by simp)]
theorem qbr (k : Nat) (hk : 2000000 ≤ k) (z1 z2 z3 z4 z5 : Bool) (r : Int) (l : List Cell) (m t b : List Int) (tk : Int) (F : StF r l m t b) :
    go (k + 6) impl_State_move [.ptr true [.int .i64 (r), .arr true (z1) (.r3 (l)), .arr true (z2) (.ints .i64 (m)), .arr true (z3) (.ints .i64 (t)), .arr true (z4) (.ints .i64 (b))], .arr false z5 (.ints .i64 (nats (acts tk l)))] = some [.ptr true [.int .i64 (r), .arr true (z1) (.r3 (l)), .arr true (z2) (.ints .i64 (tab l.length (stM tk l m b))), .arr true (z3) (.ints .i64 (tab l.length (stT tk l m t b))), .arr true (z4) (.ints .i64 (b))]] := by
  rw [qd8]
  have hl := F.len; have hm := F.ml; have ht := F.tl
  have ao := qaq (tk := tk) (l := l)
  have e1 := qia k hk [] r z1 l z2 m z3 t z4 b z1 z2 z3 z4 z5 r l m t b tk F (acts tk l) ao.1 (by omega) (k + 5) 0 (by omega) (by omega)
  have e2 := qh8 k hk [] r z1 l z2 m z3 t z4 b z1 z2 z3 z4 r l m t b tk F (k + 5) 0 (by omega) (by omega)
  have e3 := qh9 k hk [] r z1 l z2 m z3 t z4 b z1 z2 z3 z4 r l m t b tk F (k + 5) 0 (by omega) (by omega)
  rw [List.take_zero, ← qah, ← qad, qag, qac] at e1
  rw [← qge, ← qge] at e2
  have q1 : tab l.length (fun j => if j < 0 then stM tk l m b j else m.getD j 0) = m := by
    refine Eq.trans (qlz fun j hj => ?_) (hm ▸ (ql2 m).symm)
    rw [if_neg (by omega)]
  have q2 : tab l.length (fun j => if j < 0 then stT tk l m t b j else t.getD j 0) = t := by
    refine Eq.trans (qlz fun j hj => ?_) (ht ▸ (ql2 t).symm)
    rw [if_neg (by omega)]
  rw [q1, q2] at e3
  have nl := qi8 (acts tk l)
  simp (disch := omega) only [nI, hm, dT, Bool.and_true, big0, nl, Int.toNat_natCast, qdj]
  exact e1.trans (e2.trans e3)
theorem qbe (k : Nat) (hk : 2000000 ≤ k) (r : Int) (l : List Cell) (m t b : List Int) (tk : Int) (F : StF r l m t b) (h0 : 0 ≤ tk) :
    go (k + 9) impl_StepState [.agg [.int .i64 (r), .arr false (false) (.r3 (l)), .arr false (false) (.ints .i64 (m)), .arr false (false) (.ints .i64 (t)), .arr false (false) (.ints .i64 (b))], .int .i64 tk] = some [.agg [.int .i64 (r), .arr true (false) (.r3 (l)), .arr true (false) (.ints .i64 (tab l.length (stM tk l m b))), .arr true (false) (.ints .i64 (tab l.length (stT tk l m t b))), .arr true (false) (.ints .i64 (b))]] := by
  rw [qec]
  have hl := F.len; have hm := F.ml; have ht := F.tl; have hb := F.bl; have hr := F.rr
  have g := stF.2 F
  have e := qbr (k + 8 - 6) (by omega) false false false false false r l m t b tk F
  rw [show k + 8 - 6 + 6 = k + 8 by omega] at e
  simp (disch := omega) only [qbj, qbd, g, bit, dT, qbh, qax, nth0, qja, qgi, qdj, ql8, qc7, ql9, qc8, qjs, qc9, qda, qdb, e, qjj, qjk, qjl, qjm, qjn]
end Go.Proofs.Ytcaapedadpnjoaa
end
