/- What the program's functions compute, and plain facts of it (part 1). No condition beyond those that each theorem states. -/
import Derived.Test.YtoldpdhhfmlckaaGreatQC3
set_option linter.unusedVariables false
set_option linter.unusedSimpArgs false
section
namespace Go.Proofs.YtoldpdhhfmlckaaGreat
open Go.Ev
theorem qhd (d0 d1 d2 d3 d4 d5 d6 d7 d8 d9 : D) (l : List D) : (D.agg (d0 :: d1 :: d2 :: d3 :: d4 :: d5 :: d6 :: d7 :: d8 :: d9 :: l)).cell 9 = d9 := Eq.trans rfl rfl
theorem qgv (d0 d1 d2 d3 d4 d5 d6 d7 d8 d9 d10 : D) (l : List D) : (D.agg (d0 :: d1 :: d2 :: d3 :: d4 :: d5 :: d6 :: d7 :: d8 :: d9 :: d10 :: l)).cell 10 = d10 := Eq.trans rfl rfl
theorem qgw (d0 d1 d2 d3 d4 d5 d6 d7 d8 d9 d10 d11 : D) (l : List D) : (D.agg (d0 :: d1 :: d2 :: d3 :: d4 :: d5 :: d6 :: d7 :: d8 :: d9 :: d10 :: d11 :: l)).cell 11 = d11 := Eq.trans rfl rfl
theorem qgx (d0 d1 d2 d3 d4 d5 d6 d7 d8 d9 d10 d11 d12 : D) (l : List D) : (D.agg (d0 :: d1 :: d2 :: d3 :: d4 :: d5 :: d6 :: d7 :: d8 :: d9 :: d10 :: d11 :: d12 :: l)).cell 12 = d12 := Eq.trans rfl rfl
theorem qgy (d0 d1 d2 d3 d4 d5 d6 d7 d8 d9 d10 d11 d12 d13 : D) (l : List D) : (D.agg (d0 :: d1 :: d2 :: d3 :: d4 :: d5 :: d6 :: d7 :: d8 :: d9 :: d10 :: d11 :: d12 :: d13 :: l)).cell 13 = d13 := Eq.trans rfl rfl
theorem qgz (d0 d1 d2 d3 d4 d5 d6 d7 d8 d9 d10 d11 d12 d13 d14 : D) (l : List D) : (D.agg (d0 :: d1 :: d2 :: d3 :: d4 :: d5 :: d6 :: d7 :: d8 :: d9 :: d10 :: d11 :: d12 :: d13 :: d14 :: l)).cell 14 = d14 := Eq.trans rfl rfl
theorem qg0 (d0 d1 d2 d3 d4 d5 d6 d7 d8 d9 d10 d11 d12 d13 d14 d15 : D) (l : List D) : (D.agg (d0 :: d1 :: d2 :: d3 :: d4 :: d5 :: d6 :: d7 :: d8 :: d9 :: d10 :: d11 :: d12 :: d13 :: d14 :: d15 :: l)).cell 15 = d15 := Eq.trans rfl rfl
theorem qg1 (d0 d1 d2 d3 d4 d5 d6 d7 d8 d9 d10 d11 d12 d13 d14 d15 d16 : D) (l : List D) : (D.agg (d0 :: d1 :: d2 :: d3 :: d4 :: d5 :: d6 :: d7 :: d8 :: d9 :: d10 :: d11 :: d12 :: d13 :: d14 :: d15 :: d16 :: l)).cell 16 = d16 := Eq.trans rfl rfl
theorem qg2 (d0 d1 d2 d3 d4 d5 d6 d7 d8 d9 d10 d11 d12 d13 d14 d15 d16 d17 : D) (l : List D) : (D.agg (d0 :: d1 :: d2 :: d3 :: d4 :: d5 :: d6 :: d7 :: d8 :: d9 :: d10 :: d11 :: d12 :: d13 :: d14 :: d15 :: d16 :: d17 :: l)).cell 17 = d17 := Eq.trans rfl rfl
theorem qg3 (d0 d1 d2 d3 d4 d5 d6 d7 d8 d9 d10 d11 d12 d13 d14 d15 d16 d17 d18 : D) (l : List D) : (D.agg (d0 :: d1 :: d2 :: d3 :: d4 :: d5 :: d6 :: d7 :: d8 :: d9 :: d10 :: d11 :: d12 :: d13 :: d14 :: d15 :: d16 :: d17 :: d18 :: l)).cell 18 = d18 := Eq.trans rfl rfl
theorem qg4 (d0 d1 d2 d3 d4 d5 d6 d7 d8 d9 d10 d11 d12 d13 d14 d15 d16 d17 d18 d19 : D) (l : List D) : (D.agg (d0 :: d1 :: d2 :: d3 :: d4 :: d5 :: d6 :: d7 :: d8 :: d9 :: d10 :: d11 :: d12 :: d13 :: d14 :: d15 :: d16 :: d17 :: d18 :: d19 :: l)).cell 19 = d19 := Eq.trans rfl rfl
theorem qg6 (d0 d1 d2 d3 d4 d5 d6 d7 d8 d9 d10 d11 d12 d13 d14 d15 d16 d17 d18 d19 d20 : D) (l : List D) : (D.agg (d0 :: d1 :: d2 :: d3 :: d4 :: d5 :: d6 :: d7 :: d8 :: d9 :: d10 :: d11 :: d12 :: d13 :: d14 :: d15 :: d16 :: d17 :: d18 :: d19 :: d20 :: l)).cell 20 = d20 := Eq.trans rfl rfl
end Go.Proofs.YtoldpdhhfmlckaaGreat
end
section
namespace Go.Proofs.YtoldpdhhfmlckaaGreat
open Go.Ev
theorem qi6 (k : Nat) (a0 : Int) (a1z : Bool) (a1 : List (Int × Int × Int)) (b0 : Int) (b1z : Bool) (b1 : List (Int × Int × Int)) : go (k + 1) impl_SameMesh [(.agg [(.int .i64 (a0)), (.arr false (a1z) (.r3 (a1)))]), (.agg [(.int .i64 (b0)), (.arr false (b1z) (.r3 (b1)))])] =
 cond (decide (a0 = b0))
 ((go k slices_Equal_impl_Id_impl_Id [(.arr false (a1z) (.r3 (a1))), (.arr false (b1z) (.r3 (b1)))]).bind fun r0 =>
 some [(.bool (bit (nth r0 0)))])
 (some [(.bool (false))]) := by kernel_rfl
def qwy (x0 x1 : Int) (z2 : Bool) (l3 : List (Int × Int × Int)) (z4 : Bool) (l5 : List (Int × Int × Int)) : St := ⟨fill 26 [(0, (.sl 0 none)), (1, (.sl 1 none)), (12, (.int .i64 (x0))), (13, (.int .i64 (x1)))], [], [(.arr false (z2) (.r3 (l3))), (.arr false (z4) (.r3 (l5)))]⟩
theorem qlv (k : Nat) (az : Bool) (a : List (Int × Int × Int)) (bz : Bool) (b : List (Int × Int × Int)) : go (k + 1) slices_Equal_impl_Id_impl_Id [(.arr false (az) (.r3 (a))), (.arr false (bz) (.r3 (b)))] =
 cond (!decide (nI (List.length a) = nI (List.length b)))
 (some [(.bool (false))])
 (lp k slices_Equal_impl_Id_impl_Id [] [] 4 k (qwy (nI (List.length a)) (0 : Int) az a bz b)) := by kernel_rfl
theorem qp6 (k n : Nat) (fu : List (Nat × Nat)) (x0 x1 : Int) (z2 : Bool) (l3 : List (Int × Int × Int)) (z4 : Bool) (l5 : List (Int × Int × Int)) : lp k slices_Equal_impl_Id_impl_Id [] fu 4 (n + 1) (qwy x0 x1 z2 l3 z4 l5) =
 cond (decide (x1 < x0))
 (cond (decide ((0 : Int) ≤ x1) && decide (x1 < nI (List.length l3)))
 (cond (decide ((0 : Int) ≤ x1) && decide (x1 < nI (List.length l5)))
 (cond (!(decide (Prod.fst (List.getD l3 (Int.toNat x1) zz3) = Prod.fst (List.getD l5 (Int.toNat x1) zz3)) && (decide (Prod.fst (Prod.snd (List.getD l3 (Int.toNat x1) zz3)) = Prod.fst (Prod.snd (List.getD l5 (Int.toNat x1) zz3))) && (decide (Prod.snd (Prod.snd (List.getD l3 (Int.toNat x1) zz3)) = Prod.snd (Prod.snd (List.getD l5 (Int.toNat x1) zz3))) && true))))
 (some [(.bool (false))])
 (lp k slices_Equal_impl_Id_impl_Id [] fu 4 n (qwy x0 (IntKind.wrap .i64 (x1 + (1 : Int))) z2 l3 z4 l5)))
 (none))
 (none))
 (some [(.bool (true))]) := by kernel_rfl
def qxd (x0 : Int) (z1 : Bool) (l2 : List (Int × Int × Int)) (x3 : Int) (z4 : Bool) (l5 : List (Int × Int × Int)) (x6 : Int) : St := ⟨fill 38 [(2, (.ptr 1 (0) (0))), (3, (.ptr 3 (0) (0))), (5, (.int .i64 (x0)))], [], [(.arr false (z1) (.r3 (l2))), (.box true [(.int .i64 (x3)), (.sl 0 none)]), (.arr false (z4) (.r3 (l5))), (.box true [(.int .i64 (x6)), (.sl 2 none)])]⟩
theorem qmm (k : Nat) (a0 : Int) (a1z : Bool) (a1 : List (Int × Int × Int)) (b0 : Int) (b1z : Bool) (b1 : List (Int × Int × Int)) : go (k + 1) spec_SameMesh [(.agg [(.int .i64 (a0)), (.arr false (a1z) (.r3 (a1)))]), (.agg [(.int .i64 (b0)), (.arr false (b1z) (.r3 (b1)))])] =
 cond (!decide (a0 = b0))
 (some [(.bool (false))])
 (cond (!decide (nI (List.length a1) = nI (List.length b1)))
 (some [(.bool (false))])
 (lp k spec_SameMesh [] [] 4 k (qxd (0 : Int) a1z a1 a0 b1z b1 b0))) := by kernel_rfl
theorem qql (k n : Nat) (fu : List (Nat × Nat)) (x0 : Int) (z1 : Bool) (l2 : List (Int × Int × Int)) (x3 : Int) (z4 : Bool) (l5 : List (Int × Int × Int)) (x6 : Int) : lp k spec_SameMesh [] fu 4 (n + 1) (qxd x0 z1 l2 x3 z4 l5 x6) =
 cond (decide (x0 < nI (List.length l2)))
 (cond (decide ((0 : Int) ≤ x0) && decide (x0 < nI (List.length l2)))
 (cond (decide ((0 : Int) ≤ x0) && decide (x0 < nI (List.length l5)))
 (cond (!(decide (Prod.fst (List.getD l2 (Int.toNat x0) zz3) = Prod.fst (List.getD l5 (Int.toNat x0) zz3)) && (decide (Prod.fst (Prod.snd (List.getD l2 (Int.toNat x0) zz3)) = Prod.fst (Prod.snd (List.getD l5 (Int.toNat x0) zz3))) && (decide (Prod.snd (Prod.snd (List.getD l2 (Int.toNat x0) zz3)) = Prod.snd (Prod.snd (List.getD l5 (Int.toNat x0) zz3))) && true))))
 (some [(.bool (false))])
 (lp k spec_SameMesh [] fu 4 n (qxd (IntKind.wrap .i64 (x0 + (1 : Int))) z1 l2 x3 z4 l5 x6)))
 (none))
 (none))
 (some [(.bool (true))]) := by kernel_rfl

end Go.Proofs.YtoldpdhhfmlckaaGreat
end
section
namespace Go.Proofs.YtoldpdhhfmlckaaGreat
open Go.Ev
def qwz (x0 x1 : Int) (z2 : Bool) (l3 : List Int) (z4 : Bool) (l5 : List Int) : St := ⟨fill 26 [(0, (.sl 0 none)), (1, (.sl 1 none)), (12, (.int .i64 (x0))), (13, (.int .i64 (x1)))], [], [(.arr false (z2) (.ints .i64 (l3))), (.arr false (z4) (.ints .i64 (l5)))]⟩
theorem qlw (k : Nat) (az : Bool) (a : List Int) (bz : Bool) (b : List Int) : go (k + 1) slices_Equal_int_int [(.arr false (az) (.ints .i64 (a))), (.arr false (bz) (.ints .i64 (b)))] =
 cond (!decide (nI (List.length a) = nI (List.length b)))
 (some [(.bool (false))])
 (lp k slices_Equal_int_int [] [] 4 k (qwz (nI (List.length a)) (0 : Int) az a bz b)) := by kernel_rfl
theorem qp7 (k n : Nat) (fu : List (Nat × Nat)) (x0 x1 : Int) (z2 : Bool) (l3 : List Int) (z4 : Bool) (l5 : List Int) : lp k slices_Equal_int_int [] fu 4 (n + 1) (qwz x0 x1 z2 l3 z4 l5) =
 cond (decide (x1 < x0))
 (cond (decide ((0 : Int) ≤ x1) && decide (x1 < nI (List.length l3)))
 (cond (decide ((0 : Int) ≤ x1) && decide (x1 < nI (List.length l5)))
 (cond (!decide (List.getD l3 (Int.toNat x1) (0 : Int) = List.getD l5 (Int.toNat x1) (0 : Int)))
 (some [(.bool (false))])
 (lp k slices_Equal_int_int [] fu 4 n (qwz x0 (IntKind.wrap .i64 (x1 + (1 : Int))) z2 l3 z4 l5)))
 (none))
 (none))
 (some [(.bool (true))]) := by kernel_rfl
def qxt (x0 : Int) (z1 : Bool) (l2 : List Int) (z3 : Bool) (l4 : List Int) : St := ⟨fill 26 [(0, (.sl 0 none)), (1, (.sl 1 none)), (5, (.int .i64 (x0)))], [], [(.arr false (z1) (.ints .i64 (l2))), (.arr false (z3) (.ints .i64 (l4)))]⟩
theorem qnn (k : Nat) (az : Bool) (a : List Int) (bz : Bool) (b : List Int) : go (k + 1) spec_l24Same [(.arr false (az) (.ints .i64 (a))), (.arr false (bz) (.ints .i64 (b)))] =
 cond (!decide (nI (List.length a) = nI (List.length b)))
 (some [(.bool (false))])
 (lp k spec_l24Same [] [] 4 k (qxt (0 : Int) az a bz b)) := by kernel_rfl
theorem qq1 (k n : Nat) (fu : List (Nat × Nat)) (x0 : Int) (z1 : Bool) (l2 : List Int) (z3 : Bool) (l4 : List Int) : lp k spec_l24Same [] fu 4 (n + 1) (qxt x0 z1 l2 z3 l4) =
 cond (decide (x0 < nI (List.length l2)))
 (cond (decide ((0 : Int) ≤ x0) && decide (x0 < nI (List.length l2)))
 (cond (decide ((0 : Int) ≤ x0) && decide (x0 < nI (List.length l4)))
 (cond (!decide (List.getD l2 (Int.toNat x0) (0 : Int) = List.getD l4 (Int.toNat x0) (0 : Int)))
 (some [(.bool (false))])
 (lp k spec_l24Same [] fu 4 n (qxt (IntKind.wrap .i64 (x0 + (1 : Int))) z1 l2 z3 l4)))
 (none))
 (none))
 (some [(.bool (true))]) := by kernel_rfl

end Go.Proofs.YtoldpdhhfmlckaaGreat
end
section
namespace Go.Proofs.YtoldpdhhfmlckaaGreat
open Go.Ev
theorem qln (k : Nat) (a0 a1 a2 a3 : Int) : go (k + 1) laws_toLedger [(.agg [(.int .i64 (a0)), (.int .i64 (a1)), (.int .i64 (a2)), (.int .i64 (a3))])] =
 some [(.agg [(.int .i64 (a0)), (.int .i64 (a1)), (.int .i64 (a2)), (.int .i64 (a3))])] := by kernel_rfl
theorem qlr (k : Nat) (a0 : Int) (a1z : Bool) (a1 : List (Int × Int × Int)) (a2z : Bool) (a2 : List Int) (a3z : Bool) (a3 : List Int) (a4z : Bool) (a4 : List Int) (a5 a6 a7 a8 a9 a10 a11 a12 a13 a14 a15 a16 a17 a18 a19 a20 : Int) : go (k + 1) laws_toWorld [(.agg [(.int .i64 (a0)), (.arr false (a1z) (.r3 (a1))), (.arr false (a2z) (.ints .i64 (a2))), (.arr false (a3z) (.ints .i64 (a3))), (.arr false (a4z) (.ints .i64 (a4))), (.int .i64 (a5)), (.int .i64 (a6)), (.int .i64 (a7)), (.int .i64 (a8)), (.int .i64 (a9)), (.int .i64 (a10)), (.int .i64 (a11)), (.int .i64 (a12)), (.int .i64 (a13)), (.int .i64 (a14)), (.int .i64 (a15)), (.int .i64 (a16)), (.int .i64 (a17)), (.int .i64 (a18)), (.int .i64 (a19)), (.int .i64 (a20))])] =
 (go k laws_toState [(.agg [(.int .i64 (a0)), (.arr false (a1z) (.r3 (a1))), (.arr false (a2z) (.ints .i64 (a2))), (.arr false (a3z) (.ints .i64 (a3))), (.arr false (a4z) (.ints .i64 (a4)))])]).bind fun r0 =>
 (go k laws_toPlan [(.agg [(.int .i64 (a5)), (.int .i64 (a6)), (.int .i64 (a7)), (.int .i64 (a8)), (.int .i64 (a9)), (.int .i64 (a10)), (.int .i64 (a11)), (.int .i64 (a12)), (.int .i64 (a13))])]).bind fun r1 =>
 (go k laws_toLedger [(.agg [(.int .i64 (a15)), (.int .i64 (a16)), (.int .i64 (a17)), (.int .i64 (a18))])]).bind fun r2 =>
 some [(.agg [(.int .i64 (D.toInt (D.cell 0 (nth r0 0)))), (.arr true (D.nil (D.cell 1 (nth r0 0))) (.r3 (D.r3 (D.cell 1 (nth r0 0))))), (.arr true (D.nil (D.cell 2 (nth r0 0))) (.ints .i64 (D.ints (D.cell 2 (nth r0 0))))), (.arr true (D.nil (D.cell 3 (nth r0 0))) (.ints .i64 (D.ints (D.cell 3 (nth r0 0))))), (.arr true (D.nil (D.cell 4 (nth r0 0))) (.ints .i64 (D.ints (D.cell 4 (nth r0 0))))), (.int .i64 (D.toInt (D.cell 0 (nth r1 0)))), (.int .i64 (D.toInt (D.cell 1 (nth r1 0)))), (.int .i64 (D.toInt (D.cell 2 (nth r1 0)))), (.int .i64 (D.toInt (D.cell 3 (nth r1 0)))), (.int .i64 (D.toInt (D.cell 4 (nth r1 0)))), (.int .i64 (D.toInt (D.cell 5 (nth r1 0)))), (.int .i64 (D.toInt (D.cell 6 (nth r1 0)))), (.int .i64 (D.toInt (D.cell 7 (nth r1 0)))), (.int .i64 (D.toInt (D.cell 8 (nth r1 0)))), (.int .i64 (a14)), (.int .i64 (D.toInt (D.cell 0 (nth r2 0)))), (.int .i64 (D.toInt (D.cell 1 (nth r2 0)))), (.int .i64 (D.toInt (D.cell 2 (nth r2 0)))), (.int .i64 (D.toInt (D.cell 3 (nth r2 0)))), (.int .i64 (a19)), (.int .i64 (a20))])] := by kernel_rfl
theorem qlg (k : Nat) (a0 : Int) (a1z : Bool) (a1 : List (Int × Int × Int)) (a2z : Bool) (a2 : List Int) (a3z : Bool) (a3 : List Int) (a4z : Bool) (a4 : List Int) (a5 a6 a7 a8 a9 a10 a11 a12 a13 a14 a15 a16 a17 a18 a19 a20 b : Int) : go (k + 1) laws_szWorld [(.agg [(.int .i64 (a0)), (.arr false (a1z) (.r3 (a1))), (.arr false (a2z) (.ints .i64 (a2))), (.arr false (a3z) (.ints .i64 (a3))), (.arr false (a4z) (.ints .i64 (a4))), (.int .i64 (a5)), (.int .i64 (a6)), (.int .i64 (a7)), (.int .i64 (a8)), (.int .i64 (a9)), (.int .i64 (a10)), (.int .i64 (a11)), (.int .i64 (a12)), (.int .i64 (a13)), (.int .i64 (a14)), (.int .i64 (a15)), (.int .i64 (a16)), (.int .i64 (a17)), (.int .i64 (a18)), (.int .i64 (a19)), (.int .i64 (a20))]), (.int .i64 (b))] =
 (go k laws_szState [(.agg [(.int .i64 (a0)), (.arr false (a1z) (.r3 (a1))), (.arr false (a2z) (.ints .i64 (a2))), (.arr false (a3z) (.ints .i64 (a3))), (.arr false (a4z) (.ints .i64 (a4)))]), (.int .i64 (b))]).bind fun r0 =>
 cond (decide (D.toInt (nth r0 0) < (0 : Int)))
 (some [(.int .i64 ((-1 : Int)))])
 (some [(.int .i64 (D.toInt (nth r0 0)))]) := by kernel_rfl
theorem qkr (k : Nat) (a0 a1 a2 b0 b1 b2 : Int) : go (k + 1) laws_eqBorder [(.agg [(.int .i64 (a0)), (.int .i64 (a1)), (.int .i64 (a2))]), (.agg [(.int .i64 (b0)), (.int .i64 (b1)), (.int .i64 (b2))])] =
 cond (!decide (a0 = b0))
 (some [(.bool (false))])
 (cond (!decide (a1 = b1))
 (some [(.bool (false))])
 (cond (!decide (a2 = b2))
 (some [(.bool (false))])
 (some [(.bool (true))]))) := by kernel_rfl
theorem qkx (k : Nat) (a0 a1 a2 a3 a4 a5 a6 a7 a8 b0 b1 b2 b3 b4 b5 b6 b7 b8 : Int) : go (k + 1) laws_eqPlan [(.agg [(.int .i64 (a0)), (.int .i64 (a1)), (.int .i64 (a2)), (.int .i64 (a3)), (.int .i64 (a4)), (.int .i64 (a5)), (.int .i64 (a6)), (.int .i64 (a7)), (.int .i64 (a8))]), (.agg [(.int .i64 (b0)), (.int .i64 (b1)), (.int .i64 (b2)), (.int .i64 (b3)), (.int .i64 (b4)), (.int .i64 (b5)), (.int .i64 (b6)), (.int .i64 (b7)), (.int .i64 (b8))])] =
 (go k laws_eqBorder [(.agg [(.int .i64 (a0)), (.int .i64 (a1)), (.int .i64 (a2))]), (.agg [(.int .i64 (b0)), (.int .i64 (b1)), (.int .i64 (b2))])]).bind fun r0 =>
 cond (!bit (nth r0 0))
 (some [(.bool (false))])
 (cond (!decide (a3 = b3))
 (some [(.bool (false))])
 (cond (!decide (a4 = b4))
 (some [(.bool (false))])
 (cond (!decide (a5 = b5))
 (some [(.bool (false))])
 (cond (!decide (a6 = b6))
 (some [(.bool (false))])
 (cond (!decide (a7 = b7))
 (some [(.bool (false))])
 (cond (!decide (a8 = b8))
 (some [(.bool (false))])
 (some [(.bool (true))]))))))) := by kernel_rfl
theorem qkv (k : Nat) (a0 a1 a2 a3 b0 b1 b2 b3 : Int) : go (k + 1) laws_eqLedger [(.agg [(.int .i64 (a0)), (.int .i64 (a1)), (.int .i64 (a2)), (.int .i64 (a3))]), (.agg [(.int .i64 (b0)), (.int .i64 (b1)), (.int .i64 (b2)), (.int .i64 (b3))])] =
 cond (!decide (a0 = b0))
 (some [(.bool (false))])
 (cond (!decide (a1 = b1))
 (some [(.bool (false))])
 (cond (!decide (a2 = b2))
 (some [(.bool (false))])
 (cond (!decide (a3 = b3))
 (some [(.bool (false))])
 (some [(.bool (true))])))) := by kernel_rfl
theorem qkz (k : Nat) (a0 : Int) (a1z : Bool) (a1 : List (Int × Int × Int)) (a2z : Bool) (a2 : List Int) (a3z : Bool) (a3 : List Int) (a4z : Bool) (a4 : List Int) (a5 a6 a7 a8 a9 a10 a11 a12 a13 a14 a15 a16 a17 a18 a19 a20 b0 : Int) (b1z : Bool) (b1 : List (Int × Int × Int)) (b2z : Bool) (b2 : List Int) (b3z : Bool) (b3 : List Int) (b4z : Bool) (b4 : List Int) (b5 b6 b7 b8 b9 b10 b11 b12 b13 b14 b15 b16 b17 b18 b19 b20 : Int) : go (k + 1) laws_eqWorld [(.agg [(.int .i64 (a0)), (.arr false (a1z) (.r3 (a1))), (.arr false (a2z) (.ints .i64 (a2))), (.arr false (a3z) (.ints .i64 (a3))), (.arr false (a4z) (.ints .i64 (a4))), (.int .i64 (a5)), (.int .i64 (a6)), (.int .i64 (a7)), (.int .i64 (a8)), (.int .i64 (a9)), (.int .i64 (a10)), (.int .i64 (a11)), (.int .i64 (a12)), (.int .i64 (a13)), (.int .i64 (a14)), (.int .i64 (a15)), (.int .i64 (a16)), (.int .i64 (a17)), (.int .i64 (a18)), (.int .i64 (a19)), (.int .i64 (a20))]), (.agg [(.int .i64 (b0)), (.arr false (b1z) (.r3 (b1))), (.arr false (b2z) (.ints .i64 (b2))), (.arr false (b3z) (.ints .i64 (b3))), (.arr false (b4z) (.ints .i64 (b4))), (.int .i64 (b5)), (.int .i64 (b6)), (.int .i64 (b7)), (.int .i64 (b8)), (.int .i64 (b9)), (.int .i64 (b10)), (.int .i64 (b11)), (.int .i64 (b12)), (.int .i64 (b13)), (.int .i64 (b14)), (.int .i64 (b15)), (.int .i64 (b16)), (.int .i64 (b17)), (.int .i64 (b18)), (.int .i64 (b19)), (.int .i64 (b20))])] =
 (go k laws_eqState [(.agg [(.int .i64 (a0)), (.arr false (a1z) (.r3 (a1))), (.arr false (a2z) (.ints .i64 (a2))), (.arr false (a3z) (.ints .i64 (a3))), (.arr false (a4z) (.ints .i64 (a4)))]), (.agg [(.int .i64 (b0)), (.arr false (b1z) (.r3 (b1))), (.arr false (b2z) (.ints .i64 (b2))), (.arr false (b3z) (.ints .i64 (b3))), (.arr false (b4z) (.ints .i64 (b4)))])]).bind fun r0 =>
 cond (!bit (nth r0 0))
 (some [(.bool (false))])
 ((go k laws_eqPlan [(.agg [(.int .i64 (a5)), (.int .i64 (a6)), (.int .i64 (a7)), (.int .i64 (a8)), (.int .i64 (a9)), (.int .i64 (a10)), (.int .i64 (a11)), (.int .i64 (a12)), (.int .i64 (a13))]), (.agg [(.int .i64 (b5)), (.int .i64 (b6)), (.int .i64 (b7)), (.int .i64 (b8)), (.int .i64 (b9)), (.int .i64 (b10)), (.int .i64 (b11)), (.int .i64 (b12)), (.int .i64 (b13))])]).bind fun r1 =>
 cond (!bit (nth r1 0))
 (some [(.bool (false))])
 (cond (!decide (a14 = b14))
 (some [(.bool (false))])
 ((go k laws_eqLedger [(.agg [(.int .i64 (a15)), (.int .i64 (a16)), (.int .i64 (a17)), (.int .i64 (a18))]), (.agg [(.int .i64 (b15)), (.int .i64 (b16)), (.int .i64 (b17)), (.int .i64 (b18))])]).bind fun r2 =>
 cond (!bit (nth r2 0))
 (some [(.bool (false))])
 (cond (!decide (a19 = b19))
 (some [(.bool (false))])
 (cond (!decide (a20 = b20))
 (some [(.bool (false))])
 (some [(.bool (true))])))))) := by kernel_rfl
end Go.Proofs.YtoldpdhhfmlckaaGreat
end
section
namespace Go.Proofs.YtoldpdhhfmlckaaGreat
open Go.Ev
theorem qej (k : Nat) (hk : 2000000 ≤ k) (a0 : Int) (a1 : Int) (a2 : Int) (a3 : Int) : go (k + 1) laws_toLedger [(.agg [(.int .i64 (a0)), (.int .i64 (a1)), (.int .i64 (a2)), (.int .i64 (a3))])] = some [.agg [.int .i64 a0, .int .i64 a1, .int .i64 a2, .int .i64 a3]] := by
  rw [qln]
theorem qdn (k : Nat) (hk : 2000000 ≤ k) (a0 : Int) (a1 : Int) (a2 : Int) : go (k + 1) laws_eqBorder [.agg [.int .i64 a0, .int .i64 a1, .int .i64 a2], .agg [.int .i64 a0, .int .i64 a1, .int .i64 a2]] = some [.bool true] := by
  rw [qkr]
  simp (disch := omega) only [dTT, Bool.not_true, qhl]
theorem qdr (k : Nat) (hk : 2000000 ≤ k) (a0 : Int) (a1 : Int) (a2 : Int) (a3 : Int) : go (k + 1) laws_eqLedger [.agg [.int .i64 a0, .int .i64 a1, .int .i64 a2, .int .i64 a3], .agg [.int .i64 a0, .int .i64 a1, .int .i64 a2, .int .i64 a3]] = some [.bool true] := by
  rw [qkv]
  simp (disch := omega) only [dTT, Bool.not_true, qhl]
theorem qdt (k : Nat) (hk : 2000000 ≤ k) (a0 : Int) (a1 : Int) (a2 : Int) (a3 : Int) (a4 : Int) (a5 : Int) (a6 : Int) (a7 : Int) (a8 : Int) : go (k + 2) laws_eqPlan [.agg [.int .i64 a0, .int .i64 a1, .int .i64 a2, .int .i64 a3, .int .i64 a4, .int .i64 a5, .int .i64 a6, .int .i64 a7, .int .i64 a8], .agg [.int .i64 a0, .int .i64 a1, .int .i64 a2, .int .i64 a3, .int .i64 a4, .int .i64 a5, .int .i64 a6, .int .i64 a7, .int .i64 a8]] = some [.bool true] := by
  rw [qkx]
  simp (disch := omega) only [qdn, bit, dTT, Bool.not_true, qhl, qa2, nth0, qzn]
theorem qen (k : Nat) (hk : 2000000 ≤ k) (a0 : Int) (a1z : Bool) (a1 : List (Int × Int × Int)) (a2z : Bool) (a2 : List Int) (a3z : Bool) (a3 : List Int) (a4z : Bool) (a4 : List Int) (a5 : Int) (a6 : Int) (a7 : Int) (a8 : Int) (a9 : Int) (a10 : Int) (a11 : Int) (a12 : Int) (a13 : Int) (a14 : Int) (a15 : Int) (a16 : Int) (a17 : Int) (a18 : Int) (a19 : Int) (a20 : Int) (h1 : (a1.length : Int) ≤ 1048576) (h2 : (a2.length : Int) ≤ 1048576) (h3 : (a3.length : Int) ≤ 1048576) (h4 : (a4.length : Int) ≤ 1048576) : go (k + 5) laws_toWorld [(.agg [(.int .i64 (a0)), (.arr false (a1z) (.r3 (a1))), (.arr false (a2z) (.ints .i64 (a2))), (.arr false (a3z) (.ints .i64 (a3))), (.arr false (a4z) (.ints .i64 (a4))), (.int .i64 (a5)), (.int .i64 (a6)), (.int .i64 (a7)), (.int .i64 (a8)), (.int .i64 (a9)), (.int .i64 (a10)), (.int .i64 (a11)), (.int .i64 (a12)), (.int .i64 (a13)), (.int .i64 (a14)), (.int .i64 (a15)), (.int .i64 (a16)), (.int .i64 (a17)), (.int .i64 (a18)), (.int .i64 (a19)), (.int .i64 (a20))])] = some [.agg [.int .i64 a0, .arr true false (.r3 a1), .arr true false (.ints .i64 a2), .arr true false (.ints .i64 a3), .arr true false (.ints .i64 a4), .int .i64 a5, .int .i64 a6, .int .i64 a7, .int .i64 a8, .int .i64 a9, .int .i64 a10, .int .i64 a11, .int .i64 a12, .int .i64 a13, .int .i64 a14, .int .i64 a15, .int .i64 a16, .int .i64 a17, .int .i64 a18, .int .i64 a19, .int .i64 a20]] := by
  rw [qlr]
  simp (disch := omega) only [qem, qel, qej, qa2, nth0, qgt, qzo, qgu, qg5, qg7, qg8, qg9, qha, qhb, qhc, qt9, quz, qoq]
theorem qec (k : Nat) (hk : 2000000 ≤ k) (a0 : Int) (a1z : Bool) (a1 : List (Int × Int × Int)) (a2z : Bool) (a2 : List Int) (a3z : Bool) (a3 : List Int) (a4z : Bool) (a4 : List Int) (a5 : Int) (a6 : Int) (a7 : Int) (a8 : Int) (a9 : Int) (a10 : Int) (a11 : Int) (a12 : Int) (a13 : Int) (a14 : Int) (a15 : Int) (a16 : Int) (a17 : Int) (a18 : Int) (a19 : Int) (a20 : Int) (b : Int) (h1 : (a1.length : Int) ≤ 9223372036854775807) (h2 : (a2.length : Int) ≤ 9223372036854775807) (h3 : (a3.length : Int) ≤ 9223372036854775807) (h4 : (a4.length : Int) ≤ 9223372036854775807) (hb : 0 ≤ b) (hb' : b ≤ 1048576) :
    go (k + 4) laws_szWorld [(.agg [(.int .i64 (a0)), (.arr false (a1z) (.r3 (a1))), (.arr false (a2z) (.ints .i64 (a2))), (.arr false (a3z) (.ints .i64 (a3))), (.arr false (a4z) (.ints .i64 (a4))), (.int .i64 (a5)), (.int .i64 (a6)), (.int .i64 (a7)), (.int .i64 (a8)), (.int .i64 (a9)), (.int .i64 (a10)), (.int .i64 (a11)), (.int .i64 (a12)), (.int .i64 (a13)), (.int .i64 (a14)), (.int .i64 (a15)), (.int .i64 (a16)), (.int .i64 (a17)), (.int .i64 (a18)), (.int .i64 (a19)), (.int .i64 (a20))]), (.int .i64 (b))] = some [.int .i64 (if (a1.length : Int) + a2.length + a3.length + a4.length ≤ b then b - a1.length - a2.length - a3.length - a4.length else -1)] := by
  rw [qlg]
  by_cases g : (a1.length : Int) + a2.length + a3.length + a4.length ≤ b
  · rw [if_pos g]; simp (disch := omega) only [qeb, if_pos g, qa2, nth0, qzo, dF, qhl]
  · rw [if_neg g]; simp (disch := omega) only [qeb, if_neg g, qa2, nth0, qzo, dT, qhn]
theorem qdv (k : Nat) (hk : 2000000 ≤ k) (a0 : Int) (z1 z2 z3 z4 y1 y2 y3 y4 : Bool) (a1 : List Cell) (a2 a3 a4 : List Int) (a5 : Int) (a6 : Int) (a7 : Int) (a8 : Int) (a9 : Int) (a10 : Int) (a11 : Int) (a12 : Int) (a13 : Int) (a14 : Int) (a15 : Int) (a16 : Int) (a17 : Int) (a18 : Int) (a19 : Int) (a20 : Int) (h1 : (a1.length : Int) ≤ 1048576) (h2 : (a2.length : Int) ≤ 1048576) (h3 : (a3.length : Int) ≤ 1048576) (h4 : (a4.length : Int) ≤ 1048576) :
    go (k + 5) laws_eqWorld [.agg [.int .i64 a0, .arr false z1 (.r3 a1), .arr false z2 (.ints .i64 a2), .arr false z3 (.ints .i64 a3), .arr false z4 (.ints .i64 a4), .int .i64 a5, .int .i64 a6, .int .i64 a7, .int .i64 a8, .int .i64 a9, .int .i64 a10, .int .i64 a11, .int .i64 a12, .int .i64 a13, .int .i64 a14, .int .i64 a15, .int .i64 a16, .int .i64 a17, .int .i64 a18, .int .i64 a19, .int .i64 a20], .agg [.int .i64 a0, .arr false y1 (.r3 a1), .arr false y2 (.ints .i64 a2), .arr false y3 (.ints .i64 a3), .arr false y4 (.ints .i64 a4), .int .i64 a5, .int .i64 a6, .int .i64 a7, .int .i64 a8, .int .i64 a9, .int .i64 a10, .int .i64 a11, .int .i64 a12, .int .i64 a13, .int .i64 a14, .int .i64 a15, .int .i64 a16, .int .i64 a17, .int .i64 a18, .int .i64 a19, .int .i64 a20]] = some [.bool true] := by
  rw [qkz]
  simp (disch := omega) only [qdu, bit, qdt, dTT, Bool.not_true, qdr, qhl, qa2, nth0, qzn]
end Go.Proofs.YtoldpdhhfmlckaaGreat
end
section
namespace Go.Proofs.YtoldpdhhfmlckaaGreat
open Go.Ev
theorem qnp (k : Nat) (a : Int) : go (k + 1) spec_l36Amount [(.int .i64 (a))] =
 (go k spec_l01In [(.int .i64 (a)), (.int .i64 (0 : Int)), (.int .i64 ((1000000000000000 : Int)))]).bind fun r0 =>
 some [(.bool (bit (nth r0 0)))] := by kernel_rfl
theorem qkd (k : Nat) (a0 a1 a2 a3 : Int) : go (k + 1) impl_ledgerOk [(.agg [(.int .i64 (a0)), (.int .i64 (a1)), (.int .i64 (a2)), (.int .i64 (a3))])] =
 (go k impl_within [(.int .i64 (a0)), (.int .i64 (0 : Int)), (.int .i64 ((1000000000000000 : Int)))]).bind fun r0 =>
 cond (bit (nth r0 0))
 ((go k impl_within [(.int .i64 (a1)), (.int .i64 (0 : Int)), (.int .i64 ((1000000000000000 : Int)))]).bind fun r1 =>
 cond (bit (nth r1 0))
 ((go k impl_within [(.int .i64 (a2)), (.int .i64 (0 : Int)), (.int .i64 ((1000000000000000 : Int)))]).bind fun r2 =>
 cond (bit (nth r2 0))
 ((go k impl_within [(.int .i64 (a3)), (.int .i64 (0 : Int)), (.int .i64 ((1000000000000000 : Int)))]).bind fun r3 =>
 some [(.bool (bit (nth r3 0)))])
 (some [(.bool (false))]))
 (some [(.bool (false))]))
 (some [(.bool (false))]) := by kernel_rfl
end Go.Proofs.YtoldpdhhfmlckaaGreat
end
section
namespace Go.Proofs.YtoldpdhhfmlckaaGreat
open Go.Ev
theorem qmt (k : Nat) (a0 : Int) (a1z : Bool) (a1 : List (Int × Int × Int)) (a2z : Bool) (a2 : List Int) (a3z : Bool) (a3 : List Int) (a4z : Bool) (a4 : List Int) (a5 a6 a7 a8 a9 a10 a11 a12 a13 a14 a15 a16 a17 a18 a19 a20 : Int) : go (k + 1) spec_WorldOk [(.agg [(.int .i64 (a0)), (.arr false (a1z) (.r3 (a1))), (.arr false (a2z) (.ints .i64 (a2))), (.arr false (a3z) (.ints .i64 (a3))), (.arr false (a4z) (.ints .i64 (a4))), (.int .i64 (a5)), (.int .i64 (a6)), (.int .i64 (a7)), (.int .i64 (a8)), (.int .i64 (a9)), (.int .i64 (a10)), (.int .i64 (a11)), (.int .i64 (a12)), (.int .i64 (a13)), (.int .i64 (a14)), (.int .i64 (a15)), (.int .i64 (a16)), (.int .i64 (a17)), (.int .i64 (a18)), (.int .i64 (a19)), (.int .i64 (a20))])] =
 (go k spec_StateOk [(.agg [(.int .i64 (a0)), (.arr false (a1z) (.r3 (a1))), (.arr false (a2z) (.ints .i64 (a2))), (.arr false (a3z) (.ints .i64 (a3))), (.arr false (a4z) (.ints .i64 (a4)))])]).bind fun r0 =>
 cond (!bit (nth r0 0))
 (some [(.bool (false))])
 ((go k spec_PlanOk [(.agg [(.int .i64 (a5)), (.int .i64 (a6)), (.int .i64 (a7)), (.int .i64 (a8)), (.int .i64 (a9)), (.int .i64 (a10)), (.int .i64 (a11)), (.int .i64 (a12)), (.int .i64 (a13))])]).bind fun r1 =>
 cond (!bit (nth r1 0))
 (some [(.bool (false))])
 ((go k spec_l01In [(.int .i64 (a14)), (.int .i64 (0 : Int)), (.int .i64 ((100000 : Int)))]).bind fun r2 =>
 cond (!bit (nth r2 0))
 (some [(.bool (false))])
 ((go k spec_l36Amount [(.int .i64 (a15))]).bind fun r3 =>
 cond (!bit (nth r3 0))
 (some [(.bool (false))])
 ((go k spec_l36Amount [(.int .i64 (a16))]).bind fun r4 =>
 cond (!bit (nth r4 0))
 (some [(.bool (false))])
 ((go k spec_l36Amount [(.int .i64 (a17))]).bind fun r5 =>
 cond (!bit (nth r5 0))
 (some [(.bool (false))])
 ((go k spec_l36Amount [(.int .i64 (a18))]).bind fun r6 =>
 cond (!bit (nth r6 0))
 (some [(.bool (false))])
 ((go k spec_l07Sum [(.arr false (a2z) (.ints .i64 (a2)))]).bind fun r7 =>
 cond (decide (IntKind.wrap .i64 (IntKind.wrap .i64 (D.toInt (nth r7 0) - a15) + a16) = a19))
 ((go k spec_l07Sum [(.arr false (a3z) (.ints .i64 (a3)))]).bind fun r8 =>
 some [(.bool (decide (IntKind.wrap .i64 (IntKind.wrap .i64 (D.toInt (nth r8 0) - a17) + a18) = a20)))])
 (some [(.bool (false))])))))))) := by kernel_rfl
theorem qj0 (k : Nat) (a0 : Int) (a1z : Bool) (a1 : List (Int × Int × Int)) (a2z : Bool) (a2 : List Int) (a3z : Bool) (a3 : List Int) (a4z : Bool) (a4 : List Int) (a5 a6 a7 a8 a9 a10 a11 a12 a13 a14 a15 a16 a17 a18 a19 a20 : Int) : go (k + 1) impl_WorldOk [(.agg [(.int .i64 (a0)), (.arr false (a1z) (.r3 (a1))), (.arr false (a2z) (.ints .i64 (a2))), (.arr false (a3z) (.ints .i64 (a3))), (.arr false (a4z) (.ints .i64 (a4))), (.int .i64 (a5)), (.int .i64 (a6)), (.int .i64 (a7)), (.int .i64 (a8)), (.int .i64 (a9)), (.int .i64 (a10)), (.int .i64 (a11)), (.int .i64 (a12)), (.int .i64 (a13)), (.int .i64 (a14)), (.int .i64 (a15)), (.int .i64 (a16)), (.int .i64 (a17)), (.int .i64 (a18)), (.int .i64 (a19)), (.int .i64 (a20))])] =
 (go k impl_StateOk [(.agg [(.int .i64 (a0)), (.arr false (a1z) (.r3 (a1))), (.arr false (a2z) (.ints .i64 (a2))), (.arr false (a3z) (.ints .i64 (a3))), (.arr false (a4z) (.ints .i64 (a4)))])]).bind fun r0 =>
 cond (bit (nth r0 0))
 ((go k impl_PlanOk [(.agg [(.int .i64 (a5)), (.int .i64 (a6)), (.int .i64 (a7)), (.int .i64 (a8)), (.int .i64 (a9)), (.int .i64 (a10)), (.int .i64 (a11)), (.int .i64 (a12)), (.int .i64 (a13))])]).bind fun r1 =>
 cond (bit (nth r1 0))
 ((go k impl_within [(.int .i64 (a14)), (.int .i64 (0 : Int)), (.int .i64 ((100000 : Int)))]).bind fun r2 =>
 cond (bit (nth r2 0))
 ((go k impl_ledgerOk [(.agg [(.int .i64 (a15)), (.int .i64 (a16)), (.int .i64 (a17)), (.int .i64 (a18))])]).bind fun r3 =>
 cond (bit (nth r3 0))
 ((go k impl_sum [(.arr false (a2z) (.ints .i64 (a2)))]).bind fun r4 =>
 cond (decide (a19 = IntKind.wrap .i64 (IntKind.wrap .i64 (D.toInt (nth r4 0) - a15) + a16)))
 ((go k impl_sum [(.arr false (a3z) (.ints .i64 (a3)))]).bind fun r5 =>
 some [(.bool (decide (a20 = IntKind.wrap .i64 (IntKind.wrap .i64 (D.toInt (nth r5 0) - a17) + a18))))])
 (some [(.bool (false))]))
 (some [(.bool (false))]))
 (some [(.bool (false))]))
 (some [(.bool (false))]))
 (some [(.bool (false))]) := by kernel_rfl

end Go.Proofs.YtoldpdhhfmlckaaGreat
end
section
namespace Go.Proofs.YtoldpdhhfmlckaaGreat
open Go.Ev
def qq6 (a b c d : Int) : Bool := inR a 0 1000000000000000 && (inR b 0 1000000000000000 && (inR c 0 1000000000000000 && inR d 0 1000000000000000))
theorem qgj (k : Nat) (hk : 2000000 ≤ k) (a : Int) : go (k + 2) spec_l36Amount [(.int .i64 (a))] = some [.bool (inR a 0 1000000000000000)] := by
  rw [qnp]
  simp (disch := omega) only [qfu, bit, qa2, nth0, qzn]
theorem qc2 (k : Nat) (hk : 2000000 ≤ k) (a0 : Int) (a1 : Int) (a2 : Int) (a3 : Int) : go (k + 2) impl_ledgerOk [(.agg [(.int .i64 (a0)), (.int .i64 (a1)), (.int .i64 (a2)), (.int .i64 (a3))])] = some [.bool (qq6 a0 a1 a2 a3)] := by
  rw [qkd]
  simp (disch := omega) only [qdk, bit, qa2, nth0, qzn, qhp]
  rfl
def q0d (a0 : Int) (a1 : List Cell) (a2 a3 a4 : List Int) (b0 b1 b2 b3 b4 b5 b6 b7 b8 s c0 c1 c2 c3 f g : Int) : Bool :=
  stOk a0 a1 a2 a3 a4 && (quu b0 b1 b2 b3 b4 b5 b6 b7 b8 && (inR s 0 100000 && (qq6 c0 c1 c2 c3 && (decide (isum a2 - c0 + c1 = f) && decide (isum a3 - c2 + c3 = g)))))
theorem qon {a m : Int} (h : inR a 0 m = true) : 0 ≤ a ∧ a ≤ m := by
  simp only [inR, Bool.and_eq_true, decide_eq_true_eq] at h
  omega
theorem qhz (a b : Int) : decide (a = b) = decide (b = a) := decide_eq_decide.2 eq_comm
theorem qfq (k : Nat) (hk : 2000000 ≤ k) (a0 : Int) (a1z : Bool) (a1 : List (Int × Int × Int)) (a2z : Bool) (a2 : List Int) (a3z : Bool) (a3 : List Int) (a4z : Bool) (a4 : List Int) (a5 : Int) (a6 : Int) (a7 : Int) (a8 : Int) (a9 : Int) (a10 : Int) (a11 : Int) (a12 : Int) (a13 : Int) (a14 : Int) (a15 : Int) (a16 : Int) (a17 : Int) (a18 : Int) (a19 : Int) (a20 : Int) (h1 : (a1.length : Int) ≤ 1048576) (h4 : (a4.length : Int) ≤ 1048576) :
    go (k + 8) spec_WorldOk [(.agg [(.int .i64 (a0)), (.arr false (a1z) (.r3 (a1))), (.arr false (a2z) (.ints .i64 (a2))), (.arr false (a3z) (.ints .i64 (a3))), (.arr false (a4z) (.ints .i64 (a4))), (.int .i64 (a5)), (.int .i64 (a6)), (.int .i64 (a7)), (.int .i64 (a8)), (.int .i64 (a9)), (.int .i64 (a10)), (.int .i64 (a11)), (.int .i64 (a12)), (.int .i64 (a13)), (.int .i64 (a14)), (.int .i64 (a15)), (.int .i64 (a16)), (.int .i64 (a17)), (.int .i64 (a18)), (.int .i64 (a19)), (.int .i64 (a20))])] = some [.bool (q0d a0 a1 a2 a3 a4 a5 a6 a7 a8 a9 a10 a11 a12 a13 a14 a15 a16 a17 a18 a19 a20)] := by
  rw [qmt]
  simp (disch := omega) only [qfn, bit, qfg, qfu, qgj, qa2, nth0, qzn]
  simp only [q0d, qq6]
  cases g : stOk a0 a1 a2 a3 a4
  · rfl
  cases g2 : quu a5 a6 a7 a8 a9 a10 a11 a12 a13
  · rfl
  cases g3 : inR a14 0 100000
  · rfl
  cases g4 : inR a15 0 1000000000000000
  · rfl
  cases g5 : inR a16 0 1000000000000000
  · rfl
  cases g6 : inR a17 0 1000000000000000
  · rfl
  cases g7 : inR a18 0 1000000000000000
  · rfl
  have F := stF.1 g
  have := F.len; have := F.ml; have := F.tl; have := F.bl; have := F.rr
  have b4 := qon g4; have b5 := qon g5; have b6 := qon g6; have b7 := qon g7
  have s1 := qow _ F.mmem; have s2 := qow _ F.tmem
  simp only [Bool.not_true, qhl, Bool.true_and]
  rw [qf4 _ (by omega) _ _ (by omega) F.mmem, qf4 _ (by omega) _ _ (by omega) F.tmem]
  simp (disch := omega) only [qa2, nth0, qzo, q0f, qhp]
theorem qcd (k : Nat) (hk : 2000000 ≤ k) (a0 : Int) (a1z : Bool) (a1 : List (Int × Int × Int)) (a2z : Bool) (a2 : List Int) (a3z : Bool) (a3 : List Int) (a4z : Bool) (a4 : List Int) (a5 : Int) (a6 : Int) (a7 : Int) (a8 : Int) (a9 : Int) (a10 : Int) (a11 : Int) (a12 : Int) (a13 : Int) (a14 : Int) (a15 : Int) (a16 : Int) (a17 : Int) (a18 : Int) (a19 : Int) (a20 : Int) (h1 : (a1.length : Int) ≤ 1048576) (h4 : (a4.length : Int) ≤ 1048576) :
    go (k + 9) impl_WorldOk [(.agg [(.int .i64 (a0)), (.arr false (a1z) (.r3 (a1))), (.arr false (a2z) (.ints .i64 (a2))), (.arr false (a3z) (.ints .i64 (a3))), (.arr false (a4z) (.ints .i64 (a4))), (.int .i64 (a5)), (.int .i64 (a6)), (.int .i64 (a7)), (.int .i64 (a8)), (.int .i64 (a9)), (.int .i64 (a10)), (.int .i64 (a11)), (.int .i64 (a12)), (.int .i64 (a13)), (.int .i64 (a14)), (.int .i64 (a15)), (.int .i64 (a16)), (.int .i64 (a17)), (.int .i64 (a18)), (.int .i64 (a19)), (.int .i64 (a20))])] = some [.bool (q0d a0 a1 a2 a3 a4 a5 a6 a7 a8 a9 a10 a11 a12 a13 a14 a15 a16 a17 a18 a19 a20)] := by
  rw [qj0]
  simp (disch := omega) only [qb8, bit, qb0, qdk, qc2, qa2, nth0, qzn]
  simp only [q0d]
  cases g : stOk a0 a1 a2 a3 a4
  · rfl
  cases g2 : quu a5 a6 a7 a8 a9 a10 a11 a12 a13
  · rfl
  cases g3 : inR a14 0 100000
  · rfl
  cases g4 : qq6 a15 a16 a17 a18
  · rfl
  have F := stF.1 g
  have := F.len; have := F.ml; have := F.tl; have := F.bl; have := F.rr
  have g4' := g4
  simp only [qq6, Bool.and_eq_true] at g4'
  obtain ⟨i1, i2, i3, i4⟩ := g4'
  have b4 := qon i1; have b5 := qon i2; have b6 := qon i3; have b7 := qon i4
  have s1 := qow _ F.mmem; have s2 := qow _ F.tmem
  simp only [qhn, Bool.true_and]
  rw [qdg _ (by omega) _ _ (by omega) F.mmem, qdg _ (by omega) _ _ (by omega) F.tmem]
  simp (disch := omega) only [qa2, nth0, qzo, q0f, qhp]
  rw [qhz a19, qhz a20]
end Go.Proofs.YtoldpdhhfmlckaaGreat
end
section
namespace Go.Proofs.YtoldpdhhfmlckaaGreat
open Go.Ev
theorem qh3 {α : Type} {l l' : List α} {i : Nat} (h : i < l.length) (h' : i < l'.length) (d : α) : l.drop i = l'.drop i ↔ l.getD i d = l'.getD i d ∧ l.drop (i + 1) = l'.drop (i + 1) := by
  rw [qh2 h d, qh2 h' d]; simp
theorem qsm (k : Nat) (hk : 2000000 ≤ k) (fu : List (Nat × Nat)) (z z' : Bool) (l l' : List Int) (hl : (l.length : Int) ≤ 1048576) (he : l'.length = l.length) : ∀ (n i : Nat), i ≤ l.length → l.length - i < n →
    lp k slices_Equal_int_int [] fu 4 (n) (qwz (l.length : Int) (i : Int) z l z' l') = some [.bool (decide (l.drop i = l'.drop i))]
  | 0, i, hi, hn => by omega
  | n + 1, i, hi, hn => by
    rw [qp7]
    by_cases h : i < l.length
    · have e := qsm k hk fu z z' l l' hl he n (i + 1) (by omega) (by omega)
      by_cases g : l.getD i 0 = l'.getD i 0
      · simp (disch := omega) only [dT, nI, Bool.and_true, Int.toNat_natCast, Bool.not_true, qgr, q0f, e, qhl, qhn]
        exact congrArg (fun b => some [D.bool b]) (by simp only [qh3 h (by omega : i < l'.length) 0, g, true_and])
      · simp (disch := omega) only [dT, nI, Bool.and_true, Int.toNat_natCast, dF, Bool.not_false, qgr, q0f, e, qhn]
        exact congrArg (fun b => some [D.bool b]) (by rw [dF]; rw [qh3 h (by omega : i < l'.length) 0]; exact fun hh => g hh.1)
    · simp (disch := omega) only [dF, dT, nI, Bool.and_false, Int.toNat_natCast, qgr, q0f, qhl]
      rw [List.drop_of_length_le (by omega), List.drop_of_length_le (by omega)]; rfl
theorem qq7 {α : Type} {l l' : List α} (h : ¬ l.length = l'.length) : ¬ l = l' := fun e => h (by rw [e])
theorem qet (k : Nat) (hk : 2000000 ≤ k) (az : Bool) (a : List Int) (bz : Bool) (b : List Int) (hl : (a.length : Int) ≤ 1048576) : go (k + 1) slices_Equal_int_int [(.arr false (az) (.ints .i64 (a))), (.arr false (bz) (.ints .i64 (b)))] = some [.bool (decide (a = b))] := by
  rw [qlw]
  by_cases h : a.length = b.length
  · simp (disch := omega) only [nI, dT, Bool.not_true, qhl]
    have e := qsm k hk [] az bz a b hl (by omega) (k + 0) 0 (by omega) (by omega)
    simp only [List.drop_zero] at e; exact e
  · simp (disch := omega) only [nI, dF, Bool.not_false, qhn]
    rw [dF (qq7 h)]
theorem qs6 (k : Nat) (hk : 2000000 ≤ k) (fu : List (Nat × Nat)) (z z' : Bool) (l l' : List Int) (hl : (l.length : Int) ≤ 1048576) (he : l'.length = l.length) : ∀ (n i : Nat), i ≤ l.length → l.length - i < n →
    lp k spec_l24Same [] fu 4 (n) (qxt (i : Int) z l z' l') = some [.bool (decide (l.drop i = l'.drop i))]
  | 0, i, hi, hn => by omega
  | n + 1, i, hi, hn => by
    rw [qq1]
    by_cases h : i < l.length
    · have e := qs6 k hk fu z z' l l' hl he n (i + 1) (by omega) (by omega)
      by_cases g : l.getD i 0 = l'.getD i 0
      · simp (disch := omega) only [nI, dT, Bool.and_true, Int.toNat_natCast, Bool.not_true, qgr, q0f, e, qhl, qhn]
        exact congrArg (fun b => some [D.bool b]) (by simp only [qh3 h (by omega : i < l'.length) 0, g, true_and])
      · simp (disch := omega) only [nI, dT, Bool.and_true, Int.toNat_natCast, dF, Bool.not_false, qgr, q0f, e, qhn]
        exact congrArg (fun b => some [D.bool b]) (by rw [dF]; rw [qh3 h (by omega : i < l'.length) 0]; exact fun hh => g hh.1)
    · simp (disch := omega) only [nI, dF, dT, Bool.and_false, Int.toNat_natCast, qgr, q0f, qhl]
      rw [List.drop_of_length_le (by omega), List.drop_of_length_le (by omega)]; rfl
theorem qgh (k : Nat) (hk : 2000000 ≤ k) (az : Bool) (a : List Int) (bz : Bool) (b : List Int) (hl : (a.length : Int) ≤ 1048576) : go (k + 1) spec_l24Same [(.arr false (az) (.ints .i64 (a))), (.arr false (bz) (.ints .i64 (b)))] = some [.bool (decide (a = b))] := by
  rw [qnn]
  by_cases h : a.length = b.length
  · simp (disch := omega) only [nI, dT, Bool.not_true, qhl]
    have e := qs6 k hk [] az bz a b hl (by omega) (k + 0) 0 (by omega) (by omega)
    simp only [List.drop_zero] at e; exact e
  · simp (disch := omega) only [nI, dF, Bool.not_false, qhn]
    rw [dF (qq7 h)]
theorem qhe (x y : Cell) : (decide (x.1 = y.1) && (decide (x.2.1 = y.2.1) && decide (x.2.2 = y.2.2))) = decide (x = y) := by
  obtain ⟨a, b, c⟩ := x; obtain ⟨a', b', c'⟩ := y
  rw [Bool.eq_iff_iff]; simp
theorem qsl (k : Nat) (hk : 2000000 ≤ k) (fu : List (Nat × Nat)) (z z' : Bool) (l l' : List Cell) (hl : (l.length : Int) ≤ 1048576) (he : l'.length = l.length) : ∀ (n i : Nat), i ≤ l.length → l.length - i < n →
    lp k slices_Equal_impl_Id_impl_Id [] fu 4 (n) (qwy (l.length : Int) (i : Int) z l z' l') = some [.bool (decide (l.drop i = l'.drop i))]
  | 0, i, hi, hn => by omega
  | n + 1, i, hi, hn => by
    rw [qp6]
    by_cases h : i < l.length
    · have e := qsl k hk fu z z' l l' hl he n (i + 1) (by omega) (by omega)
      by_cases g : l.getD i zz3 = l'.getD i zz3
      · simp (disch := omega) only [dT, nI, Bool.and_true, Int.toNat_natCast, g, dTT, Bool.not_true, qgr, q0f, e, qhl, qhn]
        exact congrArg (fun b => some [D.bool b]) (by simp only [qh3 h (by omega : i < l'.length) zz3, g, true_and])
      · simp (disch := omega) only [dT, nI, Bool.and_true, Int.toNat_natCast, qhe, dF, Bool.not_false, qgr, q0f, e, qhn]
        exact congrArg (fun b => some [D.bool b]) (by rw [dF]; rw [qh3 h (by omega : i < l'.length) zz3]; exact fun hh => g hh.1)
    · simp (disch := omega) only [dF, dT, nI, Bool.and_false, Int.toNat_natCast, Bool.and_true, qgr, q0f, qhl]
      rw [List.drop_of_length_le (by omega), List.drop_of_length_le (by omega)]; rfl
theorem qes (k : Nat) (hk : 2000000 ≤ k) (az : Bool) (a : List (Int × Int × Int)) (bz : Bool) (b : List (Int × Int × Int)) (hl : (a.length : Int) ≤ 1048576) : go (k + 1) slices_Equal_impl_Id_impl_Id [(.arr false (az) (.r3 (a))), (.arr false (bz) (.r3 (b)))] = some [.bool (decide (a = b))] := by
  rw [qlv]
  by_cases h : a.length = b.length
  · simp (disch := omega) only [nI, dT, Bool.not_true, qhl]
    have e := qsl k hk [] az bz a b hl (by omega) (k + 0) 0 (by omega) (by omega)
    simp only [List.drop_zero] at e; exact e
  · simp (disch := omega) only [nI, dF, Bool.not_false, qhn]
    rw [dF (qq7 h)]
def qxu (r r' : Int) (l l' : List Cell) : Bool := decide (r = r') && decide (l = l')
theorem qb3 (k : Nat) (hk : 2000000 ≤ k) (a0 : Int) (a1z : Bool) (a1 : List (Int × Int × Int)) (b0 : Int) (b1z : Bool) (b1 : List (Int × Int × Int)) (hl : (a1.length : Int) ≤ 1048576) : go (k + 2) impl_SameMesh [(.agg [(.int .i64 (a0)), (.arr false (a1z) (.r3 (a1)))]), (.agg [(.int .i64 (b0)), (.arr false (b1z) (.r3 (b1)))])] = some [.bool (qxu a0 b0 a1 b1)] := by
  rw [qi6]
  simp (disch := omega) only [qes, bit, qa2, nth0, qzn]
  unfold qxu
  cases decide (a0 = b0) <;> rfl
theorem qsx (k : Nat) (hk : 2000000 ≤ k) (fu : List (Nat × Nat)) (z z' : Bool) (r r' : Int) (l l' : List Cell) (hl : (l.length : Int) ≤ 1048576) (he : l'.length = l.length) : ∀ (n i : Nat), i ≤ l.length → l.length - i < n →
    lp k spec_SameMesh [] fu 4 (n) (qxd (i : Int) z l r z' l' r') = some [.bool (decide (l.drop i = l'.drop i))]
  | 0, i, hi, hn => by omega
  | n + 1, i, hi, hn => by
    rw [qql]
    by_cases h : i < l.length
    · have e := qsx k hk fu z z' r r' l l' hl he n (i + 1) (by omega) (by omega)
      by_cases g : l.getD i zz3 = l'.getD i zz3
      · simp (disch := omega) only [nI, dT, Bool.and_true, Int.toNat_natCast, g, dTT, Bool.not_true, qgr, q0f, e, qhl, qhn]
        exact congrArg (fun b => some [D.bool b]) (by simp only [qh3 h (by omega : i < l'.length) zz3, g, true_and])
      · simp (disch := omega) only [nI, dT, Bool.and_true, Int.toNat_natCast, qhe, dF, Bool.not_false, qgr, q0f, e, qhn]
        exact congrArg (fun b => some [D.bool b]) (by rw [dF]; rw [qh3 h (by omega : i < l'.length) zz3]; exact fun hh => g hh.1)
    · simp (disch := omega) only [nI, dF, dT, Bool.and_false, Int.toNat_natCast, Bool.and_true, qgr, q0f, qhl]
      rw [List.drop_of_length_le (by omega), List.drop_of_length_le (by omega)]; rfl
theorem qfi (k : Nat) (hk : 2000000 ≤ k) (a0 : Int) (a1z : Bool) (a1 : List (Int × Int × Int)) (b0 : Int) (b1z : Bool) (b1 : List (Int × Int × Int)) (hl : (a1.length : Int) ≤ 1048576) : go (k + 1) spec_SameMesh [(.agg [(.int .i64 (a0)), (.arr false (a1z) (.r3 (a1)))]), (.agg [(.int .i64 (b0)), (.arr false (b1z) (.r3 (b1)))])] = some [.bool (qxu a0 b0 a1 b1)] := by
  rw [qmm]
  unfold qxu
  by_cases h0 : a0 = b0
  case neg => simp (disch := omega) only [dF, Bool.not_false, nI, qhn, Bool.false_and]
  by_cases h : a1.length = b1.length
  · simp (disch := omega) only [dT, Bool.not_true, nI, qhl, Bool.true_and]
    have e := qsx k hk [] a1z b1z a0 b0 a1 b1 hl (by omega) (k + 0) 0 (by omega) (by omega)
    simp only [List.drop_zero] at e; exact e
  · simp (disch := omega) only [dT, Bool.not_true, nI, dF, Bool.not_false, qhn, qhl, Bool.true_and]
    rw [dF (qq7 h)]
end Go.Proofs.YtoldpdhhfmlckaaGreat
end
section
namespace Go.Proofs.YtoldpdhhfmlckaaGreat
open Go.Ev
theorem qnq (k : Nat) (a0 : Int) (a1z : Bool) (a1 : List (Int × Int × Int)) (a2z : Bool) (a2 : List Int) (a3z : Bool) (a3 : List Int) (a4z : Bool) (a4 : List Int) (a5 a6 a7 a8 a9 a10 a11 a12 a13 a14 a15 a16 a17 a18 a19 a20 : Int) : go (k + 1) spec_l36Copy [(.agg [(.int .i64 (a0)), (.arr false (a1z) (.r3 (a1))), (.arr false (a2z) (.ints .i64 (a2))), (.arr false (a3z) (.ints .i64 (a3))), (.arr false (a4z) (.ints .i64 (a4))), (.int .i64 (a5)), (.int .i64 (a6)), (.int .i64 (a7)), (.int .i64 (a8)), (.int .i64 (a9)), (.int .i64 (a10)), (.int .i64 (a11)), (.int .i64 (a12)), (.int .i64 (a13)), (.int .i64 (a14)), (.int .i64 (a15)), (.int .i64 (a16)), (.int .i64 (a17)), (.int .i64 (a18)), (.int .i64 (a19)), (.int .i64 (a20))])] =
 (go k spec_l07Copy [(.agg [(.int .i64 (a0)), (.arr false (a1z) (.r3 (a1))), (.arr false (a2z) (.ints .i64 (a2))), (.arr false (a3z) (.ints .i64 (a3))), (.arr false (a4z) (.ints .i64 (a4)))])]).bind fun r0 =>
 some [(.agg [(.int .i64 (D.toInt (D.cell 0 (nth r0 0)))), (.arr true (D.nil (D.cell 1 (nth r0 0))) (.r3 (D.r3 (D.cell 1 (nth r0 0))))), (.arr true (D.nil (D.cell 2 (nth r0 0))) (.ints .i64 (D.ints (D.cell 2 (nth r0 0))))), (.arr true (D.nil (D.cell 3 (nth r0 0))) (.ints .i64 (D.ints (D.cell 3 (nth r0 0))))), (.arr true (D.nil (D.cell 4 (nth r0 0))) (.ints .i64 (D.ints (D.cell 4 (nth r0 0))))), (.int .i64 (a5)), (.int .i64 (a6)), (.int .i64 (a7)), (.int .i64 (a8)), (.int .i64 (a9)), (.int .i64 (a10)), (.int .i64 (a11)), (.int .i64 (a12)), (.int .i64 (a13)), (.int .i64 (a14)), (.int .i64 (a15)), (.int .i64 (a16)), (.int .i64 (a17)), (.int .i64 (a18)), (.int .i64 (a19)), (.int .i64 (a20))])] := by kernel_rfl
theorem qj6 (k : Nat) (a0 : Int) (a1z : Bool) (a1 : List (Int × Int × Int)) (a2z : Bool) (a2 : List Int) (a3z : Bool) (a3 : List Int) (a4z : Bool) (a4 : List Int) (a5 a6 a7 a8 a9 a10 a11 a12 a13 a14 a15 a16 a17 a18 a19 a20 : Int) : go (k + 1) impl_copyWorld [(.agg [(.int .i64 (a0)), (.arr false (a1z) (.r3 (a1))), (.arr false (a2z) (.ints .i64 (a2))), (.arr false (a3z) (.ints .i64 (a3))), (.arr false (a4z) (.ints .i64 (a4))), (.int .i64 (a5)), (.int .i64 (a6)), (.int .i64 (a7)), (.int .i64 (a8)), (.int .i64 (a9)), (.int .i64 (a10)), (.int .i64 (a11)), (.int .i64 (a12)), (.int .i64 (a13)), (.int .i64 (a14)), (.int .i64 (a15)), (.int .i64 (a16)), (.int .i64 (a17)), (.int .i64 (a18)), (.int .i64 (a19)), (.int .i64 (a20))])] =
 (go k impl_copyState [(.agg [(.int .i64 (a0)), (.arr false (a1z) (.r3 (a1))), (.arr false (a2z) (.ints .i64 (a2))), (.arr false (a3z) (.ints .i64 (a3))), (.arr false (a4z) (.ints .i64 (a4)))])]).bind fun r0 =>
 some [(.agg [(.int .i64 (D.toInt (D.cell 0 (nth r0 0)))), (.arr true (D.nil (D.cell 1 (nth r0 0))) (.r3 (D.r3 (D.cell 1 (nth r0 0))))), (.arr true (D.nil (D.cell 2 (nth r0 0))) (.ints .i64 (D.ints (D.cell 2 (nth r0 0))))), (.arr true (D.nil (D.cell 3 (nth r0 0))) (.ints .i64 (D.ints (D.cell 3 (nth r0 0))))), (.arr true (D.nil (D.cell 4 (nth r0 0))) (.ints .i64 (D.ints (D.cell 4 (nth r0 0))))), (.int .i64 (a5)), (.int .i64 (a6)), (.int .i64 (a7)), (.int .i64 (a8)), (.int .i64 (a9)), (.int .i64 (a10)), (.int .i64 (a11)), (.int .i64 (a12)), (.int .i64 (a13)), (.int .i64 (a14)), (.int .i64 (a15)), (.int .i64 (a16)), (.int .i64 (a17)), (.int .i64 (a18)), (.int .i64 (a19)), (.int .i64 (a20))])] := by kernel_rfl
end Go.Proofs.YtoldpdhhfmlckaaGreat
end
section
namespace Go.Proofs.YtoldpdhhfmlckaaGreat
open Go.Ev
set_option maxRecDepth 20000
theorem qgk (k : Nat) (hk : 2000000 ≤ k) (a0 : Int) (a1z : Bool) (a1 : List (Int × Int × Int)) (a2z : Bool) (a2 : List Int) (a3z : Bool) (a3 : List Int) (a4z : Bool) (a4 : List Int) (a5 : Int) (a6 : Int) (a7 : Int) (a8 : Int) (a9 : Int) (a10 : Int) (a11 : Int) (a12 : Int) (a13 : Int) (a14 : Int) (a15 : Int) (a16 : Int) (a17 : Int) (a18 : Int) (a19 : Int) (a20 : Int) (h1 : (a1.length : Int) ≤ 1048576) (h2 : (a2.length : Int) ≤ 1048576) (h3 : (a3.length : Int) ≤ 1048576) (h4 : (a4.length : Int) ≤ 1048576) : go (k + 3) spec_l36Copy [(.agg [(.int .i64 (a0)), (.arr false (a1z) (.r3 (a1))), (.arr false (a2z) (.ints .i64 (a2))), (.arr false (a3z) (.ints .i64 (a3))), (.arr false (a4z) (.ints .i64 (a4))), (.int .i64 (a5)), (.int .i64 (a6)), (.int .i64 (a7)), (.int .i64 (a8)), (.int .i64 (a9)), (.int .i64 (a10)), (.int .i64 (a11)), (.int .i64 (a12)), (.int .i64 (a13)), (.int .i64 (a14)), (.int .i64 (a15)), (.int .i64 (a16)), (.int .i64 (a17)), (.int .i64 (a18)), (.int .i64 (a19)), (.int .i64 (a20))])] = some [.agg [.int .i64 (a0), .arr true false (.r3 (a1)), .arr true false (.ints .i64 (a2)), .arr true false (.ints .i64 (a3)), .arr true false (.ints .i64 (a4)), .int .i64 (a5), .int .i64 (a6), .int .i64 (a7), .int .i64 (a8), .int .i64 (a9), .int .i64 (a10), .int .i64 (a11), .int .i64 (a12), .int .i64 (a13), .int .i64 (a14), .int .i64 (a15), .int .i64 (a16), .int .i64 (a17), .int .i64 (a18), .int .i64 (a19), .int .i64 (a20)]] := by
  rw [qnq]
  simp (disch := omega) only [qf3, qa2, nth0, qgt, qzo, qgu, qt9, quz, qg5, qoq, qg7, qg8]
theorem qcn (k : Nat) (hk : 2000000 ≤ k) (a0 : Int) (a1 : List Cell) (a2 a3 a4 : List Int) (a5 a6 a7 a8 a9 a10 a11 a12 a13 a14 a15 a16 a17 a18 a19 a20 : Int) (h1 : (a1.length : Int) ≤ 1048576) (h2 : (a2.length : Int) ≤ 1048576) (h3 : (a3.length : Int) ≤ 1048576) (h4 : (a4.length : Int) ≤ 1048576) : go (k + 4) impl_copyWorld [.agg [.int .i64 (a0), .arr false false (.r3 (a1)), .arr false false (.ints .i64 (a2)), .arr false false (.ints .i64 (a3)), .arr false false (.ints .i64 (a4)), .int .i64 (a5), .int .i64 (a6), .int .i64 (a7), .int .i64 (a8), .int .i64 (a9), .int .i64 (a10), .int .i64 (a11), .int .i64 (a12), .int .i64 (a13), .int .i64 (a14), .int .i64 (a15), .int .i64 (a16), .int .i64 (a17), .int .i64 (a18), .int .i64 (a19), .int .i64 (a20)]] = some [.agg [.int .i64 (a0), .arr true false (.r3 (a1)), .arr true false (.ints .i64 (a2)), .arr true false (.ints .i64 (a3)), .arr true false (.ints .i64 (a4)), .int .i64 (a5), .int .i64 (a6), .int .i64 (a7), .int .i64 (a8), .int .i64 (a9), .int .i64 (a10), .int .i64 (a11), .int .i64 (a12), .int .i64 (a13), .int .i64 (a14), .int .i64 (a15), .int .i64 (a16), .int .i64 (a17), .int .i64 (a18), .int .i64 (a19), .int .i64 (a20)]] := by
  rw [qj6]
  simp (disch := omega) only [qcm, qa2, nth0, qgt, qzo, qgu, qt9, quz, qg5, qoq, qg7, qg8]
end Go.Proofs.YtoldpdhhfmlckaaGreat
end
section
namespace Go.Proofs.YtoldpdhhfmlckaaGreat
open Go.Ev
theorem qmn (k : Nat) (a0 : Int) (a1z : Bool) (a1 : List (Int × Int × Int)) (a2z : Bool) (a2 : List Int) (a3z : Bool) (a3 : List Int) (a4z : Bool) (a4 : List Int) (b0 : Int) (b1z : Bool) (b1 : List (Int × Int × Int)) (b2z : Bool) (b2 : List Int) (b3z : Bool) (b3 : List Int) (b4z : Bool) (b4 : List Int) : go (k + 1) spec_SameState [(.agg [(.int .i64 (a0)), (.arr false (a1z) (.r3 (a1))), (.arr false (a2z) (.ints .i64 (a2))), (.arr false (a3z) (.ints .i64 (a3))), (.arr false (a4z) (.ints .i64 (a4)))]), (.agg [(.int .i64 (b0)), (.arr false (b1z) (.r3 (b1))), (.arr false (b2z) (.ints .i64 (b2))), (.arr false (b3z) (.ints .i64 (b3))), (.arr false (b4z) (.ints .i64 (b4)))])] =
 (go k spec_SameMesh [(.agg [(.int .i64 (a0)), (.arr false (a1z) (.r3 (a1)))]), (.agg [(.int .i64 (b0)), (.arr false (b1z) (.r3 (b1)))])]).bind fun r0 =>
 cond (bit (nth r0 0))
 ((go k spec_l24Same [(.arr false (a2z) (.ints .i64 (a2))), (.arr false (b2z) (.ints .i64 (b2)))]).bind fun r1 =>
 cond (bit (nth r1 0))
 ((go k spec_l24Same [(.arr false (a3z) (.ints .i64 (a3))), (.arr false (b3z) (.ints .i64 (b3)))]).bind fun r2 =>
 cond (bit (nth r2 0))
 ((go k spec_l24Same [(.arr false (a4z) (.ints .i64 (a4))), (.arr false (b4z) (.ints .i64 (b4)))]).bind fun r3 =>
 some [(.bool (bit (nth r3 0)))])
 (some [(.bool (false))]))
 (some [(.bool (false))]))
 (some [(.bool (false))]) := by kernel_rfl
theorem qi7 (k : Nat) (a0 : Int) (a1z : Bool) (a1 : List (Int × Int × Int)) (a2z : Bool) (a2 : List Int) (a3z : Bool) (a3 : List Int) (a4z : Bool) (a4 : List Int) (b0 : Int) (b1z : Bool) (b1 : List (Int × Int × Int)) (b2z : Bool) (b2 : List Int) (b3z : Bool) (b3 : List Int) (b4z : Bool) (b4 : List Int) : go (k + 1) impl_SameState [(.agg [(.int .i64 (a0)), (.arr false (a1z) (.r3 (a1))), (.arr false (a2z) (.ints .i64 (a2))), (.arr false (a3z) (.ints .i64 (a3))), (.arr false (a4z) (.ints .i64 (a4)))]), (.agg [(.int .i64 (b0)), (.arr false (b1z) (.r3 (b1))), (.arr false (b2z) (.ints .i64 (b2))), (.arr false (b3z) (.ints .i64 (b3))), (.arr false (b4z) (.ints .i64 (b4)))])] =
 (go k impl_SameMesh [(.agg [(.int .i64 (a0)), (.arr false (a1z) (.r3 (a1)))]), (.agg [(.int .i64 (b0)), (.arr false (b1z) (.r3 (b1)))])]).bind fun r0 =>
 cond (bit (nth r0 0))
 ((go k slices_Equal_int_int [(.arr false (a2z) (.ints .i64 (a2))), (.arr false (b2z) (.ints .i64 (b2)))]).bind fun r1 =>
 cond (bit (nth r1 0))
 ((go k slices_Equal_int_int [(.arr false (a3z) (.ints .i64 (a3))), (.arr false (b3z) (.ints .i64 (b3)))]).bind fun r2 =>
 cond (bit (nth r2 0))
 ((go k slices_Equal_int_int [(.arr false (a4z) (.ints .i64 (a4))), (.arr false (b4z) (.ints .i64 (b4)))]).bind fun r3 =>
 some [(.bool (bit (nth r3 0)))])
 (some [(.bool (false))]))
 (some [(.bool (false))]))
 (some [(.bool (false))]) := by kernel_rfl
end Go.Proofs.YtoldpdhhfmlckaaGreat
end
section
namespace Go.Proofs.YtoldpdhhfmlckaaGreat
open Go.Ev
def qxv (r r' : Int) (l l' : List Cell) (m t b m' t' b' : List Int) : Bool := qxu r r' l l' && (decide (m = m') && (decide (t = t') && decide (b = b')))
theorem qfj (k : Nat) (hk : 2000000 ≤ k) (a0 : Int) (a1z : Bool) (a1 : List (Int × Int × Int)) (a2z : Bool) (a2 : List Int) (a3z : Bool) (a3 : List Int) (a4z : Bool) (a4 : List Int) (b0 : Int) (b1z : Bool) (b1 : List (Int × Int × Int)) (b2z : Bool) (b2 : List Int) (b3z : Bool) (b3 : List Int) (b4z : Bool) (b4 : List Int) (h1 : (a1.length : Int) ≤ 1048576) (h2 : (a2.length : Int) ≤ 1048576) (h3 : (a3.length : Int) ≤ 1048576) (h4 : (a4.length : Int) ≤ 1048576) : go (k + 2) spec_SameState [(.agg [(.int .i64 (a0)), (.arr false (a1z) (.r3 (a1))), (.arr false (a2z) (.ints .i64 (a2))), (.arr false (a3z) (.ints .i64 (a3))), (.arr false (a4z) (.ints .i64 (a4)))]), (.agg [(.int .i64 (b0)), (.arr false (b1z) (.r3 (b1))), (.arr false (b2z) (.ints .i64 (b2))), (.arr false (b3z) (.ints .i64 (b3))), (.arr false (b4z) (.ints .i64 (b4)))])] = some [.bool (qxv a0 b0 a1 b1 a2 a3 a4 b2 b3 b4)] := by
  rw [qmn]
  simp (disch := omega) only [qfi, bit, qgh, qa2, nth0, qzn, qhp]
  rfl
theorem qb4 (k : Nat) (hk : 2000000 ≤ k) (a0 : Int) (a1z : Bool) (a1 : List (Int × Int × Int)) (a2z : Bool) (a2 : List Int) (a3z : Bool) (a3 : List Int) (a4z : Bool) (a4 : List Int) (b0 : Int) (b1z : Bool) (b1 : List (Int × Int × Int)) (b2z : Bool) (b2 : List Int) (b3z : Bool) (b3 : List Int) (b4z : Bool) (b4 : List Int) (h1 : (a1.length : Int) ≤ 1048576) (h2 : (a2.length : Int) ≤ 1048576) (h3 : (a3.length : Int) ≤ 1048576) (h4 : (a4.length : Int) ≤ 1048576) : go (k + 3) impl_SameState [(.agg [(.int .i64 (a0)), (.arr false (a1z) (.r3 (a1))), (.arr false (a2z) (.ints .i64 (a2))), (.arr false (a3z) (.ints .i64 (a3))), (.arr false (a4z) (.ints .i64 (a4)))]), (.agg [(.int .i64 (b0)), (.arr false (b1z) (.r3 (b1))), (.arr false (b2z) (.ints .i64 (b2))), (.arr false (b3z) (.ints .i64 (b3))), (.arr false (b4z) (.ints .i64 (b4)))])] = some [.bool (qxv a0 b0 a1 b1 a2 a3 a4 b2 b3 b4)] := by
  rw [qi7]
  simp (disch := omega) only [qb3, bit, qet, qa2, nth0, qzn, qhp]
  rfl
end Go.Proofs.YtoldpdhhfmlckaaGreat
end
section
namespace Go.Proofs.YtoldpdhhfmlckaaGreat
open Go.Ev
def qw2 (x0 x1 : Int) (z2 : Bool) (l3 : List (Int × Int × Int)) (z4 : Bool) (l5 : List Int) (z6 : Bool) (l7 : List Int) (z8 : Bool) (l9 : List Int) (x10 x11 x12 x13 x14 x15 x16 x17 x18 x19 x20 x21 x22 x23 x24 x25 x26 : Int) (z27 : Bool) (l28 : List (Int × Int × Int)) (z29 : Bool) (l30 : List Int) (z31 : Bool) (l32 : List Int) (z33 : Bool) (l34 : List Int) (x35 x36 x37 x38 x39 x40 x41 x42 x43 x44 x45 x46 x47 x48 x49 x50 x51 : Int) : St := ⟨fill 49 [(1, (.int .i64 (x0))), (4, (.ptr 4 (0) (0))), (6, (.ptr 9 (0) (0))), (7, (.int .i64 (x1)))], [], [(.arr true (z2) (.r3 (l3))), (.arr true (z4) (.ints .i64 (l5))), (.arr true (z6) (.ints .i64 (l7))), (.arr true (z8) (.ints .i64 (l9))), (.box true [(.int .i64 (x10)), (.sl 0 none), (.sl 1 none), (.sl 2 none), (.sl 3 none), (.int .i64 (x11)), (.int .i64 (x12)), (.int .i64 (x13)), (.int .i64 (x14)), (.int .i64 (x15)), (.int .i64 (x16)), (.int .i64 (x17)), (.int .i64 (x18)), (.int .i64 (x19)), (.int .i64 (x20)), (.int .i64 (x21)), (.int .i64 (x22)), (.int .i64 (x23)), (.int .i64 (x24)), (.int .i64 (x25)), (.int .i64 (x26))]), (.arr true (z27) (.r3 (l28))), (.arr true (z29) (.ints .i64 (l30))), (.arr true (z31) (.ints .i64 (l32))), (.arr true (z33) (.ints .i64 (l34))), (.box true [(.int .i64 (x35)), (.sl 5 none), (.sl 6 none), (.sl 7 none), (.sl 8 none), (.int .i64 (x36)), (.int .i64 (x37)), (.int .i64 (x38)), (.int .i64 (x39)), (.int .i64 (x40)), (.int .i64 (x41)), (.int .i64 (x42)), (.int .i64 (x43)), (.int .i64 (x44)), (.int .i64 (x45)), (.int .i64 (x46)), (.int .i64 (x47)), (.int .i64 (x48)), (.int .i64 (x49)), (.int .i64 (x50)), (.int .i64 (x51))])]⟩
theorem ql0 (k : Nat) (a0 : Int) (a1z : Bool) (a1 : List (Int × Int × Int)) (a2z : Bool) (a2 : List Int) (a3z : Bool) (a3 : List Int) (a4z : Bool) (a4 : List Int) (a5 a6 a7 a8 a9 a10 a11 a12 a13 a14 a15 a16 a17 a18 a19 a20 b : Int) : go (k + 1) spec_Advance [(.agg [(.int .i64 (a0)), (.arr false (a1z) (.r3 (a1))), (.arr false (a2z) (.ints .i64 (a2))), (.arr false (a3z) (.ints .i64 (a3))), (.arr false (a4z) (.ints .i64 (a4))), (.int .i64 (a5)), (.int .i64 (a6)), (.int .i64 (a7)), (.int .i64 (a8)), (.int .i64 (a9)), (.int .i64 (a10)), (.int .i64 (a11)), (.int .i64 (a12)), (.int .i64 (a13)), (.int .i64 (a14)), (.int .i64 (a15)), (.int .i64 (a16)), (.int .i64 (a17)), (.int .i64 (a18)), (.int .i64 (a19)), (.int .i64 (a20))]), (.int .i64 (b))] =
 (go k spec_l36Copy [(.agg [(.int .i64 (a0)), (.arr false (a1z) (.r3 (a1))), (.arr false (a2z) (.ints .i64 (a2))), (.arr false (a3z) (.ints .i64 (a3))), (.arr false (a4z) (.ints .i64 (a4))), (.int .i64 (a5)), (.int .i64 (a6)), (.int .i64 (a7)), (.int .i64 (a8)), (.int .i64 (a9)), (.int .i64 (a10)), (.int .i64 (a11)), (.int .i64 (a12)), (.int .i64 (a13)), (.int .i64 (a14)), (.int .i64 (a15)), (.int .i64 (a16)), (.int .i64 (a17)), (.int .i64 (a18)), (.int .i64 (a19)), (.int .i64 (a20))])]).bind fun r0 =>
 (go k spec_WorldOk [(.agg [(.int .i64 (a0)), (.arr false (a1z) (.r3 (a1))), (.arr false (a2z) (.ints .i64 (a2))), (.arr false (a3z) (.ints .i64 (a3))), (.arr false (a4z) (.ints .i64 (a4))), (.int .i64 (a5)), (.int .i64 (a6)), (.int .i64 (a7)), (.int .i64 (a8)), (.int .i64 (a9)), (.int .i64 (a10)), (.int .i64 (a11)), (.int .i64 (a12)), (.int .i64 (a13)), (.int .i64 (a14)), (.int .i64 (a15)), (.int .i64 (a16)), (.int .i64 (a17)), (.int .i64 (a18)), (.int .i64 (a19)), (.int .i64 (a20))])]).bind fun r1 =>
 cond (!bit (nth r1 0))
 (some [(.agg [(.int .i64 (D.toInt (D.cell 0 (nth r0 0)))), (.arr true (D.nil (D.cell 1 (nth r0 0))) (.r3 (D.r3 (D.cell 1 (nth r0 0))))), (.arr true (D.nil (D.cell 2 (nth r0 0))) (.ints .i64 (D.ints (D.cell 2 (nth r0 0))))), (.arr true (D.nil (D.cell 3 (nth r0 0))) (.ints .i64 (D.ints (D.cell 3 (nth r0 0))))), (.arr true (D.nil (D.cell 4 (nth r0 0))) (.ints .i64 (D.ints (D.cell 4 (nth r0 0))))), (.int .i64 (D.toInt (D.cell 5 (nth r0 0)))), (.int .i64 (D.toInt (D.cell 6 (nth r0 0)))), (.int .i64 (D.toInt (D.cell 7 (nth r0 0)))), (.int .i64 (D.toInt (D.cell 8 (nth r0 0)))), (.int .i64 (D.toInt (D.cell 9 (nth r0 0)))), (.int .i64 (D.toInt (D.cell 10 (nth r0 0)))), (.int .i64 (D.toInt (D.cell 11 (nth r0 0)))), (.int .i64 (D.toInt (D.cell (12 : Nat) (nth r0 0)))), (.int .i64 (D.toInt (D.cell (13 : Nat) (nth r0 0)))), (.int .i64 (D.toInt (D.cell (14 : Nat) (nth r0 0)))), (.int .i64 (D.toInt (D.cell (15 : Nat) (nth r0 0)))), (.int .i64 (D.toInt (D.cell (16 : Nat) (nth r0 0)))), (.int .i64 (D.toInt (D.cell (17 : Nat) (nth r0 0)))), (.int .i64 (D.toInt (D.cell (18 : Nat) (nth r0 0)))), (.int .i64 (D.toInt (D.cell (19 : Nat) (nth r0 0)))), (.int .i64 (D.toInt (D.cell (20 : Nat) (nth r0 0))))]), (.bool (false))])
 ((go k spec_l01In [(.int .i64 (b)), (.int .i64 (0 : Int)), (.int .i64 ((100 : Int)))]).bind fun r2 =>
 cond (!bit (nth r2 0))
 (some [(.agg [(.int .i64 (D.toInt (D.cell 0 (nth r0 0)))), (.arr true (D.nil (D.cell 1 (nth r0 0))) (.r3 (D.r3 (D.cell 1 (nth r0 0))))), (.arr true (D.nil (D.cell 2 (nth r0 0))) (.ints .i64 (D.ints (D.cell 2 (nth r0 0))))), (.arr true (D.nil (D.cell 3 (nth r0 0))) (.ints .i64 (D.ints (D.cell 3 (nth r0 0))))), (.arr true (D.nil (D.cell 4 (nth r0 0))) (.ints .i64 (D.ints (D.cell 4 (nth r0 0))))), (.int .i64 (D.toInt (D.cell 5 (nth r0 0)))), (.int .i64 (D.toInt (D.cell 6 (nth r0 0)))), (.int .i64 (D.toInt (D.cell 7 (nth r0 0)))), (.int .i64 (D.toInt (D.cell 8 (nth r0 0)))), (.int .i64 (D.toInt (D.cell 9 (nth r0 0)))), (.int .i64 (D.toInt (D.cell 10 (nth r0 0)))), (.int .i64 (D.toInt (D.cell 11 (nth r0 0)))), (.int .i64 (D.toInt (D.cell (12 : Nat) (nth r0 0)))), (.int .i64 (D.toInt (D.cell (13 : Nat) (nth r0 0)))), (.int .i64 (D.toInt (D.cell (14 : Nat) (nth r0 0)))), (.int .i64 (D.toInt (D.cell (15 : Nat) (nth r0 0)))), (.int .i64 (D.toInt (D.cell (16 : Nat) (nth r0 0)))), (.int .i64 (D.toInt (D.cell (17 : Nat) (nth r0 0)))), (.int .i64 (D.toInt (D.cell (18 : Nat) (nth r0 0)))), (.int .i64 (D.toInt (D.cell (19 : Nat) (nth r0 0)))), (.int .i64 (D.toInt (D.cell (20 : Nat) (nth r0 0))))]), (.bool (false))])
 (lp k spec_Advance [] [] 5 k (qw2 b (0 : Int) true ([]) true ([]) true ([]) true ([]) (0 : Int) (0 : Int) (0 : Int) (0 : Int) (0 : Int) (0 : Int) (0 : Int) (0 : Int) (0 : Int) (0 : Int) (0 : Int) (0 : Int) (0 : Int) (0 : Int) (0 : Int) (0 : Int) (0 : Int) (D.nil (D.cell 1 (nth r0 0))) (D.r3 (D.cell 1 (nth r0 0))) (D.nil (D.cell 2 (nth r0 0))) (D.ints (D.cell 2 (nth r0 0))) (D.nil (D.cell 3 (nth r0 0))) (D.ints (D.cell 3 (nth r0 0))) (D.nil (D.cell 4 (nth r0 0))) (D.ints (D.cell 4 (nth r0 0))) (D.toInt (D.cell 0 (nth r0 0))) (D.toInt (D.cell 5 (nth r0 0))) (D.toInt (D.cell 6 (nth r0 0))) (D.toInt (D.cell 7 (nth r0 0))) (D.toInt (D.cell 8 (nth r0 0))) (D.toInt (D.cell 9 (nth r0 0))) (D.toInt (D.cell 10 (nth r0 0))) (D.toInt (D.cell 11 (nth r0 0))) (D.toInt (D.cell (12 : Nat) (nth r0 0))) (D.toInt (D.cell (13 : Nat) (nth r0 0))) (D.toInt (D.cell (14 : Nat) (nth r0 0))) (D.toInt (D.cell (15 : Nat) (nth r0 0))) (D.toInt (D.cell (16 : Nat) (nth r0 0))) (D.toInt (D.cell (17 : Nat) (nth r0 0))) (D.toInt (D.cell (18 : Nat) (nth r0 0))) (D.toInt (D.cell (19 : Nat) (nth r0 0))) (D.toInt (D.cell (20 : Nat) (nth r0 0)))))) := by kernel_rfl
theorem qqa (k n : Nat) (fu : List (Nat × Nat)) (x0 x1 : Int) (z2 : Bool) (l3 : List (Int × Int × Int)) (z4 : Bool) (l5 : List Int) (z6 : Bool) (l7 : List Int) (z8 : Bool) (l9 : List Int) (x10 x11 x12 x13 x14 x15 x16 x17 x18 x19 x20 x21 x22 x23 x24 x25 x26 : Int) (z27 : Bool) (l28 : List (Int × Int × Int)) (z29 : Bool) (l30 : List Int) (z31 : Bool) (l32 : List Int) (z33 : Bool) (l34 : List Int) (x35 x36 x37 x38 x39 x40 x41 x42 x43 x44 x45 x46 x47 x48 x49 x50 x51 : Int) : lp k spec_Advance [] fu 5 (n + 1) (qw2 x0 x1 z2 l3 z4 l5 z6 l7 z8 l9 x10 x11 x12 x13 x14 x15 x16 x17 x18 x19 x20 x21 x22 x23 x24 x25 x26 z27 l28 z29 l30 z31 l32 z33 l34 x35 x36 x37 x38 x39 x40 x41 x42 x43 x44 x45 x46 x47 x48 x49 x50 x51) =
 cond (decide (x1 < x0))
 ((go k spec_l18Macro [(.agg [(.int .i64 (x35)), (.arr false (z27) (.r3 (l28))), (.arr false (z29) (.ints .i64 (l30))), (.arr false (z31) (.ints .i64 (l32))), (.arr false (z33) (.ints .i64 (l34)))]), (.agg [(.int .i64 (x36)), (.int .i64 (x37)), (.int .i64 (x38)), (.int .i64 (x39)), (.int .i64 (x40)), (.int .i64 (x41)), (.int .i64 (x42)), (.int .i64 (x43)), (.int .i64 (x44))]), (.int .i64 (x45))]).bind fun r0 =>
 (go k spec_LedgerAdd [(.agg [(.int .i64 (x46)), (.int .i64 (x47)), (.int .i64 (x48)), (.int .i64 (x49))]), (.agg [(.int .i64 (D.toInt (D.cell 0 (nth r0 1)))), (.int .i64 (D.toInt (D.cell 1 (nth r0 1)))), (.int .i64 (D.toInt (D.cell 2 (nth r0 1)))), (.int .i64 (D.toInt (D.cell 3 (nth r0 1))))])]).bind fun r1 =>
 lp k spec_Advance [] fu 5 n (qw2 x0 (IntKind.wrap .i64 (x1 + (1 : Int))) z2 l3 z4 l5 z6 l7 z8 l9 x10 x11 x12 x13 x14 x15 x16 x17 x18 x19 x20 x21 x22 x23 x24 x25 x26 (D.nil (D.cell 1 (nth r0 0))) (D.r3 (D.cell 1 (nth r0 0))) (D.nil (D.cell 2 (nth r0 0))) (D.ints (D.cell 2 (nth r0 0))) (D.nil (D.cell 3 (nth r0 0))) (D.ints (D.cell 3 (nth r0 0))) (D.nil (D.cell 4 (nth r0 0))) (D.ints (D.cell 4 (nth r0 0))) (D.toInt (D.cell 0 (nth r0 0))) x36 x37 x38 x39 x40 x41 x42 x43 x44 (IntKind.wrap .i64 (x45 + (1 : Int))) (D.toInt (D.cell 0 (nth r1 0))) (D.toInt (D.cell 1 (nth r1 0))) (D.toInt (D.cell 2 (nth r1 0))) (D.toInt (D.cell 3 (nth r1 0))) x50 x51))
 ((go k spec_l36Copy [(.agg [(.int .i64 (x35)), (.arr false (z27) (.r3 (l28))), (.arr false (z29) (.ints .i64 (l30))), (.arr false (z31) (.ints .i64 (l32))), (.arr false (z33) (.ints .i64 (l34))), (.int .i64 (x36)), (.int .i64 (x37)), (.int .i64 (x38)), (.int .i64 (x39)), (.int .i64 (x40)), (.int .i64 (x41)), (.int .i64 (x42)), (.int .i64 (x43)), (.int .i64 (x44)), (.int .i64 (x45)), (.int .i64 (x46)), (.int .i64 (x47)), (.int .i64 (x48)), (.int .i64 (x49)), (.int .i64 (x50)), (.int .i64 (x51))])]).bind fun r2 =>
 some [(.agg [(.int .i64 (D.toInt (D.cell 0 (nth r2 0)))), (.arr true (D.nil (D.cell 1 (nth r2 0))) (.r3 (D.r3 (D.cell 1 (nth r2 0))))), (.arr true (D.nil (D.cell 2 (nth r2 0))) (.ints .i64 (D.ints (D.cell 2 (nth r2 0))))), (.arr true (D.nil (D.cell 3 (nth r2 0))) (.ints .i64 (D.ints (D.cell 3 (nth r2 0))))), (.arr true (D.nil (D.cell 4 (nth r2 0))) (.ints .i64 (D.ints (D.cell 4 (nth r2 0))))), (.int .i64 (D.toInt (D.cell 5 (nth r2 0)))), (.int .i64 (D.toInt (D.cell 6 (nth r2 0)))), (.int .i64 (D.toInt (D.cell 7 (nth r2 0)))), (.int .i64 (D.toInt (D.cell 8 (nth r2 0)))), (.int .i64 (D.toInt (D.cell 9 (nth r2 0)))), (.int .i64 (D.toInt (D.cell 10 (nth r2 0)))), (.int .i64 (D.toInt (D.cell 11 (nth r2 0)))), (.int .i64 (D.toInt (D.cell (12 : Nat) (nth r2 0)))), (.int .i64 (D.toInt (D.cell (13 : Nat) (nth r2 0)))), (.int .i64 (D.toInt (D.cell (14 : Nat) (nth r2 0)))), (.int .i64 (D.toInt (D.cell (15 : Nat) (nth r2 0)))), (.int .i64 (D.toInt (D.cell (16 : Nat) (nth r2 0)))), (.int .i64 (D.toInt (D.cell (17 : Nat) (nth r2 0)))), (.int .i64 (D.toInt (D.cell (18 : Nat) (nth r2 0)))), (.int .i64 (D.toInt (D.cell (19 : Nat) (nth r2 0)))), (.int .i64 (D.toInt (D.cell (20 : Nat) (nth r2 0))))]), (.bool (true))]) := by kernel_rfl
def qvx (x0 x1 : Int) (z2 : Bool) (l3 : List (Int × Int × Int)) (z4 : Bool) (l5 : List Int) (z6 : Bool) (l7 : List Int) (z8 : Bool) (l9 : List Int) (x10 x11 x12 x13 x14 x15 x16 x17 x18 x19 x20 x21 x22 x23 x24 x25 x26 : Int) (z27 : Bool) (l28 : List (Int × Int × Int)) (z29 : Bool) (l30 : List Int) (z31 : Bool) (l32 : List Int) (z33 : Bool) (l34 : List Int) (x35 x36 x37 x38 x39 x40 x41 x42 x43 x44 x45 x46 x47 x48 x49 x50 x51 : Int) : St := ⟨fill 37 [(4, (.ptr 4 (0) (0))), (6, (.ptr 9 (0) (0))), (18, (.int .i64 (x0))), (19, (.int .i64 (x1)))], [], [(.arr true (z2) (.r3 (l3))), (.arr true (z4) (.ints .i64 (l5))), (.arr true (z6) (.ints .i64 (l7))), (.arr true (z8) (.ints .i64 (l9))), (.box true [(.int .i64 (x10)), (.sl 0 none), (.sl 1 none), (.sl 2 none), (.sl 3 none), (.int .i64 (x11)), (.int .i64 (x12)), (.int .i64 (x13)), (.int .i64 (x14)), (.int .i64 (x15)), (.int .i64 (x16)), (.int .i64 (x17)), (.int .i64 (x18)), (.int .i64 (x19)), (.int .i64 (x20)), (.int .i64 (x21)), (.int .i64 (x22)), (.int .i64 (x23)), (.int .i64 (x24)), (.int .i64 (x25)), (.int .i64 (x26))]), (.arr true (z27) (.r3 (l28))), (.arr true (z29) (.ints .i64 (l30))), (.arr true (z31) (.ints .i64 (l32))), (.arr true (z33) (.ints .i64 (l34))), (.box true [(.int .i64 (x35)), (.sl 5 none), (.sl 6 none), (.sl 7 none), (.sl 8 none), (.int .i64 (x36)), (.int .i64 (x37)), (.int .i64 (x38)), (.int .i64 (x39)), (.int .i64 (x40)), (.int .i64 (x41)), (.int .i64 (x42)), (.int .i64 (x43)), (.int .i64 (x44)), (.int .i64 (x45)), (.int .i64 (x46)), (.int .i64 (x47)), (.int .i64 (x48)), (.int .i64 (x49)), (.int .i64 (x50)), (.int .i64 (x51))])]⟩
theorem qh7 (k : Nat) (a0 : Int) (a1z : Bool) (a1 : List (Int × Int × Int)) (a2z : Bool) (a2 : List Int) (a3z : Bool) (a3 : List Int) (a4z : Bool) (a4 : List Int) (a5 a6 a7 a8 a9 a10 a11 a12 a13 a14 a15 a16 a17 a18 a19 a20 b : Int) : go (k + 1) impl_Advance [(.agg [(.int .i64 (a0)), (.arr false (a1z) (.r3 (a1))), (.arr false (a2z) (.ints .i64 (a2))), (.arr false (a3z) (.ints .i64 (a3))), (.arr false (a4z) (.ints .i64 (a4))), (.int .i64 (a5)), (.int .i64 (a6)), (.int .i64 (a7)), (.int .i64 (a8)), (.int .i64 (a9)), (.int .i64 (a10)), (.int .i64 (a11)), (.int .i64 (a12)), (.int .i64 (a13)), (.int .i64 (a14)), (.int .i64 (a15)), (.int .i64 (a16)), (.int .i64 (a17)), (.int .i64 (a18)), (.int .i64 (a19)), (.int .i64 (a20))]), (.int .i64 (b))] =
 (go k impl_copyWorld [(.agg [(.int .i64 (a0)), (.arr false (a1z) (.r3 (a1))), (.arr false (a2z) (.ints .i64 (a2))), (.arr false (a3z) (.ints .i64 (a3))), (.arr false (a4z) (.ints .i64 (a4))), (.int .i64 (a5)), (.int .i64 (a6)), (.int .i64 (a7)), (.int .i64 (a8)), (.int .i64 (a9)), (.int .i64 (a10)), (.int .i64 (a11)), (.int .i64 (a12)), (.int .i64 (a13)), (.int .i64 (a14)), (.int .i64 (a15)), (.int .i64 (a16)), (.int .i64 (a17)), (.int .i64 (a18)), (.int .i64 (a19)), (.int .i64 (a20))])]).bind fun r0 =>
 (go k impl_WorldOk [(.agg [(.int .i64 (a0)), (.arr false (a1z) (.r3 (a1))), (.arr false (a2z) (.ints .i64 (a2))), (.arr false (a3z) (.ints .i64 (a3))), (.arr false (a4z) (.ints .i64 (a4))), (.int .i64 (a5)), (.int .i64 (a6)), (.int .i64 (a7)), (.int .i64 (a8)), (.int .i64 (a9)), (.int .i64 (a10)), (.int .i64 (a11)), (.int .i64 (a12)), (.int .i64 (a13)), (.int .i64 (a14)), (.int .i64 (a15)), (.int .i64 (a16)), (.int .i64 (a17)), (.int .i64 (a18)), (.int .i64 (a19)), (.int .i64 (a20))])]).bind fun r1 =>
 cond (!bit (nth r1 0))
 (some [(.agg [(.int .i64 (D.toInt (D.cell 0 (nth r0 0)))), (.arr true (D.nil (D.cell 1 (nth r0 0))) (.r3 (D.r3 (D.cell 1 (nth r0 0))))), (.arr true (D.nil (D.cell 2 (nth r0 0))) (.ints .i64 (D.ints (D.cell 2 (nth r0 0))))), (.arr true (D.nil (D.cell 3 (nth r0 0))) (.ints .i64 (D.ints (D.cell 3 (nth r0 0))))), (.arr true (D.nil (D.cell 4 (nth r0 0))) (.ints .i64 (D.ints (D.cell 4 (nth r0 0))))), (.int .i64 (D.toInt (D.cell 5 (nth r0 0)))), (.int .i64 (D.toInt (D.cell 6 (nth r0 0)))), (.int .i64 (D.toInt (D.cell 7 (nth r0 0)))), (.int .i64 (D.toInt (D.cell 8 (nth r0 0)))), (.int .i64 (D.toInt (D.cell 9 (nth r0 0)))), (.int .i64 (D.toInt (D.cell 10 (nth r0 0)))), (.int .i64 (D.toInt (D.cell 11 (nth r0 0)))), (.int .i64 (D.toInt (D.cell (12 : Nat) (nth r0 0)))), (.int .i64 (D.toInt (D.cell (13 : Nat) (nth r0 0)))), (.int .i64 (D.toInt (D.cell (14 : Nat) (nth r0 0)))), (.int .i64 (D.toInt (D.cell (15 : Nat) (nth r0 0)))), (.int .i64 (D.toInt (D.cell (16 : Nat) (nth r0 0)))), (.int .i64 (D.toInt (D.cell (17 : Nat) (nth r0 0)))), (.int .i64 (D.toInt (D.cell (18 : Nat) (nth r0 0)))), (.int .i64 (D.toInt (D.cell (19 : Nat) (nth r0 0)))), (.int .i64 (D.toInt (D.cell (20 : Nat) (nth r0 0))))]), (.bool (false))])
 ((go k impl_within [(.int .i64 (b)), (.int .i64 (0 : Int)), (.int .i64 ((100 : Int)))]).bind fun r2 =>
 cond (!bit (nth r2 0))
 (some [(.agg [(.int .i64 (D.toInt (D.cell 0 (nth r0 0)))), (.arr true (D.nil (D.cell 1 (nth r0 0))) (.r3 (D.r3 (D.cell 1 (nth r0 0))))), (.arr true (D.nil (D.cell 2 (nth r0 0))) (.ints .i64 (D.ints (D.cell 2 (nth r0 0))))), (.arr true (D.nil (D.cell 3 (nth r0 0))) (.ints .i64 (D.ints (D.cell 3 (nth r0 0))))), (.arr true (D.nil (D.cell 4 (nth r0 0))) (.ints .i64 (D.ints (D.cell 4 (nth r0 0))))), (.int .i64 (D.toInt (D.cell 5 (nth r0 0)))), (.int .i64 (D.toInt (D.cell 6 (nth r0 0)))), (.int .i64 (D.toInt (D.cell 7 (nth r0 0)))), (.int .i64 (D.toInt (D.cell 8 (nth r0 0)))), (.int .i64 (D.toInt (D.cell 9 (nth r0 0)))), (.int .i64 (D.toInt (D.cell 10 (nth r0 0)))), (.int .i64 (D.toInt (D.cell 11 (nth r0 0)))), (.int .i64 (D.toInt (D.cell (12 : Nat) (nth r0 0)))), (.int .i64 (D.toInt (D.cell (13 : Nat) (nth r0 0)))), (.int .i64 (D.toInt (D.cell (14 : Nat) (nth r0 0)))), (.int .i64 (D.toInt (D.cell (15 : Nat) (nth r0 0)))), (.int .i64 (D.toInt (D.cell (16 : Nat) (nth r0 0)))), (.int .i64 (D.toInt (D.cell (17 : Nat) (nth r0 0)))), (.int .i64 (D.toInt (D.cell (18 : Nat) (nth r0 0)))), (.int .i64 (D.toInt (D.cell (19 : Nat) (nth r0 0)))), (.int .i64 (D.toInt (D.cell (20 : Nat) (nth r0 0))))]), (.bool (false))])
 (lp k impl_Advance [] [] 5 k (qvx b (0 : Int) true ([]) true ([]) true ([]) true ([]) (0 : Int) (0 : Int) (0 : Int) (0 : Int) (0 : Int) (0 : Int) (0 : Int) (0 : Int) (0 : Int) (0 : Int) (0 : Int) (0 : Int) (0 : Int) (0 : Int) (0 : Int) (0 : Int) (0 : Int) (D.nil (D.cell 1 (nth r0 0))) (D.r3 (D.cell 1 (nth r0 0))) (D.nil (D.cell 2 (nth r0 0))) (D.ints (D.cell 2 (nth r0 0))) (D.nil (D.cell 3 (nth r0 0))) (D.ints (D.cell 3 (nth r0 0))) (D.nil (D.cell 4 (nth r0 0))) (D.ints (D.cell 4 (nth r0 0))) (D.toInt (D.cell 0 (nth r0 0))) (D.toInt (D.cell 5 (nth r0 0))) (D.toInt (D.cell 6 (nth r0 0))) (D.toInt (D.cell 7 (nth r0 0))) (D.toInt (D.cell 8 (nth r0 0))) (D.toInt (D.cell 9 (nth r0 0))) (D.toInt (D.cell 10 (nth r0 0))) (D.toInt (D.cell 11 (nth r0 0))) (D.toInt (D.cell (12 : Nat) (nth r0 0))) (D.toInt (D.cell (13 : Nat) (nth r0 0))) (D.toInt (D.cell (14 : Nat) (nth r0 0))) (D.toInt (D.cell (15 : Nat) (nth r0 0))) (D.toInt (D.cell (16 : Nat) (nth r0 0))) (D.toInt (D.cell (17 : Nat) (nth r0 0))) (D.toInt (D.cell (18 : Nat) (nth r0 0))) (D.toInt (D.cell (19 : Nat) (nth r0 0))) (D.toInt (D.cell (20 : Nat) (nth r0 0)))))) := by kernel_rfl
theorem qo5 (k n : Nat) (fu : List (Nat × Nat)) (x0 x1 : Int) (z2 : Bool) (l3 : List (Int × Int × Int)) (z4 : Bool) (l5 : List Int) (z6 : Bool) (l7 : List Int) (z8 : Bool) (l9 : List Int) (x10 x11 x12 x13 x14 x15 x16 x17 x18 x19 x20 x21 x22 x23 x24 x25 x26 : Int) (z27 : Bool) (l28 : List (Int × Int × Int)) (z29 : Bool) (l30 : List Int) (z31 : Bool) (l32 : List Int) (z33 : Bool) (l34 : List Int) (x35 x36 x37 x38 x39 x40 x41 x42 x43 x44 x45 x46 x47 x48 x49 x50 x51 : Int) : lp k impl_Advance [] fu 5 (n + 1) (qvx x0 x1 z2 l3 z4 l5 z6 l7 z8 l9 x10 x11 x12 x13 x14 x15 x16 x17 x18 x19 x20 x21 x22 x23 x24 x25 x26 z27 l28 z29 l30 z31 l32 z33 l34 x35 x36 x37 x38 x39 x40 x41 x42 x43 x44 x45 x46 x47 x48 x49 x50 x51) =
 cond (decide (x1 < x0))
 ((go k impl_State_runMacro [(.ptr true [(.int .i64 (x35)), (.arr true (z27) (.r3 (l28))), (.arr true (z29) (.ints .i64 (l30))), (.arr true (z31) (.ints .i64 (l32))), (.arr true (z33) (.ints .i64 (l34)))]), (.agg [(.int .i64 (x36)), (.int .i64 (x37)), (.int .i64 (x38)), (.int .i64 (x39)), (.int .i64 (x40)), (.int .i64 (x41)), (.int .i64 (x42)), (.int .i64 (x43)), (.int .i64 (x44))]), (.int .i64 (x45))]).bind fun r0 =>
 (go k impl_LedgerAdd [(.agg [(.int .i64 (x46)), (.int .i64 (x47)), (.int .i64 (x48)), (.int .i64 (x49))]), (.agg [(.int .i64 (D.toInt (D.cell 0 (nth r0 0)))), (.int .i64 (D.toInt (D.cell 1 (nth r0 0)))), (.int .i64 (D.toInt (D.cell 2 (nth r0 0)))), (.int .i64 (D.toInt (D.cell 3 (nth r0 0))))])]).bind fun r1 =>
 lp k impl_Advance [] fu 5 n (qvx x0 (IntKind.wrap .i64 (x1 + (1 : Int))) z2 l3 z4 l5 z6 l7 z8 l9 x10 x11 x12 x13 x14 x15 x16 x17 x18 x19 x20 x21 x22 x23 x24 x25 x26 (D.nil (D.cell 1 (nth r0 1))) (D.r3 (D.cell 1 (nth r0 1))) (D.nil (D.cell 2 (nth r0 1))) (D.ints (D.cell 2 (nth r0 1))) (D.nil (D.cell 3 (nth r0 1))) (D.ints (D.cell 3 (nth r0 1))) (D.nil (D.cell 4 (nth r0 1))) (D.ints (D.cell 4 (nth r0 1))) (D.toInt (D.cell 0 (nth r0 1))) x36 x37 x38 x39 x40 x41 x42 x43 x44 (IntKind.wrap .i64 (x45 + (1 : Int))) (D.toInt (D.cell 0 (nth r1 0))) (D.toInt (D.cell 1 (nth r1 0))) (D.toInt (D.cell 2 (nth r1 0))) (D.toInt (D.cell 3 (nth r1 0))) x50 x51))
 (some [(.agg [(.int .i64 (x35)), (.arr true (z27) (.r3 (l28))), (.arr true (z29) (.ints .i64 (l30))), (.arr true (z31) (.ints .i64 (l32))), (.arr true (z33) (.ints .i64 (l34))), (.int .i64 (x36)), (.int .i64 (x37)), (.int .i64 (x38)), (.int .i64 (x39)), (.int .i64 (x40)), (.int .i64 (x41)), (.int .i64 (x42)), (.int .i64 (x43)), (.int .i64 (x44)), (.int .i64 (x45)), (.int .i64 (x46)), (.int .i64 (x47)), (.int .i64 (x48)), (.int .i64 (x49)), (.int .i64 (x50)), (.int .i64 (x51))]), (.bool (true))]) := by kernel_rfl

end Go.Proofs.YtoldpdhhfmlckaaGreat
end
section
namespace Go.Proofs.YtoldpdhhfmlckaaGreat
open Go.Ev
set_option maxRecDepth 20000
structure Wd where
  r : Int
  s : S3
  b : List Int
  p : Pl
  k : Int
  ld : Ld
  f : Int
  g : Int
abbrev wdR (w : Wd) : D := .agg [.int .i64 (w.r), .arr false false (.r3 (w.s.1)), .arr false false (.ints .i64 (w.s.2.1)), .arr false false (.ints .i64 (w.s.2.2)), .arr false false (.ints .i64 (w.b)), .int .i64 (w.p.bi), .int .i64 (w.p.bs), .int .i64 (w.p.bo), .int .i64 (w.p.rain), .int .i64 (w.p.loss), .int .i64 (w.p.dec), .int .i64 (w.p.high), .int .i64 (w.p.low), .int .i64 (w.p.every), .int .i64 (w.k), .int .i64 (w.ld.mi), .int .i64 (w.ld.mo), .int .i64 (w.ld.ti), .int .i64 (w.ld.ou), .int .i64 (w.f), .int .i64 (w.g)]
abbrev wdO (w : Wd) : D := .agg [.int .i64 (w.r), .arr true false (.r3 (w.s.1)), .arr true false (.ints .i64 (w.s.2.1)), .arr true false (.ints .i64 (w.s.2.2)), .arr true false (.ints .i64 (w.b)), .int .i64 (w.p.bi), .int .i64 (w.p.bs), .int .i64 (w.p.bo), .int .i64 (w.p.rain), .int .i64 (w.p.loss), .int .i64 (w.p.dec), .int .i64 (w.p.high), .int .i64 (w.p.low), .int .i64 (w.p.every), .int .i64 (w.k), .int .i64 (w.ld.mi), .int .i64 (w.ld.mo), .int .i64 (w.ld.ti), .int .i64 (w.ld.ou), .int .i64 (w.f), .int .i64 (w.g)]
def wdOk (w : Wd) : Bool := q0d w.r w.s.1 w.s.2.1 w.s.2.2 w.b w.p.bi w.p.bs w.p.bo w.p.rain w.p.loss w.p.dec w.p.high w.p.low w.p.every w.k w.ld.mi w.ld.mo w.ld.ti w.ld.ou w.f w.g
structure Sml (w : Wd) : Prop where
  h1 : (w.s.1.length : Int) ≤ 1048576
  h2 : (w.s.2.1.length : Int) ≤ 1048576
  h3 : (w.s.2.2.length : Int) ≤ 1048576
  h4 : (w.b.length : Int) ≤ 1048576
structure LdB (l : Ld) (B : Int) : Prop where
  mi : 0 ≤ l.mi ∧ l.mi ≤ B
  mo : 0 ≤ l.mo ∧ l.mo ≤ B
  ti : 0 ≤ l.ti ∧ l.ti ≤ B
  ou : 0 ≤ l.ou ∧ l.ou ≤ B
theorem qus {p : Pl} (h : quu p.bi p.bs p.bo p.rain p.loss p.dec p.high p.low p.every = true) : PlF p := by
  simp only [quu, qa7, Bool.and_eq_true, qoo] at h
  exact ⟨by omega, by omega, by omega, by omega, by omega, by omega, by omega, by omega, by omega⟩
structure WdF (w : Wd) : Prop where
  F : StF w.r w.s.1 w.s.2.1 w.s.2.2 w.b
  P : PlF w.p
  k : 0 ≤ w.k ∧ w.k ≤ 100000
  L : LdB w.ld 1000000000000000
  f : isum w.s.2.1 - w.ld.mi + w.ld.mo = w.f
  g : isum w.s.2.2 - w.ld.ti + w.ld.ou = w.g
theorem wdF {w : Wd} (h : wdOk w = true) : WdF w := by
  unfold wdOk q0d qq6 at h
  simp only [Bool.and_eq_true, decide_eq_true_eq] at h
  obtain ⟨h1, h2, h3, ⟨h4, h5, h6, h7⟩, h8, h9⟩ := h
  exact ⟨stF.1 h1, qus h2, qoo.1 h3, ⟨qoo.1 h4, qoo.1 h5, qoo.1 h6, qoo.1 h7⟩, h8, h9⟩
theorem StF.sml {w : Wd} (F : StF w.r w.s.1 w.s.2.1 w.s.2.2 w.b) : Sml w := by
  have := F.len; have := F.ml; have := F.tl; have := F.bl; have := F.rr
  exact ⟨by omega, by omega, by omega, by omega⟩
def Wd.next (w : Wd) : Wd := { w with s := (mac w.p w.b w.k w.s).1, k := w.k + 1, ld := w.ld.add (mac w.p w.b w.k w.s).2 }
def advN : Nat → Wd → Wd
  | 0, w => w
  | n + 1, w => advN n w.next
structure Adv (w : Wd) (i : Nat) : Prop where
  F : StF w.r w.s.1 w.s.2.1 w.s.2.2 w.b
  P : PlF w.p
  k : 0 ≤ w.k ∧ w.k ≤ 100000 + i
  L : LdB w.ld (1000000000000000 + 40000000000 * i)
theorem Adv.next {w : Wd} {i : Nat} (A : Adv w i) : Adv w.next (i + 1) := by
  have h := qtd (s := w.s) A.F A.P w.k
  have a := A.k; have l := A.L; have q := h.2
  have l1 := l.mi; have l2 := l.mo; have l3 := l.ti; have l4 := l.ou
  have q1 := q.mi; have q2 := q.mo; have q3 := q.ti; have q4 := q.ou
  refine ⟨h.1, A.P, ?_, ⟨?_, ?_, ?_, ?_⟩⟩
  · show 0 ≤ w.k + 1 ∧ w.k + 1 ≤ _; omega
  · show 0 ≤ w.ld.mi + _ ∧ w.ld.mi + _ ≤ _; omega
  · show 0 ≤ w.ld.mo + _ ∧ w.ld.mo + _ ≤ _; omega
  · show 0 ≤ w.ld.ti + _ ∧ w.ld.ti + _ ≤ _; omega
  · show 0 ≤ w.ld.ou + _ ∧ w.ld.ou + _ ≤ _; omega
theorem qau : ∀ (n : Nat) (w : Wd) (i : Nat), Adv w i → Adv (advN n w) (i + n)
  | 0, w, i, A => A
  | n + 1, w, i, A => by have := qau n w.next (i + 1) A.next; rw [show i + 1 + n = i + (n + 1) by omega] at this; exact this
theorem qco (k : Nat) (hk : 2000000 ≤ k) (w : Wd) (h : Sml w) : go (k + 4) impl_copyWorld [wdR w] = some [wdO w] := qcn k hk _ _ _ _ _ _ _ _ _ _ _ _ _ _ _ _ _ _ _ _ _ h.h1 h.h2 h.h3 h.h4
theorem qgl (k : Nat) (hk : 2000000 ≤ k) (w : Wd) (h : Sml w) : go (k + 3) spec_l36Copy [wdR w] = some [wdO w] := qgk k hk _ _ _ _ _ _ _ _ _ _ _ _ _ _ _ _ _ _ _ _ _ _ _ _ _ h.h1 h.h2 h.h3 h.h4
theorem qce (k : Nat) (hk : 2000000 ≤ k) (w : Wd) (h : Sml w) : go (k + 9) impl_WorldOk [wdR w] = some [.bool (wdOk w)] := qcd k hk _ _ _ _ _ _ _ _ _ _ _ _ _ _ _ _ _ _ _ _ _ _ _ _ _ h.h1 h.h4
theorem qfr (k : Nat) (hk : 2000000 ≤ k) (w : Wd) (h : Sml w) : go (k + 8) spec_WorldOk [wdR w] = some [.bool (wdOk w)] := qfq k hk _ _ _ _ _ _ _ _ _ _ _ _ _ _ _ _ _ _ _ _ _ _ _ _ _ h.h1 h.h4
set_option maxHeartbeats 1000000 in
theorem qrm (k : Nat) (hk : 2000000 ≤ k) (fu : List (Nat × Nat)) (c : Int) (hc : c ≤ 100) (z2 : Bool) (l3 : List Cell) (z4 : Bool) (l5 : List Int) (z6 : Bool) (l7 : List Int) (z8 : Bool) (l9 : List Int) (x10 x11 x12 x13 x14 x15 x16 x17 x18 x19 x20 x21 x22 x23 x24 x25 x26 : Int) : ∀ (N n i : Nat) (w : Wd), (i : Int) + n = c → n < N → Adv w i →
    lp (k + 11) impl_Advance [] fu 5 (N) (qvx c (i : Int) z2 l3 z4 l5 z6 l7 z8 l9 x10 x11 x12 x13 x14 x15 x16 x17 x18 x19 x20 x21 x22 x23 x24 x25 x26 false w.s.1 false w.s.2.1 false w.s.2.2 false w.b w.r w.p.bi w.p.bs w.p.bo w.p.rain w.p.loss w.p.dec w.p.high w.p.low w.p.every w.k w.ld.mi w.ld.mo w.ld.ti w.ld.ou w.f w.g) = some [wdO (advN n w), .bool true]
  | 0, n, i, w, hi, hN, A => by omega
  | N + 1, 0, i, w, hi, hN, A => by
    rw [qo5]
    simp (disch := omega) only [dF, qgr, q0f, qhl]; rfl
  | N + 1, n + 1, i, w, hi, hN, A => by
    rw [qo5]
    have a := A.k; have l := A.L
    have h := (qtd (s := w.s) A.F A.P w.k).2
    have l1 := l.mi; have l2 := l.mo; have l3' := l.ti; have l4 := l.ou
    have q1 := h.mi; have q2 := h.mo; have q3 := h.ti; have q4 := h.ou
    have eM := qdc k (by omega) w.r w.s w.b A.F w.p A.P w.k (by omega)
    have eL := qbv (k + 10) w.ld (mac w.p w.b w.k w.s).2 (by omega) (by omega) (by omega) (by omega)
    have IH := qrm k hk fu c hc z2 l3 z4 l5 z6 l7 z8 l9 x10 x11 x12 x13 x14 x15 x16 x17 x18 x19 x20 x21 x22 x23 x24 x25 x26 N n (i + 1) w.next (by omega) (by omega) A.next
    rw [show advN (n + 1) w = advN n w.next from rfl]
    simp only [Wd.next] at IH ⊢
    simp (disch := omega) only [dT, eM, qgr, q0f, qa2, nth0, qgt, qzo, qgu, qg5, qg7, eL, nth1, qu5, qt9, quz, qu6, qoq, qu7, qu8, qu4, IH, qhn]
set_option maxHeartbeats 1000000 in
theorem qsn (k : Nat) (hk : 2000000 ≤ k) (fu : List (Nat × Nat)) (c : Int) (hc : c ≤ 100) (z2 : Bool) (l3 : List Cell) (z4 : Bool) (l5 : List Int) (z6 : Bool) (l7 : List Int) (z8 : Bool) (l9 : List Int) (x10 x11 x12 x13 x14 x15 x16 x17 x18 x19 x20 x21 x22 x23 x24 x25 x26 : Int) : ∀ (N n i : Nat) (w : Wd), (i : Int) + n = c → n < N → Adv w i →
    lp (k + 8) spec_Advance [] fu 5 (N) (qw2 c (i : Int) z2 l3 z4 l5 z6 l7 z8 l9 x10 x11 x12 x13 x14 x15 x16 x17 x18 x19 x20 x21 x22 x23 x24 x25 x26 false w.s.1 false w.s.2.1 false w.s.2.2 false w.b w.r w.p.bi w.p.bs w.p.bo w.p.rain w.p.loss w.p.dec w.p.high w.p.low w.p.every w.k w.ld.mi w.ld.mo w.ld.ti w.ld.ou w.f w.g) = some [wdO (advN n w), .bool true]
  | 0, n, i, w, hi, hN, A => by omega
  | N + 1, 0, i, w, hi, hN, A => by
    rw [qqa]
    have eC := qgl (k + 5) (by omega) w A.F.sml
    simp (disch := omega) only [dF, qgr, q0f, eC, qa2, nth0, qgt, qzo, qgu, qt9, quz, qg5, qoq, qg7, qg8, qg9, qha, qhb, qhc, qhd, qgv, qgw, qgx, qgy, qgz, qg0, qg1, qg2, qg3, qg4, qg6, qhl]
    rfl
  | N + 1, n + 1, i, w, hi, hN, A => by
    rw [qqa]
    have a := A.k; have l := A.L
    have h := (qtd (s := w.s) A.F A.P w.k).2
    have l1 := l.mi; have l2 := l.mo; have l3' := l.ti; have l4 := l.ou
    have q1 := h.mi; have q2 := h.mo; have q3 := h.ti; have q4 := h.ou
    have eM := qgg k (by omega) w.r w.s w.b A.F w.p A.P w.k (by omega)
    have eL := qfd (k + 7) w.ld (mac w.p w.b w.k w.s).2 (by omega) (by omega) (by omega) (by omega)
    have IH := qsn k hk fu c hc z2 l3 z4 l5 z6 l7 z8 l9 x10 x11 x12 x13 x14 x15 x16 x17 x18 x19 x20 x21 x22 x23 x24 x25 x26 N n (i + 1) w.next (by omega) (by omega) A.next
    rw [show advN (n + 1) w = advN n w.next from rfl]
    simp only [Wd.next] at IH ⊢
    simp (disch := omega) only [dT, eM, qgr, q0f, qa2, nth1, qgt, qzo, qgu, qg5, qg7, eL, nth0, qt9, quz, qoq, qg8, IH, qhn]
def qav (w : Wd) (n : Int) : Bool := wdOk w && inR n 0 100
def adv (w : Wd) (n : Int) : Wd := cond (qav w n) (advN n.toNat w) w
theorem WdF.adv {w : Wd} (h : WdF w) : Adv w 0 := ⟨h.F, h.P, by have := h.k; omega, ⟨by have := h.L.mi; omega, by have := h.L.mo; omega, by have := h.L.ti; omega, by have := h.L.ou; omega⟩⟩
theorem qbd (k : Nat) (hk : 2000000 ≤ k) (w : Wd) (n : Int) (h : Sml w) : go (k + 12) impl_Advance [wdR w, .int .i64 n] = some [wdO (adv w n), .bool (qav w n)] := by
  rw [qh7]
  have eC := qco (k + 7) (by omega) w h
  have eO := qce (k + 2) (by omega) w h
  unfold adv qav
  cases g : wdOk w
  · rw [g] at eO
    simp (disch := omega) only [eC, eO, bit, qa2, nth0, qzn, Bool.not_false, qhn, qgt, qzo, qgu, qt9, quz, qg5, qoq, qg7, qg8, qg9, qha, qhb, qhc, qhd, qgv, qgw, qgx, qgy, qgz, qg0, qg1, qg2, qg3, qg4, qg6, Bool.false_and, qhl]
  rw [g] at eO
  cases g2 : inR n 0 100
  · simp (disch := omega) only [eC, eO, bit, qdk, g2, qa2, nth0, qzn, Bool.not_false, qhn, Bool.not_true, qhl, qgt, qzo, qgu, qt9, quz, qg5, qoq, qg7, qg8, qg9, qha, qhb, qhc, qhd, qgv, qgw, qgx, qgy, qgz, qg0, qg1, qg2, qg3, qg4, qg6, Bool.and_false]
  have b := qoo.1 g2
  have e := qrm k hk [] n b.2 true [] true [] true [] true [] 0 0 0 0 0 0 0 0 0 0 0 0 0 0 0 0 0 (k + 11) n.toNat 0 w (by omega) (by omega) (wdF g).adv
  rw [show ((0 : Nat) : Int) = 0 from rfl] at e
  simp (disch := omega) only [eC, eO, bit, qdk, g2, qa2, nth0, qzn, Bool.not_true, qhl, qgu, qt9, quz, qg5, qoq, qg7, qg8, qgt, qzo, qg9, qha, qhb, qhc, qhd, qgv, qgw, qgx, qgy, qgz, qg0, qg1, qg2, qg3, qg4, qg6, Bool.and_true, qhn]
  exact e
theorem qex (k : Nat) (hk : 2000000 ≤ k) (w : Wd) (n : Int) (h : Sml w) : go (k + 9) spec_Advance [wdR w, .int .i64 n] = some [wdO (adv w n), .bool (qav w n)] := by
  rw [ql0]
  have eC := qgl (k + 5) (by omega) w h
  have eO := qfr k (by omega) w h
  unfold adv qav
  cases g : wdOk w
  · rw [g] at eO
    simp (disch := omega) only [eC, eO, bit, qa2, nth0, qzn, Bool.not_false, qhn, qgt, qzo, qgu, qt9, quz, qg5, qoq, qg7, qg8, qg9, qha, qhb, qhc, qhd, qgv, qgw, qgx, qgy, qgz, qg0, qg1, qg2, qg3, qg4, qg6, Bool.false_and, qhl]
  rw [g] at eO
  cases g2 : inR n 0 100
  · simp (disch := omega) only [eC, eO, bit, qfu, g2, qa2, nth0, qzn, Bool.not_false, qhn, Bool.not_true, qhl, qgt, qzo, qgu, qt9, quz, qg5, qoq, qg7, qg8, qg9, qha, qhb, qhc, qhd, qgv, qgw, qgx, qgy, qgz, qg0, qg1, qg2, qg3, qg4, qg6, Bool.and_false]
  have b := qoo.1 g2
  have e := qsn k hk [] n b.2 true [] true [] true [] true [] 0 0 0 0 0 0 0 0 0 0 0 0 0 0 0 0 0 (k + 8) n.toNat 0 w (by omega) (by omega) (wdF g).adv
  rw [show ((0 : Nat) : Int) = 0 from rfl] at e
  simp (disch := omega) only [eC, eO, bit, qfu, g2, qa2, nth0, qzn, Bool.not_true, qhl, qgu, qt9, quz, qg5, qoq, qg7, qg8, qgt, qzo, qg9, qha, qhb, qhc, qhd, qgv, qgw, qgx, qgy, qgz, qg0, qg1, qg2, qg3, qg4, qg6, Bool.and_true, qhn]
  exact e
end Go.Proofs.YtoldpdhhfmlckaaGreat
end
section
namespace Go.Proofs.YtoldpdhhfmlckaaGreat
open Go.Ev
def qxa (x0 x1 : Int) (z2 : Bool) (l3 : List (Int × Int × Int)) (z4 : Bool) (l5 : List Int) (z6 : Bool) (l7 : List Int) (z8 : Bool) (l9 : List Int) (x10 x11 x12 x13 x14 x15 x16 x17 x18 x19 x20 x21 x22 x23 x24 x25 x26 : Int) (z27 : Bool) (l28 : List (Int × Int × Int)) (z29 : Bool) (l30 : List Int) (z31 : Bool) (l32 : List Int) (z33 : Bool) (l34 : List Int) (x35 x36 x37 x38 x39 x40 x41 x42 x43 x44 x45 x46 x47 x48 x49 x50 x51 : Int) : St := ⟨fill 43 [(2, (.int .i64 (x0))), (3, (.ptr 4 (0) (0))), (4, (.ptr 9 (0) (0))), (7, (.int .i64 (x1)))], [], [(.arr false (z2) (.r3 (l3))), (.arr false (z4) (.ints .i64 (l5))), (.arr false (z6) (.ints .i64 (l7))), (.arr false (z8) (.ints .i64 (l9))), (.box true [(.int .i64 (x10)), (.sl 0 none), (.sl 1 none), (.sl 2 none), (.sl 3 none), (.int .i64 (x11)), (.int .i64 (x12)), (.int .i64 (x13)), (.int .i64 (x14)), (.int .i64 (x15)), (.int .i64 (x16)), (.int .i64 (x17)), (.int .i64 (x18)), (.int .i64 (x19)), (.int .i64 (x20)), (.int .i64 (x21)), (.int .i64 (x22)), (.int .i64 (x23)), (.int .i64 (x24)), (.int .i64 (x25)), (.int .i64 (x26))]), (.arr false (z27) (.r3 (l28))), (.arr false (z29) (.ints .i64 (l30))), (.arr false (z31) (.ints .i64 (l32))), (.arr false (z33) (.ints .i64 (l34))), (.box true [(.int .i64 (x35)), (.sl 5 none), (.sl 6 none), (.sl 7 none), (.sl 8 none), (.int .i64 (x36)), (.int .i64 (x37)), (.int .i64 (x38)), (.int .i64 (x39)), (.int .i64 (x40)), (.int .i64 (x41)), (.int .i64 (x42)), (.int .i64 (x43)), (.int .i64 (x44)), (.int .i64 (x45)), (.int .i64 (x46)), (.int .i64 (x47)), (.int .i64 (x48)), (.int .i64 (x49)), (.int .i64 (x50)), (.int .i64 (x51))])]⟩
def qxb (x0 x1 : Int) (z2 : Bool) (l3 : List (Int × Int × Int)) (z4 : Bool) (l5 : List Int) (z6 : Bool) (l7 : List Int) (z8 : Bool) (l9 : List Int) (x10 x11 x12 x13 x14 x15 x16 x17 x18 x19 x20 x21 x22 x23 x24 x25 x26 : Int) (z27 : Bool) (l28 : List (Int × Int × Int)) (z29 : Bool) (l30 : List Int) (z31 : Bool) (l32 : List Int) (z33 : Bool) (l34 : List Int) (x35 x36 x37 x38 x39 x40 x41 x42 x43 x44 x45 x46 x47 x48 x49 x50 x51 : Int) : St := ⟨fill 43 [(2, (.int .i64 (x0))), (3, (.ptr 4 (0) (0))), (4, (.ptr 9 (0) (0))), (7, (.int .i64 (x1)))], [], [(.arr true (z2) (.r3 (l3))), (.arr true (z4) (.ints .i64 (l5))), (.arr true (z6) (.ints .i64 (l7))), (.arr true (z8) (.ints .i64 (l9))), (.box true [(.int .i64 (x10)), (.sl 0 none), (.sl 1 none), (.sl 2 none), (.sl 3 none), (.int .i64 (x11)), (.int .i64 (x12)), (.int .i64 (x13)), (.int .i64 (x14)), (.int .i64 (x15)), (.int .i64 (x16)), (.int .i64 (x17)), (.int .i64 (x18)), (.int .i64 (x19)), (.int .i64 (x20)), (.int .i64 (x21)), (.int .i64 (x22)), (.int .i64 (x23)), (.int .i64 (x24)), (.int .i64 (x25)), (.int .i64 (x26))]), (.arr true (z27) (.r3 (l28))), (.arr true (z29) (.ints .i64 (l30))), (.arr true (z31) (.ints .i64 (l32))), (.arr true (z33) (.ints .i64 (l34))), (.box true [(.int .i64 (x35)), (.sl 5 none), (.sl 6 none), (.sl 7 none), (.sl 8 none), (.int .i64 (x36)), (.int .i64 (x37)), (.int .i64 (x38)), (.int .i64 (x39)), (.int .i64 (x40)), (.int .i64 (x41)), (.int .i64 (x42)), (.int .i64 (x43)), (.int .i64 (x44)), (.int .i64 (x45)), (.int .i64 (x46)), (.int .i64 (x47)), (.int .i64 (x48)), (.int .i64 (x49)), (.int .i64 (x50)), (.int .i64 (x51))])]⟩
theorem qmj (k : Nat) (a0 : Int) (a1z : Bool) (a1 : List (Int × Int × Int)) (a2z : Bool) (a2 : List Int) (a3z : Bool) (a3 : List Int) (a4z : Bool) (a4 : List Int) (a5 a6 a7 a8 a9 a10 a11 a12 a13 a14 a15 a16 a17 a18 a19 a20 b0 : Int) (b1z : Bool) (b1 : List (Int × Int × Int)) (b2z : Bool) (b2 : List Int) (b3z : Bool) (b3 : List Int) (b4z : Bool) (b4 : List Int) (b5 b6 b7 b8 b9 b10 b11 b12 b13 b14 b15 b16 b17 b18 b19 b20 c : Int) : go (k + 1) spec_PartAt [(.agg [(.int .i64 (a0)), (.arr false (a1z) (.r3 (a1))), (.arr false (a2z) (.ints .i64 (a2))), (.arr false (a3z) (.ints .i64 (a3))), (.arr false (a4z) (.ints .i64 (a4))), (.int .i64 (a5)), (.int .i64 (a6)), (.int .i64 (a7)), (.int .i64 (a8)), (.int .i64 (a9)), (.int .i64 (a10)), (.int .i64 (a11)), (.int .i64 (a12)), (.int .i64 (a13)), (.int .i64 (a14)), (.int .i64 (a15)), (.int .i64 (a16)), (.int .i64 (a17)), (.int .i64 (a18)), (.int .i64 (a19)), (.int .i64 (a20))]), (.agg [(.int .i64 (b0)), (.arr false (b1z) (.r3 (b1))), (.arr false (b2z) (.ints .i64 (b2))), (.arr false (b3z) (.ints .i64 (b3))), (.arr false (b4z) (.ints .i64 (b4))), (.int .i64 (b5)), (.int .i64 (b6)), (.int .i64 (b7)), (.int .i64 (b8)), (.int .i64 (b9)), (.int .i64 (b10)), (.int .i64 (b11)), (.int .i64 (b12)), (.int .i64 (b13)), (.int .i64 (b14)), (.int .i64 (b15)), (.int .i64 (b16)), (.int .i64 (b17)), (.int .i64 (b18)), (.int .i64 (b19)), (.int .i64 (b20))]), (.int .i64 (c))] =
 (go k spec_WorldOk [(.agg [(.int .i64 (a0)), (.arr false (a1z) (.r3 (a1))), (.arr false (a2z) (.ints .i64 (a2))), (.arr false (a3z) (.ints .i64 (a3))), (.arr false (a4z) (.ints .i64 (a4))), (.int .i64 (a5)), (.int .i64 (a6)), (.int .i64 (a7)), (.int .i64 (a8)), (.int .i64 (a9)), (.int .i64 (a10)), (.int .i64 (a11)), (.int .i64 (a12)), (.int .i64 (a13)), (.int .i64 (a14)), (.int .i64 (a15)), (.int .i64 (a16)), (.int .i64 (a17)), (.int .i64 (a18)), (.int .i64 (a19)), (.int .i64 (a20))])]).bind fun r0 =>
 cond (!bit (nth r0 0))
 (some [(.int .i64 ((-2 : Int)))])
 ((go k spec_WorldOk [(.agg [(.int .i64 (b0)), (.arr false (b1z) (.r3 (b1))), (.arr false (b2z) (.ints .i64 (b2))), (.arr false (b3z) (.ints .i64 (b3))), (.arr false (b4z) (.ints .i64 (b4))), (.int .i64 (b5)), (.int .i64 (b6)), (.int .i64 (b7)), (.int .i64 (b8)), (.int .i64 (b9)), (.int .i64 (b10)), (.int .i64 (b11)), (.int .i64 (b12)), (.int .i64 (b13)), (.int .i64 (b14)), (.int .i64 (b15)), (.int .i64 (b16)), (.int .i64 (b17)), (.int .i64 (b18)), (.int .i64 (b19)), (.int .i64 (b20))])]).bind fun r1 =>
 cond (!bit (nth r1 0))
 (some [(.int .i64 ((-2 : Int)))])
 ((go k spec_l01In [(.int .i64 (c)), (.int .i64 (0 : Int)), (.int .i64 ((100 : Int)))]).bind fun r2 =>
 cond (!bit (nth r2 0))
 (some [(.int .i64 ((-2 : Int)))])
 (lp k spec_PartAt [] [] 4 k (qxa c (0 : Int) a1z a1 a2z a2 a3z a3 a4z a4 a0 a5 a6 a7 a8 a9 a10 a11 a12 a13 a14 a15 a16 a17 a18 a19 a20 b1z b1 b2z b2 b3z b3 b4z b4 b0 b5 b6 b7 b8 b9 b10 b11 b12 b13 b14 b15 b16 b17 b18 b19 b20)))) := by kernel_rfl
theorem qqi (k n : Nat) (fu : List (Nat × Nat)) (x0 x1 : Int) (z2 : Bool) (l3 : List (Int × Int × Int)) (z4 : Bool) (l5 : List Int) (z6 : Bool) (l7 : List Int) (z8 : Bool) (l9 : List Int) (x10 x11 x12 x13 x14 x15 x16 x17 x18 x19 x20 x21 x22 x23 x24 x25 x26 : Int) (z27 : Bool) (l28 : List (Int × Int × Int)) (z29 : Bool) (l30 : List Int) (z31 : Bool) (l32 : List Int) (z33 : Bool) (l34 : List Int) (x35 x36 x37 x38 x39 x40 x41 x42 x43 x44 x45 x46 x47 x48 x49 x50 x51 : Int) : lp k spec_PartAt [] fu 4 (n + 1) (qxa x0 x1 z2 l3 z4 l5 z6 l7 z8 l9 x10 x11 x12 x13 x14 x15 x16 x17 x18 x19 x20 x21 x22 x23 x24 x25 x26 z27 l28 z29 l30 z31 l32 z33 l34 x35 x36 x37 x38 x39 x40 x41 x42 x43 x44 x45 x46 x47 x48 x49 x50 x51) =
 cond (decide (x1 ≤ x0))
 ((go k spec_SameState [(.agg [(.int .i64 (x10)), (.arr false (z2) (.r3 (l3))), (.arr false (z4) (.ints .i64 (l5))), (.arr false (z6) (.ints .i64 (l7))), (.arr false (z8) (.ints .i64 (l9)))]), (.agg [(.int .i64 (x35)), (.arr false (z27) (.r3 (l28))), (.arr false (z29) (.ints .i64 (l30))), (.arr false (z31) (.ints .i64 (l32))), (.arr false (z33) (.ints .i64 (l34)))])]).bind fun r0 =>
 cond (!bit (nth r0 0))
 (some [(.int .i64 (x1))])
 ((go k spec_Advance [(.agg [(.int .i64 (x10)), (.arr false (z2) (.r3 (l3))), (.arr false (z4) (.ints .i64 (l5))), (.arr false (z6) (.ints .i64 (l7))), (.arr false (z8) (.ints .i64 (l9))), (.int .i64 (x11)), (.int .i64 (x12)), (.int .i64 (x13)), (.int .i64 (x14)), (.int .i64 (x15)), (.int .i64 (x16)), (.int .i64 (x17)), (.int .i64 (x18)), (.int .i64 (x19)), (.int .i64 (x20)), (.int .i64 (x21)), (.int .i64 (x22)), (.int .i64 (x23)), (.int .i64 (x24)), (.int .i64 (x25)), (.int .i64 (x26))]), (.int .i64 ((1 : Int)))]).bind fun r1 =>
 (go k spec_Advance [(.agg [(.int .i64 (x35)), (.arr false (z27) (.r3 (l28))), (.arr false (z29) (.ints .i64 (l30))), (.arr false (z31) (.ints .i64 (l32))), (.arr false (z33) (.ints .i64 (l34))), (.int .i64 (x36)), (.int .i64 (x37)), (.int .i64 (x38)), (.int .i64 (x39)), (.int .i64 (x40)), (.int .i64 (x41)), (.int .i64 (x42)), (.int .i64 (x43)), (.int .i64 (x44)), (.int .i64 (x45)), (.int .i64 (x46)), (.int .i64 (x47)), (.int .i64 (x48)), (.int .i64 (x49)), (.int .i64 (x50)), (.int .i64 (x51))]), (.int .i64 ((1 : Int)))]).bind fun r2 =>
 lp k spec_PartAt [] fu 4 n (qxb x0 (IntKind.wrap .i64 (x1 + (1 : Int))) (D.nil (D.cell 1 (nth r1 0))) (D.r3 (D.cell 1 (nth r1 0))) (D.nil (D.cell 2 (nth r1 0))) (D.ints (D.cell 2 (nth r1 0))) (D.nil (D.cell 3 (nth r1 0))) (D.ints (D.cell 3 (nth r1 0))) (D.nil (D.cell 4 (nth r1 0))) (D.ints (D.cell 4 (nth r1 0))) (D.toInt (D.cell 0 (nth r1 0))) (D.toInt (D.cell 5 (nth r1 0))) (D.toInt (D.cell 6 (nth r1 0))) (D.toInt (D.cell 7 (nth r1 0))) (D.toInt (D.cell 8 (nth r1 0))) (D.toInt (D.cell 9 (nth r1 0))) (D.toInt (D.cell 10 (nth r1 0))) (D.toInt (D.cell 11 (nth r1 0))) (D.toInt (D.cell (12 : Nat) (nth r1 0))) (D.toInt (D.cell (13 : Nat) (nth r1 0))) (D.toInt (D.cell (14 : Nat) (nth r1 0))) (D.toInt (D.cell (15 : Nat) (nth r1 0))) (D.toInt (D.cell (16 : Nat) (nth r1 0))) (D.toInt (D.cell (17 : Nat) (nth r1 0))) (D.toInt (D.cell (18 : Nat) (nth r1 0))) (D.toInt (D.cell (19 : Nat) (nth r1 0))) (D.toInt (D.cell (20 : Nat) (nth r1 0))) (D.nil (D.cell 1 (nth r2 0))) (D.r3 (D.cell 1 (nth r2 0))) (D.nil (D.cell 2 (nth r2 0))) (D.ints (D.cell 2 (nth r2 0))) (D.nil (D.cell 3 (nth r2 0))) (D.ints (D.cell 3 (nth r2 0))) (D.nil (D.cell 4 (nth r2 0))) (D.ints (D.cell 4 (nth r2 0))) (D.toInt (D.cell 0 (nth r2 0))) (D.toInt (D.cell 5 (nth r2 0))) (D.toInt (D.cell 6 (nth r2 0))) (D.toInt (D.cell 7 (nth r2 0))) (D.toInt (D.cell 8 (nth r2 0))) (D.toInt (D.cell 9 (nth r2 0))) (D.toInt (D.cell 10 (nth r2 0))) (D.toInt (D.cell 11 (nth r2 0))) (D.toInt (D.cell (12 : Nat) (nth r2 0))) (D.toInt (D.cell (13 : Nat) (nth r2 0))) (D.toInt (D.cell (14 : Nat) (nth r2 0))) (D.toInt (D.cell (15 : Nat) (nth r2 0))) (D.toInt (D.cell (16 : Nat) (nth r2 0))) (D.toInt (D.cell (17 : Nat) (nth r2 0))) (D.toInt (D.cell (18 : Nat) (nth r2 0))) (D.toInt (D.cell (19 : Nat) (nth r2 0))) (D.toInt (D.cell (20 : Nat) (nth r2 0))))))
 (some [(.int .i64 ((-1 : Int)))]) := by kernel_rfl
theorem qqj (k n : Nat) (fu : List (Nat × Nat)) (x0 x1 : Int) (z2 : Bool) (l3 : List (Int × Int × Int)) (z4 : Bool) (l5 : List Int) (z6 : Bool) (l7 : List Int) (z8 : Bool) (l9 : List Int) (x10 x11 x12 x13 x14 x15 x16 x17 x18 x19 x20 x21 x22 x23 x24 x25 x26 : Int) (z27 : Bool) (l28 : List (Int × Int × Int)) (z29 : Bool) (l30 : List Int) (z31 : Bool) (l32 : List Int) (z33 : Bool) (l34 : List Int) (x35 x36 x37 x38 x39 x40 x41 x42 x43 x44 x45 x46 x47 x48 x49 x50 x51 : Int) : lp k spec_PartAt [] fu 4 (n + 1) (qxb x0 x1 z2 l3 z4 l5 z6 l7 z8 l9 x10 x11 x12 x13 x14 x15 x16 x17 x18 x19 x20 x21 x22 x23 x24 x25 x26 z27 l28 z29 l30 z31 l32 z33 l34 x35 x36 x37 x38 x39 x40 x41 x42 x43 x44 x45 x46 x47 x48 x49 x50 x51) =
 cond (decide (x1 ≤ x0))
 ((go k spec_SameState [(.agg [(.int .i64 (x10)), (.arr false (z2) (.r3 (l3))), (.arr false (z4) (.ints .i64 (l5))), (.arr false (z6) (.ints .i64 (l7))), (.arr false (z8) (.ints .i64 (l9)))]), (.agg [(.int .i64 (x35)), (.arr false (z27) (.r3 (l28))), (.arr false (z29) (.ints .i64 (l30))), (.arr false (z31) (.ints .i64 (l32))), (.arr false (z33) (.ints .i64 (l34)))])]).bind fun r0 =>
 cond (!bit (nth r0 0))
 (some [(.int .i64 (x1))])
 ((go k spec_Advance [(.agg [(.int .i64 (x10)), (.arr false (z2) (.r3 (l3))), (.arr false (z4) (.ints .i64 (l5))), (.arr false (z6) (.ints .i64 (l7))), (.arr false (z8) (.ints .i64 (l9))), (.int .i64 (x11)), (.int .i64 (x12)), (.int .i64 (x13)), (.int .i64 (x14)), (.int .i64 (x15)), (.int .i64 (x16)), (.int .i64 (x17)), (.int .i64 (x18)), (.int .i64 (x19)), (.int .i64 (x20)), (.int .i64 (x21)), (.int .i64 (x22)), (.int .i64 (x23)), (.int .i64 (x24)), (.int .i64 (x25)), (.int .i64 (x26))]), (.int .i64 ((1 : Int)))]).bind fun r1 =>
 (go k spec_Advance [(.agg [(.int .i64 (x35)), (.arr false (z27) (.r3 (l28))), (.arr false (z29) (.ints .i64 (l30))), (.arr false (z31) (.ints .i64 (l32))), (.arr false (z33) (.ints .i64 (l34))), (.int .i64 (x36)), (.int .i64 (x37)), (.int .i64 (x38)), (.int .i64 (x39)), (.int .i64 (x40)), (.int .i64 (x41)), (.int .i64 (x42)), (.int .i64 (x43)), (.int .i64 (x44)), (.int .i64 (x45)), (.int .i64 (x46)), (.int .i64 (x47)), (.int .i64 (x48)), (.int .i64 (x49)), (.int .i64 (x50)), (.int .i64 (x51))]), (.int .i64 ((1 : Int)))]).bind fun r2 =>
 lp k spec_PartAt [] fu 4 n (qxb x0 (IntKind.wrap .i64 (x1 + (1 : Int))) (D.nil (D.cell 1 (nth r1 0))) (D.r3 (D.cell 1 (nth r1 0))) (D.nil (D.cell 2 (nth r1 0))) (D.ints (D.cell 2 (nth r1 0))) (D.nil (D.cell 3 (nth r1 0))) (D.ints (D.cell 3 (nth r1 0))) (D.nil (D.cell 4 (nth r1 0))) (D.ints (D.cell 4 (nth r1 0))) (D.toInt (D.cell 0 (nth r1 0))) (D.toInt (D.cell 5 (nth r1 0))) (D.toInt (D.cell 6 (nth r1 0))) (D.toInt (D.cell 7 (nth r1 0))) (D.toInt (D.cell 8 (nth r1 0))) (D.toInt (D.cell 9 (nth r1 0))) (D.toInt (D.cell 10 (nth r1 0))) (D.toInt (D.cell 11 (nth r1 0))) (D.toInt (D.cell (12 : Nat) (nth r1 0))) (D.toInt (D.cell (13 : Nat) (nth r1 0))) (D.toInt (D.cell (14 : Nat) (nth r1 0))) (D.toInt (D.cell (15 : Nat) (nth r1 0))) (D.toInt (D.cell (16 : Nat) (nth r1 0))) (D.toInt (D.cell (17 : Nat) (nth r1 0))) (D.toInt (D.cell (18 : Nat) (nth r1 0))) (D.toInt (D.cell (19 : Nat) (nth r1 0))) (D.toInt (D.cell (20 : Nat) (nth r1 0))) (D.nil (D.cell 1 (nth r2 0))) (D.r3 (D.cell 1 (nth r2 0))) (D.nil (D.cell 2 (nth r2 0))) (D.ints (D.cell 2 (nth r2 0))) (D.nil (D.cell 3 (nth r2 0))) (D.ints (D.cell 3 (nth r2 0))) (D.nil (D.cell 4 (nth r2 0))) (D.ints (D.cell 4 (nth r2 0))) (D.toInt (D.cell 0 (nth r2 0))) (D.toInt (D.cell 5 (nth r2 0))) (D.toInt (D.cell 6 (nth r2 0))) (D.toInt (D.cell 7 (nth r2 0))) (D.toInt (D.cell 8 (nth r2 0))) (D.toInt (D.cell 9 (nth r2 0))) (D.toInt (D.cell 10 (nth r2 0))) (D.toInt (D.cell 11 (nth r2 0))) (D.toInt (D.cell (12 : Nat) (nth r2 0))) (D.toInt (D.cell (13 : Nat) (nth r2 0))) (D.toInt (D.cell (14 : Nat) (nth r2 0))) (D.toInt (D.cell (15 : Nat) (nth r2 0))) (D.toInt (D.cell (16 : Nat) (nth r2 0))) (D.toInt (D.cell (17 : Nat) (nth r2 0))) (D.toInt (D.cell (18 : Nat) (nth r2 0))) (D.toInt (D.cell (19 : Nat) (nth r2 0))) (D.toInt (D.cell (20 : Nat) (nth r2 0))))))
 (some [(.int .i64 ((-1 : Int)))]) := by kernel_rfl
def qv3 (x0 x1 : Int) (z2 : Bool) (l3 : List (Int × Int × Int)) (z4 : Bool) (l5 : List Int) (z6 : Bool) (l7 : List Int) (z8 : Bool) (l9 : List Int) (x10 x11 x12 x13 x14 x15 x16 x17 x18 x19 x20 x21 x22 x23 x24 x25 x26 : Int) (z27 : Bool) (l28 : List (Int × Int × Int)) (z29 : Bool) (l30 : List Int) (z31 : Bool) (l32 : List Int) (z33 : Bool) (l34 : List Int) (x35 x36 x37 x38 x39 x40 x41 x42 x43 x44 x45 x46 x47 x48 x49 x50 x51 : Int) : St := ⟨fill 44 [(3, (.ptr 4 (0) (0))), (4, (.ptr 9 (0) (0))), (22, (.int .i64 (x0))), (23, (.int .i64 (x1)))], [], [(.arr false (z2) (.r3 (l3))), (.arr false (z4) (.ints .i64 (l5))), (.arr false (z6) (.ints .i64 (l7))), (.arr false (z8) (.ints .i64 (l9))), (.box true [(.int .i64 (x10)), (.sl 0 none), (.sl 1 none), (.sl 2 none), (.sl 3 none), (.int .i64 (x11)), (.int .i64 (x12)), (.int .i64 (x13)), (.int .i64 (x14)), (.int .i64 (x15)), (.int .i64 (x16)), (.int .i64 (x17)), (.int .i64 (x18)), (.int .i64 (x19)), (.int .i64 (x20)), (.int .i64 (x21)), (.int .i64 (x22)), (.int .i64 (x23)), (.int .i64 (x24)), (.int .i64 (x25)), (.int .i64 (x26))]), (.arr false (z27) (.r3 (l28))), (.arr false (z29) (.ints .i64 (l30))), (.arr false (z31) (.ints .i64 (l32))), (.arr false (z33) (.ints .i64 (l34))), (.box true [(.int .i64 (x35)), (.sl 5 none), (.sl 6 none), (.sl 7 none), (.sl 8 none), (.int .i64 (x36)), (.int .i64 (x37)), (.int .i64 (x38)), (.int .i64 (x39)), (.int .i64 (x40)), (.int .i64 (x41)), (.int .i64 (x42)), (.int .i64 (x43)), (.int .i64 (x44)), (.int .i64 (x45)), (.int .i64 (x46)), (.int .i64 (x47)), (.int .i64 (x48)), (.int .i64 (x49)), (.int .i64 (x50)), (.int .i64 (x51))])]⟩
def qv4 (x0 x1 : Int) (z2 : Bool) (l3 : List (Int × Int × Int)) (z4 : Bool) (l5 : List Int) (z6 : Bool) (l7 : List Int) (z8 : Bool) (l9 : List Int) (x10 x11 x12 x13 x14 x15 x16 x17 x18 x19 x20 x21 x22 x23 x24 x25 x26 : Int) (z27 : Bool) (l28 : List (Int × Int × Int)) (z29 : Bool) (l30 : List Int) (z31 : Bool) (l32 : List Int) (z33 : Bool) (l34 : List Int) (x35 x36 x37 x38 x39 x40 x41 x42 x43 x44 x45 x46 x47 x48 x49 x50 x51 : Int) : St := ⟨fill 44 [(3, (.ptr 4 (0) (0))), (4, (.ptr 9 (0) (0))), (22, (.int .i64 (x0))), (23, (.int .i64 (x1)))], [], [(.arr true (z2) (.r3 (l3))), (.arr true (z4) (.ints .i64 (l5))), (.arr true (z6) (.ints .i64 (l7))), (.arr true (z8) (.ints .i64 (l9))), (.box true [(.int .i64 (x10)), (.sl 0 none), (.sl 1 none), (.sl 2 none), (.sl 3 none), (.int .i64 (x11)), (.int .i64 (x12)), (.int .i64 (x13)), (.int .i64 (x14)), (.int .i64 (x15)), (.int .i64 (x16)), (.int .i64 (x17)), (.int .i64 (x18)), (.int .i64 (x19)), (.int .i64 (x20)), (.int .i64 (x21)), (.int .i64 (x22)), (.int .i64 (x23)), (.int .i64 (x24)), (.int .i64 (x25)), (.int .i64 (x26))]), (.arr true (z27) (.r3 (l28))), (.arr true (z29) (.ints .i64 (l30))), (.arr true (z31) (.ints .i64 (l32))), (.arr true (z33) (.ints .i64 (l34))), (.box true [(.int .i64 (x35)), (.sl 5 none), (.sl 6 none), (.sl 7 none), (.sl 8 none), (.int .i64 (x36)), (.int .i64 (x37)), (.int .i64 (x38)), (.int .i64 (x39)), (.int .i64 (x40)), (.int .i64 (x41)), (.int .i64 (x42)), (.int .i64 (x43)), (.int .i64 (x44)), (.int .i64 (x45)), (.int .i64 (x46)), (.int .i64 (x47)), (.int .i64 (x48)), (.int .i64 (x49)), (.int .i64 (x50)), (.int .i64 (x51))])]⟩
theorem qi2 (k : Nat) (a0 : Int) (a1z : Bool) (a1 : List (Int × Int × Int)) (a2z : Bool) (a2 : List Int) (a3z : Bool) (a3 : List Int) (a4z : Bool) (a4 : List Int) (a5 a6 a7 a8 a9 a10 a11 a12 a13 a14 a15 a16 a17 a18 a19 a20 b0 : Int) (b1z : Bool) (b1 : List (Int × Int × Int)) (b2z : Bool) (b2 : List Int) (b3z : Bool) (b3 : List Int) (b4z : Bool) (b4 : List Int) (b5 b6 b7 b8 b9 b10 b11 b12 b13 b14 b15 b16 b17 b18 b19 b20 c : Int) : go (k + 1) impl_PartAt [(.agg [(.int .i64 (a0)), (.arr false (a1z) (.r3 (a1))), (.arr false (a2z) (.ints .i64 (a2))), (.arr false (a3z) (.ints .i64 (a3))), (.arr false (a4z) (.ints .i64 (a4))), (.int .i64 (a5)), (.int .i64 (a6)), (.int .i64 (a7)), (.int .i64 (a8)), (.int .i64 (a9)), (.int .i64 (a10)), (.int .i64 (a11)), (.int .i64 (a12)), (.int .i64 (a13)), (.int .i64 (a14)), (.int .i64 (a15)), (.int .i64 (a16)), (.int .i64 (a17)), (.int .i64 (a18)), (.int .i64 (a19)), (.int .i64 (a20))]), (.agg [(.int .i64 (b0)), (.arr false (b1z) (.r3 (b1))), (.arr false (b2z) (.ints .i64 (b2))), (.arr false (b3z) (.ints .i64 (b3))), (.arr false (b4z) (.ints .i64 (b4))), (.int .i64 (b5)), (.int .i64 (b6)), (.int .i64 (b7)), (.int .i64 (b8)), (.int .i64 (b9)), (.int .i64 (b10)), (.int .i64 (b11)), (.int .i64 (b12)), (.int .i64 (b13)), (.int .i64 (b14)), (.int .i64 (b15)), (.int .i64 (b16)), (.int .i64 (b17)), (.int .i64 (b18)), (.int .i64 (b19)), (.int .i64 (b20))]), (.int .i64 (c))] =
 (go k impl_WorldOk [(.agg [(.int .i64 (a0)), (.arr false (a1z) (.r3 (a1))), (.arr false (a2z) (.ints .i64 (a2))), (.arr false (a3z) (.ints .i64 (a3))), (.arr false (a4z) (.ints .i64 (a4))), (.int .i64 (a5)), (.int .i64 (a6)), (.int .i64 (a7)), (.int .i64 (a8)), (.int .i64 (a9)), (.int .i64 (a10)), (.int .i64 (a11)), (.int .i64 (a12)), (.int .i64 (a13)), (.int .i64 (a14)), (.int .i64 (a15)), (.int .i64 (a16)), (.int .i64 (a17)), (.int .i64 (a18)), (.int .i64 (a19)), (.int .i64 (a20))])]).bind fun r0 =>
 cond (!bit (nth r0 0))
 (some [(.int .i64 ((-2 : Int)))])
 ((go k impl_WorldOk [(.agg [(.int .i64 (b0)), (.arr false (b1z) (.r3 (b1))), (.arr false (b2z) (.ints .i64 (b2))), (.arr false (b3z) (.ints .i64 (b3))), (.arr false (b4z) (.ints .i64 (b4))), (.int .i64 (b5)), (.int .i64 (b6)), (.int .i64 (b7)), (.int .i64 (b8)), (.int .i64 (b9)), (.int .i64 (b10)), (.int .i64 (b11)), (.int .i64 (b12)), (.int .i64 (b13)), (.int .i64 (b14)), (.int .i64 (b15)), (.int .i64 (b16)), (.int .i64 (b17)), (.int .i64 (b18)), (.int .i64 (b19)), (.int .i64 (b20))])]).bind fun r1 =>
 cond (!bit (nth r1 0))
 (some [(.int .i64 ((-2 : Int)))])
 ((go k impl_within [(.int .i64 (c)), (.int .i64 (0 : Int)), (.int .i64 ((100 : Int)))]).bind fun r2 =>
 cond (!bit (nth r2 0))
 (some [(.int .i64 ((-2 : Int)))])
 (lp k impl_PartAt [] [] 4 k (qv3 (IntKind.wrap .i64 (c + (1 : Int))) (0 : Int) a1z a1 a2z a2 a3z a3 a4z a4 a0 a5 a6 a7 a8 a9 a10 a11 a12 a13 a14 a15 a16 a17 a18 a19 a20 b1z b1 b2z b2 b3z b3 b4z b4 b0 b5 b6 b7 b8 b9 b10 b11 b12 b13 b14 b15 b16 b17 b18 b19 b20)))) := by kernel_rfl
theorem qpb (k n : Nat) (fu : List (Nat × Nat)) (x0 x1 : Int) (z2 : Bool) (l3 : List (Int × Int × Int)) (z4 : Bool) (l5 : List Int) (z6 : Bool) (l7 : List Int) (z8 : Bool) (l9 : List Int) (x10 x11 x12 x13 x14 x15 x16 x17 x18 x19 x20 x21 x22 x23 x24 x25 x26 : Int) (z27 : Bool) (l28 : List (Int × Int × Int)) (z29 : Bool) (l30 : List Int) (z31 : Bool) (l32 : List Int) (z33 : Bool) (l34 : List Int) (x35 x36 x37 x38 x39 x40 x41 x42 x43 x44 x45 x46 x47 x48 x49 x50 x51 : Int) : lp k impl_PartAt [] fu 4 (n + 1) (qv3 x0 x1 z2 l3 z4 l5 z6 l7 z8 l9 x10 x11 x12 x13 x14 x15 x16 x17 x18 x19 x20 x21 x22 x23 x24 x25 x26 z27 l28 z29 l30 z31 l32 z33 l34 x35 x36 x37 x38 x39 x40 x41 x42 x43 x44 x45 x46 x47 x48 x49 x50 x51) =
 cond (decide (x1 < x0))
 ((go k impl_SameState [(.agg [(.int .i64 (x10)), (.arr false (z2) (.r3 (l3))), (.arr false (z4) (.ints .i64 (l5))), (.arr false (z6) (.ints .i64 (l7))), (.arr false (z8) (.ints .i64 (l9)))]), (.agg [(.int .i64 (x35)), (.arr false (z27) (.r3 (l28))), (.arr false (z29) (.ints .i64 (l30))), (.arr false (z31) (.ints .i64 (l32))), (.arr false (z33) (.ints .i64 (l34)))])]).bind fun r0 =>
 cond (!bit (nth r0 0))
 (some [(.int .i64 (x1))])
 ((go k impl_Advance [(.agg [(.int .i64 (x10)), (.arr false (z2) (.r3 (l3))), (.arr false (z4) (.ints .i64 (l5))), (.arr false (z6) (.ints .i64 (l7))), (.arr false (z8) (.ints .i64 (l9))), (.int .i64 (x11)), (.int .i64 (x12)), (.int .i64 (x13)), (.int .i64 (x14)), (.int .i64 (x15)), (.int .i64 (x16)), (.int .i64 (x17)), (.int .i64 (x18)), (.int .i64 (x19)), (.int .i64 (x20)), (.int .i64 (x21)), (.int .i64 (x22)), (.int .i64 (x23)), (.int .i64 (x24)), (.int .i64 (x25)), (.int .i64 (x26))]), (.int .i64 ((1 : Int)))]).bind fun r1 =>
 (go k impl_Advance [(.agg [(.int .i64 (x35)), (.arr false (z27) (.r3 (l28))), (.arr false (z29) (.ints .i64 (l30))), (.arr false (z31) (.ints .i64 (l32))), (.arr false (z33) (.ints .i64 (l34))), (.int .i64 (x36)), (.int .i64 (x37)), (.int .i64 (x38)), (.int .i64 (x39)), (.int .i64 (x40)), (.int .i64 (x41)), (.int .i64 (x42)), (.int .i64 (x43)), (.int .i64 (x44)), (.int .i64 (x45)), (.int .i64 (x46)), (.int .i64 (x47)), (.int .i64 (x48)), (.int .i64 (x49)), (.int .i64 (x50)), (.int .i64 (x51))]), (.int .i64 ((1 : Int)))]).bind fun r2 =>
 lp k impl_PartAt [] fu 4 n (qv4 x0 (IntKind.wrap .i64 (x1 + (1 : Int))) (D.nil (D.cell 1 (nth r1 0))) (D.r3 (D.cell 1 (nth r1 0))) (D.nil (D.cell 2 (nth r1 0))) (D.ints (D.cell 2 (nth r1 0))) (D.nil (D.cell 3 (nth r1 0))) (D.ints (D.cell 3 (nth r1 0))) (D.nil (D.cell 4 (nth r1 0))) (D.ints (D.cell 4 (nth r1 0))) (D.toInt (D.cell 0 (nth r1 0))) (D.toInt (D.cell 5 (nth r1 0))) (D.toInt (D.cell 6 (nth r1 0))) (D.toInt (D.cell 7 (nth r1 0))) (D.toInt (D.cell 8 (nth r1 0))) (D.toInt (D.cell 9 (nth r1 0))) (D.toInt (D.cell 10 (nth r1 0))) (D.toInt (D.cell 11 (nth r1 0))) (D.toInt (D.cell (12 : Nat) (nth r1 0))) (D.toInt (D.cell (13 : Nat) (nth r1 0))) (D.toInt (D.cell (14 : Nat) (nth r1 0))) (D.toInt (D.cell (15 : Nat) (nth r1 0))) (D.toInt (D.cell (16 : Nat) (nth r1 0))) (D.toInt (D.cell (17 : Nat) (nth r1 0))) (D.toInt (D.cell (18 : Nat) (nth r1 0))) (D.toInt (D.cell (19 : Nat) (nth r1 0))) (D.toInt (D.cell (20 : Nat) (nth r1 0))) (D.nil (D.cell 1 (nth r2 0))) (D.r3 (D.cell 1 (nth r2 0))) (D.nil (D.cell 2 (nth r2 0))) (D.ints (D.cell 2 (nth r2 0))) (D.nil (D.cell 3 (nth r2 0))) (D.ints (D.cell 3 (nth r2 0))) (D.nil (D.cell 4 (nth r2 0))) (D.ints (D.cell 4 (nth r2 0))) (D.toInt (D.cell 0 (nth r2 0))) (D.toInt (D.cell 5 (nth r2 0))) (D.toInt (D.cell 6 (nth r2 0))) (D.toInt (D.cell 7 (nth r2 0))) (D.toInt (D.cell 8 (nth r2 0))) (D.toInt (D.cell 9 (nth r2 0))) (D.toInt (D.cell 10 (nth r2 0))) (D.toInt (D.cell 11 (nth r2 0))) (D.toInt (D.cell (12 : Nat) (nth r2 0))) (D.toInt (D.cell (13 : Nat) (nth r2 0))) (D.toInt (D.cell (14 : Nat) (nth r2 0))) (D.toInt (D.cell (15 : Nat) (nth r2 0))) (D.toInt (D.cell (16 : Nat) (nth r2 0))) (D.toInt (D.cell (17 : Nat) (nth r2 0))) (D.toInt (D.cell (18 : Nat) (nth r2 0))) (D.toInt (D.cell (19 : Nat) (nth r2 0))) (D.toInt (D.cell (20 : Nat) (nth r2 0))))))
 (some [(.int .i64 ((-1 : Int)))]) := by kernel_rfl
theorem qpc (k n : Nat) (fu : List (Nat × Nat)) (x0 x1 : Int) (z2 : Bool) (l3 : List (Int × Int × Int)) (z4 : Bool) (l5 : List Int) (z6 : Bool) (l7 : List Int) (z8 : Bool) (l9 : List Int) (x10 x11 x12 x13 x14 x15 x16 x17 x18 x19 x20 x21 x22 x23 x24 x25 x26 : Int) (z27 : Bool) (l28 : List (Int × Int × Int)) (z29 : Bool) (l30 : List Int) (z31 : Bool) (l32 : List Int) (z33 : Bool) (l34 : List Int) (x35 x36 x37 x38 x39 x40 x41 x42 x43 x44 x45 x46 x47 x48 x49 x50 x51 : Int) : lp k impl_PartAt [] fu 4 (n + 1) (qv4 x0 x1 z2 l3 z4 l5 z6 l7 z8 l9 x10 x11 x12 x13 x14 x15 x16 x17 x18 x19 x20 x21 x22 x23 x24 x25 x26 z27 l28 z29 l30 z31 l32 z33 l34 x35 x36 x37 x38 x39 x40 x41 x42 x43 x44 x45 x46 x47 x48 x49 x50 x51) =
 cond (decide (x1 < x0))
 ((go k impl_SameState [(.agg [(.int .i64 (x10)), (.arr false (z2) (.r3 (l3))), (.arr false (z4) (.ints .i64 (l5))), (.arr false (z6) (.ints .i64 (l7))), (.arr false (z8) (.ints .i64 (l9)))]), (.agg [(.int .i64 (x35)), (.arr false (z27) (.r3 (l28))), (.arr false (z29) (.ints .i64 (l30))), (.arr false (z31) (.ints .i64 (l32))), (.arr false (z33) (.ints .i64 (l34)))])]).bind fun r0 =>
 cond (!bit (nth r0 0))
 (some [(.int .i64 (x1))])
 ((go k impl_Advance [(.agg [(.int .i64 (x10)), (.arr false (z2) (.r3 (l3))), (.arr false (z4) (.ints .i64 (l5))), (.arr false (z6) (.ints .i64 (l7))), (.arr false (z8) (.ints .i64 (l9))), (.int .i64 (x11)), (.int .i64 (x12)), (.int .i64 (x13)), (.int .i64 (x14)), (.int .i64 (x15)), (.int .i64 (x16)), (.int .i64 (x17)), (.int .i64 (x18)), (.int .i64 (x19)), (.int .i64 (x20)), (.int .i64 (x21)), (.int .i64 (x22)), (.int .i64 (x23)), (.int .i64 (x24)), (.int .i64 (x25)), (.int .i64 (x26))]), (.int .i64 ((1 : Int)))]).bind fun r1 =>
 (go k impl_Advance [(.agg [(.int .i64 (x35)), (.arr false (z27) (.r3 (l28))), (.arr false (z29) (.ints .i64 (l30))), (.arr false (z31) (.ints .i64 (l32))), (.arr false (z33) (.ints .i64 (l34))), (.int .i64 (x36)), (.int .i64 (x37)), (.int .i64 (x38)), (.int .i64 (x39)), (.int .i64 (x40)), (.int .i64 (x41)), (.int .i64 (x42)), (.int .i64 (x43)), (.int .i64 (x44)), (.int .i64 (x45)), (.int .i64 (x46)), (.int .i64 (x47)), (.int .i64 (x48)), (.int .i64 (x49)), (.int .i64 (x50)), (.int .i64 (x51))]), (.int .i64 ((1 : Int)))]).bind fun r2 =>
 lp k impl_PartAt [] fu 4 n (qv4 x0 (IntKind.wrap .i64 (x1 + (1 : Int))) (D.nil (D.cell 1 (nth r1 0))) (D.r3 (D.cell 1 (nth r1 0))) (D.nil (D.cell 2 (nth r1 0))) (D.ints (D.cell 2 (nth r1 0))) (D.nil (D.cell 3 (nth r1 0))) (D.ints (D.cell 3 (nth r1 0))) (D.nil (D.cell 4 (nth r1 0))) (D.ints (D.cell 4 (nth r1 0))) (D.toInt (D.cell 0 (nth r1 0))) (D.toInt (D.cell 5 (nth r1 0))) (D.toInt (D.cell 6 (nth r1 0))) (D.toInt (D.cell 7 (nth r1 0))) (D.toInt (D.cell 8 (nth r1 0))) (D.toInt (D.cell 9 (nth r1 0))) (D.toInt (D.cell 10 (nth r1 0))) (D.toInt (D.cell 11 (nth r1 0))) (D.toInt (D.cell (12 : Nat) (nth r1 0))) (D.toInt (D.cell (13 : Nat) (nth r1 0))) (D.toInt (D.cell (14 : Nat) (nth r1 0))) (D.toInt (D.cell (15 : Nat) (nth r1 0))) (D.toInt (D.cell (16 : Nat) (nth r1 0))) (D.toInt (D.cell (17 : Nat) (nth r1 0))) (D.toInt (D.cell (18 : Nat) (nth r1 0))) (D.toInt (D.cell (19 : Nat) (nth r1 0))) (D.toInt (D.cell (20 : Nat) (nth r1 0))) (D.nil (D.cell 1 (nth r2 0))) (D.r3 (D.cell 1 (nth r2 0))) (D.nil (D.cell 2 (nth r2 0))) (D.ints (D.cell 2 (nth r2 0))) (D.nil (D.cell 3 (nth r2 0))) (D.ints (D.cell 3 (nth r2 0))) (D.nil (D.cell 4 (nth r2 0))) (D.ints (D.cell 4 (nth r2 0))) (D.toInt (D.cell 0 (nth r2 0))) (D.toInt (D.cell 5 (nth r2 0))) (D.toInt (D.cell 6 (nth r2 0))) (D.toInt (D.cell 7 (nth r2 0))) (D.toInt (D.cell 8 (nth r2 0))) (D.toInt (D.cell 9 (nth r2 0))) (D.toInt (D.cell 10 (nth r2 0))) (D.toInt (D.cell 11 (nth r2 0))) (D.toInt (D.cell (12 : Nat) (nth r2 0))) (D.toInt (D.cell (13 : Nat) (nth r2 0))) (D.toInt (D.cell (14 : Nat) (nth r2 0))) (D.toInt (D.cell (15 : Nat) (nth r2 0))) (D.toInt (D.cell (16 : Nat) (nth r2 0))) (D.toInt (D.cell (17 : Nat) (nth r2 0))) (D.toInt (D.cell (18 : Nat) (nth r2 0))) (D.toInt (D.cell (19 : Nat) (nth r2 0))) (D.toInt (D.cell (20 : Nat) (nth r2 0))))))
 (some [(.int .i64 ((-1 : Int)))]) := by kernel_rfl

end Go.Proofs.YtoldpdhhfmlckaaGreat
end
section
namespace Go.Proofs.YtoldpdhhfmlckaaGreat
open Go.Ev
set_option maxRecDepth 20000
theorem qay {w : Wd} (h : Sml w) (n : Int) : Sml (adv w n) := by
  unfold adv
  cases g : qav w n
  · exact h
  · simp only [qav, Bool.and_eq_true] at g
    exact ((qau n.toNat w 0 (wdF g.1).adv).F).sml
def samW (a b : Wd) : Bool := qxv a.r b.r a.s.1 b.s.1 a.s.2.1 a.s.2.2 a.b b.s.2.1 b.s.2.2 b.b
def prtN : Nat → Int → Wd → Wd → Int
  | 0, i, a, b => -1
  | n + 1, i, a, b => cond (samW a b) (prtN n (i + 1) (adv a 1) (adv b 1)) i
set_option maxHeartbeats 2000000 in
theorem qrs (k : Nat) (hk : 2000000 ≤ k) (fu : List (Nat × Nat)) (c : Int) (hc : 0 ≤ c ∧ c ≤ 100) : ∀ (N n i : Nat) (a b : Wd), (i : Int) + n = c + 1 → n < N → Sml a → Sml b →
    lp (k + 12) impl_PartAt [] fu 4 (N) (qv4 (c + 1) (i : Int) false a.s.1 false a.s.2.1 false a.s.2.2 false a.b a.r a.p.bi a.p.bs a.p.bo a.p.rain a.p.loss a.p.dec a.p.high a.p.low a.p.every a.k a.ld.mi a.ld.mo a.ld.ti a.ld.ou a.f a.g false b.s.1 false b.s.2.1 false b.s.2.2 false b.b b.r b.p.bi b.p.bs b.p.bo b.p.rain b.p.loss b.p.dec b.p.high b.p.low b.p.every b.k b.ld.mi b.ld.mo b.ld.ti b.ld.ou b.f b.g) = some [.int .i64 (prtN n i a b)]
  | 0, n, i, a, b, hi, hN, S, T => by omega
  | N + 1, 0, i, a, b, hi, hN, S, T => by
    rw [qpc]
    simp (disch := omega) only [dF, bit, qgr, q0f, qhl]; rfl
  | N + 1, n + 1, i, a, b, hi, hN, S, T => by
    rw [qpc]
    have eS := qb4 (k + 9) (by omega) a.r false a.s.1 false a.s.2.1 false a.s.2.2 false a.b b.r false b.s.1 false b.s.2.1 false b.s.2.2 false b.b S.h1 S.h2 S.h3 S.h4
    rw [show qxv a.r b.r a.s.1 b.s.1 a.s.2.1 a.s.2.2 a.b b.s.2.1 b.s.2.2 b.b = samW a b from rfl] at eS
    unfold prtN
    cases g : samW a b
    · rw [g] at eS
      simp (disch := omega) only [dT, eS, bit, qgr, q0f, qa2, nth0, qzn, Bool.not_false, qhn, qhl]
    rw [g] at eS
    have eA := qbd k (by omega) a 1 S
    have eB := qbd k (by omega) b 1 T
    have IH := qrs k hk fu c hc N n (i + 1) (adv a 1) (adv b 1) (by omega) (by omega) (qay S 1) (qay T 1)
    rw [show ((i + 1 : Nat) : Int) = (i : Int) + 1 from rfl] at IH
    simp (disch := omega) only [dT, eS, bit, eA, eB, qgr, q0f, qa2, nth0, qgu, qt9, quz, qg5, qoq, qg7, qg8, qgt, qzo, qg9, qha, qhb, qhc, qhd, qgv, qgw, qgx, qgy, qgz, qg0, qg1, qg2, qg3, qg4, qg6, qzn, Bool.not_true, qhl, qhn]
    exact IH
set_option maxHeartbeats 2000000 in
theorem qsv (k : Nat) (hk : 2000000 ≤ k) (fu : List (Nat × Nat)) (c : Int) (hc : 0 ≤ c ∧ c ≤ 100) : ∀ (N n i : Nat) (a b : Wd), (i : Int) + n = c + 1 → n < N → Sml a → Sml b →
    lp (k + 9) spec_PartAt [] fu 4 (N) (qxb c (i : Int) false a.s.1 false a.s.2.1 false a.s.2.2 false a.b a.r a.p.bi a.p.bs a.p.bo a.p.rain a.p.loss a.p.dec a.p.high a.p.low a.p.every a.k a.ld.mi a.ld.mo a.ld.ti a.ld.ou a.f a.g false b.s.1 false b.s.2.1 false b.s.2.2 false b.b b.r b.p.bi b.p.bs b.p.bo b.p.rain b.p.loss b.p.dec b.p.high b.p.low b.p.every b.k b.ld.mi b.ld.mo b.ld.ti b.ld.ou b.f b.g) = some [.int .i64 (prtN n i a b)]
  | 0, n, i, a, b, hi, hN, S, T => by omega
  | N + 1, 0, i, a, b, hi, hN, S, T => by
    rw [qqj]
    simp (disch := omega) only [dF, bit, qgr, q0f, qhl]; rfl
  | N + 1, n + 1, i, a, b, hi, hN, S, T => by
    rw [qqj]
    have eS := qfj (k + 7) (by omega) a.r false a.s.1 false a.s.2.1 false a.s.2.2 false a.b b.r false b.s.1 false b.s.2.1 false b.s.2.2 false b.b S.h1 S.h2 S.h3 S.h4
    rw [show qxv a.r b.r a.s.1 b.s.1 a.s.2.1 a.s.2.2 a.b b.s.2.1 b.s.2.2 b.b = samW a b from rfl] at eS
    unfold prtN
    cases g : samW a b
    · rw [g] at eS
      simp (disch := omega) only [dT, eS, bit, qgr, q0f, qa2, nth0, qzn, Bool.not_false, qhn, qhl]
    rw [g] at eS
    have eA := qex k (by omega) a 1 S
    have eB := qex k (by omega) b 1 T
    have IH := qsv k hk fu c hc N n (i + 1) (adv a 1) (adv b 1) (by omega) (by omega) (qay S 1) (qay T 1)
    rw [show ((i + 1 : Nat) : Int) = (i : Int) + 1 from rfl] at IH
    simp (disch := omega) only [dT, eS, bit, eA, eB, qgr, q0f, qa2, nth0, qgu, qt9, quz, qg5, qoq, qg7, qg8, qgt, qzo, qg9, qha, qhb, qhc, qhd, qgv, qgw, qgx, qgy, qgz, qg0, qg1, qg2, qg3, qg4, qg6, qzn, Bool.not_true, qhl, qhn]
    exact IH
theorem qbz (k : Nat) (hk : 2000000 ≤ k) (a b : Wd) (c : Int) (S : Sml a) (T : Sml b) : go (k + 13) impl_PartAt [wdR a, wdR b, .int .i64 c] = some [.int .i64 (cond (wdOk a && (wdOk b && inR c 0 100)) (prtN (c.toNat + 1) 0 a b) (-2))] := by
  rw [qi2]
  have eO := qce (k + 3) (by omega) a S
  have eP := qce (k + 3) (by omega) b T
  cases g : wdOk a
  · rw [g] at eO; simp (disch := omega) only [eO, bit, qa2, nth0, qzn, Bool.not_false, qhn, Bool.false_and, qhl]
  rw [g] at eO
  cases g2 : wdOk b
  · rw [g2] at eP; simp (disch := omega) only [eO, bit, eP, qa2, nth0, qzn, Bool.not_false, qhn, Bool.not_true, qhl, Bool.false_and, Bool.and_false]
  rw [g2] at eP
  cases g3 : inR c 0 100
  · simp (disch := omega) only [eO, bit, eP, qdk, g3, qa2, nth0, qzn, Bool.not_false, qhn, Bool.not_true, qhl, Bool.and_false]
  have bc := qoo.1 g3
  simp (disch := omega) only [eO, bit, eP, qdk, g3, q0f, qa2, nth0, qzn, Bool.not_true, qhl, Bool.and_true, qhn]
  have e := qpb (k + 12) (k + 12 - 1) [] (c + 1) 0 false a.s.1 false a.s.2.1 false a.s.2.2 false a.b a.r a.p.bi a.p.bs a.p.bo a.p.rain a.p.loss a.p.dec a.p.high a.p.low a.p.every a.k a.ld.mi a.ld.mo a.ld.ti a.ld.ou a.f a.g false b.s.1 false b.s.2.1 false b.s.2.2 false b.b b.r b.p.bi b.p.bs b.p.bo b.p.rain b.p.loss b.p.dec b.p.high b.p.low b.p.every b.k b.ld.mi b.ld.mo b.ld.ti b.ld.ou b.f b.g
  rw [show k + 12 - 1 + 1 = k + 12 by omega] at e
  refine e.trans ?_
  have eS := qb4 (k + 9) (by omega) a.r false a.s.1 false a.s.2.1 false a.s.2.2 false a.b b.r false b.s.1 false b.s.2.1 false b.s.2.2 false b.b S.h1 S.h2 S.h3 S.h4
  rw [show qxv a.r b.r a.s.1 b.s.1 a.s.2.1 a.s.2.2 a.b b.s.2.1 b.s.2.2 b.b = samW a b from rfl] at eS
  unfold prtN
  cases q : samW a b
  · rw [q] at eS
    simp (disch := omega) only [dT, eS, bit, q0f, qa2, nth0, qzn, Bool.not_false, qhn, qhl]
  rw [q] at eS
  have eA := qbd k (by omega) a 1 S
  have eB := qbd k (by omega) b 1 T
  have IH := qrs k hk [] c bc (k + 12 - 1) c.toNat 1 (adv a 1) (adv b 1) (by omega) (by omega) (qay S 1) (qay T 1)
  rw [show ((1 : Nat) : Int) = 0 + 1 from rfl] at IH
  simp (disch := omega) only [dT, eS, bit, eA, eB, q0f, qa2, nth0, qgu, qt9, quz, qg5, qoq, qg7, qg8, qgt, qzo, qg9, qha, qhb, qhc, qhd, qgv, qgw, qgx, qgy, qgz, qg0, qg1, qg2, qg3, qg4, qg6, qzn, Bool.not_true, qhl, qhn]
  exact IH
theorem qff (k : Nat) (hk : 2000000 ≤ k) (a b : Wd) (c : Int) (S : Sml a) (T : Sml b) : go (k + 10) spec_PartAt [wdR a, wdR b, .int .i64 c] = some [.int .i64 (cond (wdOk a && (wdOk b && inR c 0 100)) (prtN (c.toNat + 1) 0 a b) (-2))] := by
  rw [qmj]
  have eO := qfr (k + 1) (by omega) a S
  have eP := qfr (k + 1) (by omega) b T
  cases g : wdOk a
  · rw [g] at eO; simp (disch := omega) only [eO, bit, qa2, nth0, qzn, Bool.not_false, qhn, Bool.false_and, qhl]
  rw [g] at eO
  cases g2 : wdOk b
  · rw [g2] at eP; simp (disch := omega) only [eO, bit, eP, qa2, nth0, qzn, Bool.not_false, qhn, Bool.not_true, qhl, Bool.false_and, Bool.and_false]
  rw [g2] at eP
  cases g3 : inR c 0 100
  · simp (disch := omega) only [eO, bit, eP, qfu, g3, qa2, nth0, qzn, Bool.not_false, qhn, Bool.not_true, qhl, Bool.and_false]
  have bc := qoo.1 g3
  simp (disch := omega) only [eO, bit, eP, qfu, g3, qa2, nth0, qzn, Bool.not_true, qhl, Bool.and_true, qhn]
  have e := qqi (k + 9) (k + 9 - 1) [] c 0 false a.s.1 false a.s.2.1 false a.s.2.2 false a.b a.r a.p.bi a.p.bs a.p.bo a.p.rain a.p.loss a.p.dec a.p.high a.p.low a.p.every a.k a.ld.mi a.ld.mo a.ld.ti a.ld.ou a.f a.g false b.s.1 false b.s.2.1 false b.s.2.2 false b.b b.r b.p.bi b.p.bs b.p.bo b.p.rain b.p.loss b.p.dec b.p.high b.p.low b.p.every b.k b.ld.mi b.ld.mo b.ld.ti b.ld.ou b.f b.g
  rw [show k + 9 - 1 + 1 = k + 9 by omega] at e
  refine e.trans ?_
  have eS := qfj (k + 7) (by omega) a.r false a.s.1 false a.s.2.1 false a.s.2.2 false a.b b.r false b.s.1 false b.s.2.1 false b.s.2.2 false b.b S.h1 S.h2 S.h3 S.h4
  rw [show qxv a.r b.r a.s.1 b.s.1 a.s.2.1 a.s.2.2 a.b b.s.2.1 b.s.2.2 b.b = samW a b from rfl] at eS
  unfold prtN
  cases q : samW a b
  · rw [q] at eS
    simp (disch := omega) only [dT, eS, bit, q0f, qa2, nth0, qzn, Bool.not_false, qhn, qhl]
  rw [q] at eS
  have eA := qex k (by omega) a 1 S
  have eB := qex k (by omega) b 1 T
  have IH := qsv k hk [] c bc (k + 9 - 1) c.toNat 1 (adv a 1) (adv b 1) (by omega) (by omega) (qay S 1) (qay T 1)
  rw [show ((1 : Nat) : Int) = 0 + 1 from rfl] at IH
  simp (disch := omega) only [dT, eS, bit, eA, eB, q0f, qa2, nth0, qgu, qt9, quz, qg5, qoq, qg7, qg8, qgt, qzo, qg9, qha, qhb, qhc, qhd, qgv, qgw, qgx, qgy, qgz, qg0, qg1, qg2, qg3, qg4, qg6, qzn, Bool.not_true, qhl, qhn]
  exact IH
end Go.Proofs.YtoldpdhhfmlckaaGreat
end
section
namespace Go.Proofs.YtoldpdhhfmlckaaGreat
open Go.Ev
theorem qkn (k : Nat) (a0 : Int) (a1z : Bool) (a1 : List (Int × Int × Int)) (a2z : Bool) (a2 : List Int) (a3z : Bool) (a3 : List Int) (a4z : Bool) (a4 : List Int) (a5 a6 a7 a8 a9 a10 a11 a12 a13 a14 a15 a16 a17 a18 a19 a20 b0 : Int) (b1z : Bool) (b1 : List (Int × Int × Int)) (b2z : Bool) (b2 : List Int) (b3z : Bool) (b3 : List Int) (b4z : Bool) (b4 : List Int) (b5 b6 b7 b8 b9 b10 b11 b12 b13 b14 b15 b16 b17 b18 b19 b20 c : Int) : go (k + 1) laws_FnExactPartAt [(.agg [(.int .i64 (a0)), (.arr false (a1z) (.r3 (a1))), (.arr false (a2z) (.ints .i64 (a2))), (.arr false (a3z) (.ints .i64 (a3))), (.arr false (a4z) (.ints .i64 (a4))), (.int .i64 (a5)), (.int .i64 (a6)), (.int .i64 (a7)), (.int .i64 (a8)), (.int .i64 (a9)), (.int .i64 (a10)), (.int .i64 (a11)), (.int .i64 (a12)), (.int .i64 (a13)), (.int .i64 (a14)), (.int .i64 (a15)), (.int .i64 (a16)), (.int .i64 (a17)), (.int .i64 (a18)), (.int .i64 (a19)), (.int .i64 (a20))]), (.agg [(.int .i64 (b0)), (.arr false (b1z) (.r3 (b1))), (.arr false (b2z) (.ints .i64 (b2))), (.arr false (b3z) (.ints .i64 (b3))), (.arr false (b4z) (.ints .i64 (b4))), (.int .i64 (b5)), (.int .i64 (b6)), (.int .i64 (b7)), (.int .i64 (b8)), (.int .i64 (b9)), (.int .i64 (b10)), (.int .i64 (b11)), (.int .i64 (b12)), (.int .i64 (b13)), (.int .i64 (b14)), (.int .i64 (b15)), (.int .i64 (b16)), (.int .i64 (b17)), (.int .i64 (b18)), (.int .i64 (b19)), (.int .i64 (b20))]), (.int .i64 (c))] =
 (go k laws_szWorld [(.agg [(.int .i64 (a0)), (.arr false (a1z) (.r3 (a1))), (.arr false (a2z) (.ints .i64 (a2))), (.arr false (a3z) (.ints .i64 (a3))), (.arr false (a4z) (.ints .i64 (a4))), (.int .i64 (a5)), (.int .i64 (a6)), (.int .i64 (a7)), (.int .i64 (a8)), (.int .i64 (a9)), (.int .i64 (a10)), (.int .i64 (a11)), (.int .i64 (a12)), (.int .i64 (a13)), (.int .i64 (a14)), (.int .i64 (a15)), (.int .i64 (a16)), (.int .i64 (a17)), (.int .i64 (a18)), (.int .i64 (a19)), (.int .i64 (a20))]), (.int .i64 ((1048576 : Int)))]).bind fun r0 =>
 cond (decide (D.toInt (nth r0 0) < (0 : Int)))
 (some [(.bool (true))])
 ((go k laws_szWorld [(.agg [(.int .i64 (b0)), (.arr false (b1z) (.r3 (b1))), (.arr false (b2z) (.ints .i64 (b2))), (.arr false (b3z) (.ints .i64 (b3))), (.arr false (b4z) (.ints .i64 (b4))), (.int .i64 (b5)), (.int .i64 (b6)), (.int .i64 (b7)), (.int .i64 (b8)), (.int .i64 (b9)), (.int .i64 (b10)), (.int .i64 (b11)), (.int .i64 (b12)), (.int .i64 (b13)), (.int .i64 (b14)), (.int .i64 (b15)), (.int .i64 (b16)), (.int .i64 (b17)), (.int .i64 (b18)), (.int .i64 (b19)), (.int .i64 (b20))]), (.int .i64 (D.toInt (nth r0 0)))]).bind fun r1 =>
 cond (decide (D.toInt (nth r1 0) < (0 : Int)))
 (some [(.bool (true))])
 ((go k laws_toWorld [(.agg [(.int .i64 (a0)), (.arr false (a1z) (.r3 (a1))), (.arr false (a2z) (.ints .i64 (a2))), (.arr false (a3z) (.ints .i64 (a3))), (.arr false (a4z) (.ints .i64 (a4))), (.int .i64 (a5)), (.int .i64 (a6)), (.int .i64 (a7)), (.int .i64 (a8)), (.int .i64 (a9)), (.int .i64 (a10)), (.int .i64 (a11)), (.int .i64 (a12)), (.int .i64 (a13)), (.int .i64 (a14)), (.int .i64 (a15)), (.int .i64 (a16)), (.int .i64 (a17)), (.int .i64 (a18)), (.int .i64 (a19)), (.int .i64 (a20))])]).bind fun r2 =>
 (go k laws_toWorld [(.agg [(.int .i64 (b0)), (.arr false (b1z) (.r3 (b1))), (.arr false (b2z) (.ints .i64 (b2))), (.arr false (b3z) (.ints .i64 (b3))), (.arr false (b4z) (.ints .i64 (b4))), (.int .i64 (b5)), (.int .i64 (b6)), (.int .i64 (b7)), (.int .i64 (b8)), (.int .i64 (b9)), (.int .i64 (b10)), (.int .i64 (b11)), (.int .i64 (b12)), (.int .i64 (b13)), (.int .i64 (b14)), (.int .i64 (b15)), (.int .i64 (b16)), (.int .i64 (b17)), (.int .i64 (b18)), (.int .i64 (b19)), (.int .i64 (b20))])]).bind fun r3 =>
 (go k spec_PartAt [(.agg [(.int .i64 (D.toInt (D.cell 0 (nth r2 0)))), (.arr false (D.nil (D.cell 1 (nth r2 0))) (.r3 (D.r3 (D.cell 1 (nth r2 0))))), (.arr false (D.nil (D.cell 2 (nth r2 0))) (.ints .i64 (D.ints (D.cell 2 (nth r2 0))))), (.arr false (D.nil (D.cell 3 (nth r2 0))) (.ints .i64 (D.ints (D.cell 3 (nth r2 0))))), (.arr false (D.nil (D.cell 4 (nth r2 0))) (.ints .i64 (D.ints (D.cell 4 (nth r2 0))))), (.int .i64 (D.toInt (D.cell 5 (nth r2 0)))), (.int .i64 (D.toInt (D.cell 6 (nth r2 0)))), (.int .i64 (D.toInt (D.cell 7 (nth r2 0)))), (.int .i64 (D.toInt (D.cell 8 (nth r2 0)))), (.int .i64 (D.toInt (D.cell 9 (nth r2 0)))), (.int .i64 (D.toInt (D.cell 10 (nth r2 0)))), (.int .i64 (D.toInt (D.cell 11 (nth r2 0)))), (.int .i64 (D.toInt (D.cell (12 : Nat) (nth r2 0)))), (.int .i64 (D.toInt (D.cell (13 : Nat) (nth r2 0)))), (.int .i64 (D.toInt (D.cell (14 : Nat) (nth r2 0)))), (.int .i64 (D.toInt (D.cell (15 : Nat) (nth r2 0)))), (.int .i64 (D.toInt (D.cell (16 : Nat) (nth r2 0)))), (.int .i64 (D.toInt (D.cell (17 : Nat) (nth r2 0)))), (.int .i64 (D.toInt (D.cell (18 : Nat) (nth r2 0)))), (.int .i64 (D.toInt (D.cell (19 : Nat) (nth r2 0)))), (.int .i64 (D.toInt (D.cell (20 : Nat) (nth r2 0))))]), (.agg [(.int .i64 (D.toInt (D.cell 0 (nth r3 0)))), (.arr false (D.nil (D.cell 1 (nth r3 0))) (.r3 (D.r3 (D.cell 1 (nth r3 0))))), (.arr false (D.nil (D.cell 2 (nth r3 0))) (.ints .i64 (D.ints (D.cell 2 (nth r3 0))))), (.arr false (D.nil (D.cell 3 (nth r3 0))) (.ints .i64 (D.ints (D.cell 3 (nth r3 0))))), (.arr false (D.nil (D.cell 4 (nth r3 0))) (.ints .i64 (D.ints (D.cell 4 (nth r3 0))))), (.int .i64 (D.toInt (D.cell 5 (nth r3 0)))), (.int .i64 (D.toInt (D.cell 6 (nth r3 0)))), (.int .i64 (D.toInt (D.cell 7 (nth r3 0)))), (.int .i64 (D.toInt (D.cell 8 (nth r3 0)))), (.int .i64 (D.toInt (D.cell 9 (nth r3 0)))), (.int .i64 (D.toInt (D.cell 10 (nth r3 0)))), (.int .i64 (D.toInt (D.cell 11 (nth r3 0)))), (.int .i64 (D.toInt (D.cell (12 : Nat) (nth r3 0)))), (.int .i64 (D.toInt (D.cell (13 : Nat) (nth r3 0)))), (.int .i64 (D.toInt (D.cell (14 : Nat) (nth r3 0)))), (.int .i64 (D.toInt (D.cell (15 : Nat) (nth r3 0)))), (.int .i64 (D.toInt (D.cell (16 : Nat) (nth r3 0)))), (.int .i64 (D.toInt (D.cell (17 : Nat) (nth r3 0)))), (.int .i64 (D.toInt (D.cell (18 : Nat) (nth r3 0)))), (.int .i64 (D.toInt (D.cell (19 : Nat) (nth r3 0)))), (.int .i64 (D.toInt (D.cell (20 : Nat) (nth r3 0))))]), (.int .i64 (c))]).bind fun r4 =>
 (go k laws_toWorld [(.agg [(.int .i64 (a0)), (.arr false (a1z) (.r3 (a1))), (.arr false (a2z) (.ints .i64 (a2))), (.arr false (a3z) (.ints .i64 (a3))), (.arr false (a4z) (.ints .i64 (a4))), (.int .i64 (a5)), (.int .i64 (a6)), (.int .i64 (a7)), (.int .i64 (a8)), (.int .i64 (a9)), (.int .i64 (a10)), (.int .i64 (a11)), (.int .i64 (a12)), (.int .i64 (a13)), (.int .i64 (a14)), (.int .i64 (a15)), (.int .i64 (a16)), (.int .i64 (a17)), (.int .i64 (a18)), (.int .i64 (a19)), (.int .i64 (a20))])]).bind fun r5 =>
 (go k laws_toWorld [(.agg [(.int .i64 (b0)), (.arr false (b1z) (.r3 (b1))), (.arr false (b2z) (.ints .i64 (b2))), (.arr false (b3z) (.ints .i64 (b3))), (.arr false (b4z) (.ints .i64 (b4))), (.int .i64 (b5)), (.int .i64 (b6)), (.int .i64 (b7)), (.int .i64 (b8)), (.int .i64 (b9)), (.int .i64 (b10)), (.int .i64 (b11)), (.int .i64 (b12)), (.int .i64 (b13)), (.int .i64 (b14)), (.int .i64 (b15)), (.int .i64 (b16)), (.int .i64 (b17)), (.int .i64 (b18)), (.int .i64 (b19)), (.int .i64 (b20))])]).bind fun r6 =>
 (go k impl_PartAt [(.agg [(.int .i64 (D.toInt (D.cell 0 (nth r5 0)))), (.arr false (D.nil (D.cell 1 (nth r5 0))) (.r3 (D.r3 (D.cell 1 (nth r5 0))))), (.arr false (D.nil (D.cell 2 (nth r5 0))) (.ints .i64 (D.ints (D.cell 2 (nth r5 0))))), (.arr false (D.nil (D.cell 3 (nth r5 0))) (.ints .i64 (D.ints (D.cell 3 (nth r5 0))))), (.arr false (D.nil (D.cell 4 (nth r5 0))) (.ints .i64 (D.ints (D.cell 4 (nth r5 0))))), (.int .i64 (D.toInt (D.cell 5 (nth r5 0)))), (.int .i64 (D.toInt (D.cell 6 (nth r5 0)))), (.int .i64 (D.toInt (D.cell 7 (nth r5 0)))), (.int .i64 (D.toInt (D.cell 8 (nth r5 0)))), (.int .i64 (D.toInt (D.cell 9 (nth r5 0)))), (.int .i64 (D.toInt (D.cell 10 (nth r5 0)))), (.int .i64 (D.toInt (D.cell 11 (nth r5 0)))), (.int .i64 (D.toInt (D.cell (12 : Nat) (nth r5 0)))), (.int .i64 (D.toInt (D.cell (13 : Nat) (nth r5 0)))), (.int .i64 (D.toInt (D.cell (14 : Nat) (nth r5 0)))), (.int .i64 (D.toInt (D.cell (15 : Nat) (nth r5 0)))), (.int .i64 (D.toInt (D.cell (16 : Nat) (nth r5 0)))), (.int .i64 (D.toInt (D.cell (17 : Nat) (nth r5 0)))), (.int .i64 (D.toInt (D.cell (18 : Nat) (nth r5 0)))), (.int .i64 (D.toInt (D.cell (19 : Nat) (nth r5 0)))), (.int .i64 (D.toInt (D.cell (20 : Nat) (nth r5 0))))]), (.agg [(.int .i64 (D.toInt (D.cell 0 (nth r6 0)))), (.arr false (D.nil (D.cell 1 (nth r6 0))) (.r3 (D.r3 (D.cell 1 (nth r6 0))))), (.arr false (D.nil (D.cell 2 (nth r6 0))) (.ints .i64 (D.ints (D.cell 2 (nth r6 0))))), (.arr false (D.nil (D.cell 3 (nth r6 0))) (.ints .i64 (D.ints (D.cell 3 (nth r6 0))))), (.arr false (D.nil (D.cell 4 (nth r6 0))) (.ints .i64 (D.ints (D.cell 4 (nth r6 0))))), (.int .i64 (D.toInt (D.cell 5 (nth r6 0)))), (.int .i64 (D.toInt (D.cell 6 (nth r6 0)))), (.int .i64 (D.toInt (D.cell 7 (nth r6 0)))), (.int .i64 (D.toInt (D.cell 8 (nth r6 0)))), (.int .i64 (D.toInt (D.cell 9 (nth r6 0)))), (.int .i64 (D.toInt (D.cell 10 (nth r6 0)))), (.int .i64 (D.toInt (D.cell 11 (nth r6 0)))), (.int .i64 (D.toInt (D.cell (12 : Nat) (nth r6 0)))), (.int .i64 (D.toInt (D.cell (13 : Nat) (nth r6 0)))), (.int .i64 (D.toInt (D.cell (14 : Nat) (nth r6 0)))), (.int .i64 (D.toInt (D.cell (15 : Nat) (nth r6 0)))), (.int .i64 (D.toInt (D.cell (16 : Nat) (nth r6 0)))), (.int .i64 (D.toInt (D.cell (17 : Nat) (nth r6 0)))), (.int .i64 (D.toInt (D.cell (18 : Nat) (nth r6 0)))), (.int .i64 (D.toInt (D.cell (19 : Nat) (nth r6 0)))), (.int .i64 (D.toInt (D.cell (20 : Nat) (nth r6 0))))]), (.int .i64 (c))]).bind fun r7 =>
 cond (!decide (D.toInt (nth r7 0) = D.toInt (nth r4 0)))
 (some [(.bool (false))])
 ((go k laws_toWorld [(.agg [(.int .i64 (a0)), (.arr false (a1z) (.r3 (a1))), (.arr false (a2z) (.ints .i64 (a2))), (.arr false (a3z) (.ints .i64 (a3))), (.arr false (a4z) (.ints .i64 (a4))), (.int .i64 (a5)), (.int .i64 (a6)), (.int .i64 (a7)), (.int .i64 (a8)), (.int .i64 (a9)), (.int .i64 (a10)), (.int .i64 (a11)), (.int .i64 (a12)), (.int .i64 (a13)), (.int .i64 (a14)), (.int .i64 (a15)), (.int .i64 (a16)), (.int .i64 (a17)), (.int .i64 (a18)), (.int .i64 (a19)), (.int .i64 (a20))])]).bind fun r8 =>
 (go k laws_eqWorld [(.agg [(.int .i64 (D.toInt (D.cell 0 (nth r5 0)))), (.arr false (D.nil (D.cell 1 (nth r5 0))) (.r3 (D.r3 (D.cell 1 (nth r5 0))))), (.arr false (D.nil (D.cell 2 (nth r5 0))) (.ints .i64 (D.ints (D.cell 2 (nth r5 0))))), (.arr false (D.nil (D.cell 3 (nth r5 0))) (.ints .i64 (D.ints (D.cell 3 (nth r5 0))))), (.arr false (D.nil (D.cell 4 (nth r5 0))) (.ints .i64 (D.ints (D.cell 4 (nth r5 0))))), (.int .i64 (D.toInt (D.cell 5 (nth r5 0)))), (.int .i64 (D.toInt (D.cell 6 (nth r5 0)))), (.int .i64 (D.toInt (D.cell 7 (nth r5 0)))), (.int .i64 (D.toInt (D.cell 8 (nth r5 0)))), (.int .i64 (D.toInt (D.cell 9 (nth r5 0)))), (.int .i64 (D.toInt (D.cell 10 (nth r5 0)))), (.int .i64 (D.toInt (D.cell 11 (nth r5 0)))), (.int .i64 (D.toInt (D.cell (12 : Nat) (nth r5 0)))), (.int .i64 (D.toInt (D.cell (13 : Nat) (nth r5 0)))), (.int .i64 (D.toInt (D.cell (14 : Nat) (nth r5 0)))), (.int .i64 (D.toInt (D.cell (15 : Nat) (nth r5 0)))), (.int .i64 (D.toInt (D.cell (16 : Nat) (nth r5 0)))), (.int .i64 (D.toInt (D.cell (17 : Nat) (nth r5 0)))), (.int .i64 (D.toInt (D.cell (18 : Nat) (nth r5 0)))), (.int .i64 (D.toInt (D.cell (19 : Nat) (nth r5 0)))), (.int .i64 (D.toInt (D.cell (20 : Nat) (nth r5 0))))]), (.agg [(.int .i64 (D.toInt (D.cell 0 (nth r8 0)))), (.arr false (D.nil (D.cell 1 (nth r8 0))) (.r3 (D.r3 (D.cell 1 (nth r8 0))))), (.arr false (D.nil (D.cell 2 (nth r8 0))) (.ints .i64 (D.ints (D.cell 2 (nth r8 0))))), (.arr false (D.nil (D.cell 3 (nth r8 0))) (.ints .i64 (D.ints (D.cell 3 (nth r8 0))))), (.arr false (D.nil (D.cell 4 (nth r8 0))) (.ints .i64 (D.ints (D.cell 4 (nth r8 0))))), (.int .i64 (D.toInt (D.cell 5 (nth r8 0)))), (.int .i64 (D.toInt (D.cell 6 (nth r8 0)))), (.int .i64 (D.toInt (D.cell 7 (nth r8 0)))), (.int .i64 (D.toInt (D.cell 8 (nth r8 0)))), (.int .i64 (D.toInt (D.cell 9 (nth r8 0)))), (.int .i64 (D.toInt (D.cell 10 (nth r8 0)))), (.int .i64 (D.toInt (D.cell 11 (nth r8 0)))), (.int .i64 (D.toInt (D.cell (12 : Nat) (nth r8 0)))), (.int .i64 (D.toInt (D.cell (13 : Nat) (nth r8 0)))), (.int .i64 (D.toInt (D.cell (14 : Nat) (nth r8 0)))), (.int .i64 (D.toInt (D.cell (15 : Nat) (nth r8 0)))), (.int .i64 (D.toInt (D.cell (16 : Nat) (nth r8 0)))), (.int .i64 (D.toInt (D.cell (17 : Nat) (nth r8 0)))), (.int .i64 (D.toInt (D.cell (18 : Nat) (nth r8 0)))), (.int .i64 (D.toInt (D.cell (19 : Nat) (nth r8 0)))), (.int .i64 (D.toInt (D.cell (20 : Nat) (nth r8 0))))])]).bind fun r9 =>
 cond (!bit (nth r9 0))
 (some [(.bool (false))])
 ((go k laws_toWorld [(.agg [(.int .i64 (b0)), (.arr false (b1z) (.r3 (b1))), (.arr false (b2z) (.ints .i64 (b2))), (.arr false (b3z) (.ints .i64 (b3))), (.arr false (b4z) (.ints .i64 (b4))), (.int .i64 (b5)), (.int .i64 (b6)), (.int .i64 (b7)), (.int .i64 (b8)), (.int .i64 (b9)), (.int .i64 (b10)), (.int .i64 (b11)), (.int .i64 (b12)), (.int .i64 (b13)), (.int .i64 (b14)), (.int .i64 (b15)), (.int .i64 (b16)), (.int .i64 (b17)), (.int .i64 (b18)), (.int .i64 (b19)), (.int .i64 (b20))])]).bind fun r10 =>
 (go k laws_eqWorld [(.agg [(.int .i64 (D.toInt (D.cell 0 (nth r6 0)))), (.arr false (D.nil (D.cell 1 (nth r6 0))) (.r3 (D.r3 (D.cell 1 (nth r6 0))))), (.arr false (D.nil (D.cell 2 (nth r6 0))) (.ints .i64 (D.ints (D.cell 2 (nth r6 0))))), (.arr false (D.nil (D.cell 3 (nth r6 0))) (.ints .i64 (D.ints (D.cell 3 (nth r6 0))))), (.arr false (D.nil (D.cell 4 (nth r6 0))) (.ints .i64 (D.ints (D.cell 4 (nth r6 0))))), (.int .i64 (D.toInt (D.cell 5 (nth r6 0)))), (.int .i64 (D.toInt (D.cell 6 (nth r6 0)))), (.int .i64 (D.toInt (D.cell 7 (nth r6 0)))), (.int .i64 (D.toInt (D.cell 8 (nth r6 0)))), (.int .i64 (D.toInt (D.cell 9 (nth r6 0)))), (.int .i64 (D.toInt (D.cell 10 (nth r6 0)))), (.int .i64 (D.toInt (D.cell 11 (nth r6 0)))), (.int .i64 (D.toInt (D.cell (12 : Nat) (nth r6 0)))), (.int .i64 (D.toInt (D.cell (13 : Nat) (nth r6 0)))), (.int .i64 (D.toInt (D.cell (14 : Nat) (nth r6 0)))), (.int .i64 (D.toInt (D.cell (15 : Nat) (nth r6 0)))), (.int .i64 (D.toInt (D.cell (16 : Nat) (nth r6 0)))), (.int .i64 (D.toInt (D.cell (17 : Nat) (nth r6 0)))), (.int .i64 (D.toInt (D.cell (18 : Nat) (nth r6 0)))), (.int .i64 (D.toInt (D.cell (19 : Nat) (nth r6 0)))), (.int .i64 (D.toInt (D.cell (20 : Nat) (nth r6 0))))]), (.agg [(.int .i64 (D.toInt (D.cell 0 (nth r10 0)))), (.arr false (D.nil (D.cell 1 (nth r10 0))) (.r3 (D.r3 (D.cell 1 (nth r10 0))))), (.arr false (D.nil (D.cell 2 (nth r10 0))) (.ints .i64 (D.ints (D.cell 2 (nth r10 0))))), (.arr false (D.nil (D.cell 3 (nth r10 0))) (.ints .i64 (D.ints (D.cell 3 (nth r10 0))))), (.arr false (D.nil (D.cell 4 (nth r10 0))) (.ints .i64 (D.ints (D.cell 4 (nth r10 0))))), (.int .i64 (D.toInt (D.cell 5 (nth r10 0)))), (.int .i64 (D.toInt (D.cell 6 (nth r10 0)))), (.int .i64 (D.toInt (D.cell 7 (nth r10 0)))), (.int .i64 (D.toInt (D.cell 8 (nth r10 0)))), (.int .i64 (D.toInt (D.cell 9 (nth r10 0)))), (.int .i64 (D.toInt (D.cell 10 (nth r10 0)))), (.int .i64 (D.toInt (D.cell 11 (nth r10 0)))), (.int .i64 (D.toInt (D.cell (12 : Nat) (nth r10 0)))), (.int .i64 (D.toInt (D.cell (13 : Nat) (nth r10 0)))), (.int .i64 (D.toInt (D.cell (14 : Nat) (nth r10 0)))), (.int .i64 (D.toInt (D.cell (15 : Nat) (nth r10 0)))), (.int .i64 (D.toInt (D.cell (16 : Nat) (nth r10 0)))), (.int .i64 (D.toInt (D.cell (17 : Nat) (nth r10 0)))), (.int .i64 (D.toInt (D.cell (18 : Nat) (nth r10 0)))), (.int .i64 (D.toInt (D.cell (19 : Nat) (nth r10 0)))), (.int .i64 (D.toInt (D.cell (20 : Nat) (nth r10 0))))])]).bind fun r11 =>
 cond (!bit (nth r11 0))
 (some [(.bool (false))])
 (some [(.bool (true))]))))) := by kernel_rfl

end Go.Proofs.YtoldpdhhfmlckaaGreat
end
section
namespace Go.Proofs.YtoldpdhhfmlckaaGreat
open Go.Ev
set_option maxRecDepth 20000
set_option maxHeartbeats 1000000 in
theorem law_PartAt (k : Nat) (hk : 2000000 ≤ k) (a0 : Int) (a1z : Bool) (a1 : List (Int × Int × Int)) (a2z : Bool) (a2 : List Int) (a3z : Bool) (a3 : List Int) (a4z : Bool) (a4 : List Int) (a5 : Int) (a6 : Int) (a7 : Int) (a8 : Int) (a9 : Int) (a10 : Int) (a11 : Int) (a12 : Int) (a13 : Int) (a14 : Int) (a15 : Int) (a16 : Int) (a17 : Int) (a18 : Int) (a19 : Int) (a20 : Int) (b0 : Int) (b1z : Bool) (b1 : List (Int × Int × Int)) (b2z : Bool) (b2 : List Int) (b3z : Bool) (b3 : List Int) (b4z : Bool) (b4 : List Int) (b5 : Int) (b6 : Int) (b7 : Int) (b8 : Int) (b9 : Int) (b10 : Int) (b11 : Int) (b12 : Int) (b13 : Int) (b14 : Int) (b15 : Int) (b16 : Int) (b17 : Int) (b18 : Int) (b19 : Int) (b20 : Int) (c : Int) (hl_a1 : (a1.length : Int) ≤ 9223372036854775807) (hl_a2 : (a2.length : Int) ≤ 9223372036854775807) (hl_a3 : (a3.length : Int) ≤ 9223372036854775807) (hl_a4 : (a4.length : Int) ≤ 9223372036854775807) (hl_b1 : (b1.length : Int) ≤ 9223372036854775807) (hl_b2 : (b2.length : Int) ≤ 9223372036854775807) (hl_b3 : (b3.length : Int) ≤ 9223372036854775807) (hl_b4 : (b4.length : Int) ≤ 9223372036854775807) : go (k + 14) laws_FnExactPartAt [(.agg [(.int .i64 (a0)), (.arr false (a1z) (.r3 (a1))), (.arr false (a2z) (.ints .i64 (a2))), (.arr false (a3z) (.ints .i64 (a3))), (.arr false (a4z) (.ints .i64 (a4))), (.int .i64 (a5)), (.int .i64 (a6)), (.int .i64 (a7)), (.int .i64 (a8)), (.int .i64 (a9)), (.int .i64 (a10)), (.int .i64 (a11)), (.int .i64 (a12)), (.int .i64 (a13)), (.int .i64 (a14)), (.int .i64 (a15)), (.int .i64 (a16)), (.int .i64 (a17)), (.int .i64 (a18)), (.int .i64 (a19)), (.int .i64 (a20))]), (.agg [(.int .i64 (b0)), (.arr false (b1z) (.r3 (b1))), (.arr false (b2z) (.ints .i64 (b2))), (.arr false (b3z) (.ints .i64 (b3))), (.arr false (b4z) (.ints .i64 (b4))), (.int .i64 (b5)), (.int .i64 (b6)), (.int .i64 (b7)), (.int .i64 (b8)), (.int .i64 (b9)), (.int .i64 (b10)), (.int .i64 (b11)), (.int .i64 (b12)), (.int .i64 (b13)), (.int .i64 (b14)), (.int .i64 (b15)), (.int .i64 (b16)), (.int .i64 (b17)), (.int .i64 (b18)), (.int .i64 (b19)), (.int .i64 (b20))]), (.int .i64 (c))] = some [.bool true] := by
  rw [qkn]
  by_cases h : (a1.length : Int) + a2.length + a3.length + a4.length ≤ 1048576
  case neg => simp (disch := omega) only [qec, if_neg h, bit, qa2, nth0, qzo, dT, qhn]
  by_cases h' : (b1.length : Int) + b2.length + b3.length + b4.length ≤ 1048576 - a1.length - a2.length - a3.length - a4.length
  case neg => simp (disch := omega) only [qec, if_pos h, bit, qa2, nth0, qzo, dF, if_neg h', dT, qhn, qhl]
  obtain ⟨w, hw⟩ : ∃ w : Wd, w = ⟨a0, (a1, a2, a3), a4, ⟨a5, a6, a7, a8, a9, a10, a11, a12, a13⟩, a14, ⟨a15, a16, a17, a18⟩, a19, a20⟩ := ⟨_, rfl⟩
  have S : Sml w := by subst hw; exact ⟨by show (a1.length : Int) ≤ _; omega, by show (a2.length : Int) ≤ _; omega, by show (a3.length : Int) ≤ _; omega, by show (a4.length : Int) ≤ _; omega⟩
  obtain ⟨v, hv⟩ : ∃ v : Wd, v = ⟨b0, (b1, b2, b3), b4, ⟨b5, b6, b7, b8, b9, b10, b11, b12, b13⟩, b14, ⟨b15, b16, b17, b18⟩, b19, b20⟩ := ⟨_, rfl⟩
  have T : Sml v := by subst hv; exact ⟨by show (b1.length : Int) ≤ _; omega, by show (b2.length : Int) ≤ _; omega, by show (b3.length : Int) ≤ _; omega, by show (b4.length : Int) ≤ _; omega⟩
  have eA : ∀ (k : Nat), 2000000 ≤ k → go (k + 10) spec_PartAt [.agg [.int .i64 (a0), .arr false false (.r3 (a1)), .arr false false (.ints .i64 (a2)), .arr false false (.ints .i64 (a3)), .arr false false (.ints .i64 (a4)), .int .i64 (a5), .int .i64 (a6), .int .i64 (a7), .int .i64 (a8), .int .i64 (a9), .int .i64 (a10), .int .i64 (a11), .int .i64 (a12), .int .i64 (a13), .int .i64 (a14), .int .i64 (a15), .int .i64 (a16), .int .i64 (a17), .int .i64 (a18), .int .i64 (a19), .int .i64 (a20)], .agg [.int .i64 (b0), .arr false false (.r3 (b1)), .arr false false (.ints .i64 (b2)), .arr false false (.ints .i64 (b3)), .arr false false (.ints .i64 (b4)), .int .i64 (b5), .int .i64 (b6), .int .i64 (b7), .int .i64 (b8), .int .i64 (b9), .int .i64 (b10), .int .i64 (b11), .int .i64 (b12), .int .i64 (b13), .int .i64 (b14), .int .i64 (b15), .int .i64 (b16), .int .i64 (b17), .int .i64 (b18), .int .i64 (b19), .int .i64 (b20)], .int .i64 c] = some [.int .i64 (cond (wdOk w && (wdOk v && inR c 0 100)) (prtN (c.toNat + 1) 0 w v) (-2))] := fun k hk => by subst hw; subst hv; exact qff k hk ⟨a0, (a1, a2, a3), a4, ⟨a5, a6, a7, a8, a9, a10, a11, a12, a13⟩, a14, ⟨a15, a16, a17, a18⟩, a19, a20⟩ ⟨b0, (b1, b2, b3), b4, ⟨b5, b6, b7, b8, b9, b10, b11, b12, b13⟩, b14, ⟨b15, b16, b17, b18⟩, b19, b20⟩ c S T
  have eB : ∀ (k : Nat), 2000000 ≤ k → go (k + 13) impl_PartAt [.agg [.int .i64 (a0), .arr false false (.r3 (a1)), .arr false false (.ints .i64 (a2)), .arr false false (.ints .i64 (a3)), .arr false false (.ints .i64 (a4)), .int .i64 (a5), .int .i64 (a6), .int .i64 (a7), .int .i64 (a8), .int .i64 (a9), .int .i64 (a10), .int .i64 (a11), .int .i64 (a12), .int .i64 (a13), .int .i64 (a14), .int .i64 (a15), .int .i64 (a16), .int .i64 (a17), .int .i64 (a18), .int .i64 (a19), .int .i64 (a20)], .agg [.int .i64 (b0), .arr false false (.r3 (b1)), .arr false false (.ints .i64 (b2)), .arr false false (.ints .i64 (b3)), .arr false false (.ints .i64 (b4)), .int .i64 (b5), .int .i64 (b6), .int .i64 (b7), .int .i64 (b8), .int .i64 (b9), .int .i64 (b10), .int .i64 (b11), .int .i64 (b12), .int .i64 (b13), .int .i64 (b14), .int .i64 (b15), .int .i64 (b16), .int .i64 (b17), .int .i64 (b18), .int .i64 (b19), .int .i64 (b20)], .int .i64 c] = some [.int .i64 (cond (wdOk w && (wdOk v && inR c 0 100)) (prtN (c.toNat + 1) 0 w v) (-2))] := fun k hk => by subst hw; subst hv; exact qbz k hk ⟨a0, (a1, a2, a3), a4, ⟨a5, a6, a7, a8, a9, a10, a11, a12, a13⟩, a14, ⟨a15, a16, a17, a18⟩, a19, a20⟩ ⟨b0, (b1, b2, b3), b4, ⟨b5, b6, b7, b8, b9, b10, b11, b12, b13⟩, b14, ⟨b15, b16, b17, b18⟩, b19, b20⟩ c S T
  generalize cond (wdOk w && (wdOk v && inR c 0 100)) (prtN (c.toNat + 1) 0 w v) (-2) = X at *
  simp (disch := omega) only [qec, if_pos h, qen, bit, qa2, nth0, qgt, qzo, qgu, qt9, quz, qg5, qoq, qg7, qg8, qg9, qha, qhb, qhc, qhd, qgv, qgw, qgx, qgy, qgz, qg0, qg1, qg2, qg3, qg4, qg6, qdv, qzn, Bool.not_true, qhl, eB, eA, dTT, dF, if_pos h']
end Go.Proofs.YtoldpdhhfmlckaaGreat
end
