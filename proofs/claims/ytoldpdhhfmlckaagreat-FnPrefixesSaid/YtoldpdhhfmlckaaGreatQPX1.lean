/- What the program's functions compute, and plain facts of it (part 1). No condition beyond those that each theorem states. -/
import Derived.Test.YtoldpdhhfmlckaaGreatQD3
set_option linter.unusedVariables false
set_option linter.unusedSimpArgs false
section
namespace Go.Proofs.YtoldpdhhfmlckaaGreat
open Go.Ev
theorem qhb (d0 d1 d2 d3 d4 d5 d6 d7 d8 d9 : D) (l : List D) : (D.agg (d0 :: d1 :: d2 :: d3 :: d4 :: d5 :: d6 :: d7 :: d8 :: d9 :: l)).cell 9 = d9 := Eq.trans rfl rfl
theorem qgt (d0 d1 d2 d3 d4 d5 d6 d7 d8 d9 d10 : D) (l : List D) : (D.agg (d0 :: d1 :: d2 :: d3 :: d4 :: d5 :: d6 :: d7 :: d8 :: d9 :: d10 :: l)).cell 10 = d10 := Eq.trans rfl rfl
theorem qgu (d0 d1 d2 d3 d4 d5 d6 d7 d8 d9 d10 d11 : D) (l : List D) : (D.agg (d0 :: d1 :: d2 :: d3 :: d4 :: d5 :: d6 :: d7 :: d8 :: d9 :: d10 :: d11 :: l)).cell 11 = d11 := Eq.trans rfl rfl
theorem qgv (d0 d1 d2 d3 d4 d5 d6 d7 d8 d9 d10 d11 d12 : D) (l : List D) : (D.agg (d0 :: d1 :: d2 :: d3 :: d4 :: d5 :: d6 :: d7 :: d8 :: d9 :: d10 :: d11 :: d12 :: l)).cell 12 = d12 := Eq.trans rfl rfl
theorem qgw (d0 d1 d2 d3 d4 d5 d6 d7 d8 d9 d10 d11 d12 d13 : D) (l : List D) : (D.agg (d0 :: d1 :: d2 :: d3 :: d4 :: d5 :: d6 :: d7 :: d8 :: d9 :: d10 :: d11 :: d12 :: d13 :: l)).cell 13 = d13 := Eq.trans rfl rfl
theorem qgx (d0 d1 d2 d3 d4 d5 d6 d7 d8 d9 d10 d11 d12 d13 d14 : D) (l : List D) : (D.agg (d0 :: d1 :: d2 :: d3 :: d4 :: d5 :: d6 :: d7 :: d8 :: d9 :: d10 :: d11 :: d12 :: d13 :: d14 :: l)).cell 14 = d14 := Eq.trans rfl rfl
theorem qgy (d0 d1 d2 d3 d4 d5 d6 d7 d8 d9 d10 d11 d12 d13 d14 d15 : D) (l : List D) : (D.agg (d0 :: d1 :: d2 :: d3 :: d4 :: d5 :: d6 :: d7 :: d8 :: d9 :: d10 :: d11 :: d12 :: d13 :: d14 :: d15 :: l)).cell 15 = d15 := Eq.trans rfl rfl
theorem qgz (d0 d1 d2 d3 d4 d5 d6 d7 d8 d9 d10 d11 d12 d13 d14 d15 d16 : D) (l : List D) : (D.agg (d0 :: d1 :: d2 :: d3 :: d4 :: d5 :: d6 :: d7 :: d8 :: d9 :: d10 :: d11 :: d12 :: d13 :: d14 :: d15 :: d16 :: l)).cell 16 = d16 := Eq.trans rfl rfl
theorem qg0 (d0 d1 d2 d3 d4 d5 d6 d7 d8 d9 d10 d11 d12 d13 d14 d15 d16 d17 : D) (l : List D) : (D.agg (d0 :: d1 :: d2 :: d3 :: d4 :: d5 :: d6 :: d7 :: d8 :: d9 :: d10 :: d11 :: d12 :: d13 :: d14 :: d15 :: d16 :: d17 :: l)).cell 17 = d17 := Eq.trans rfl rfl
theorem qg1 (d0 d1 d2 d3 d4 d5 d6 d7 d8 d9 d10 d11 d12 d13 d14 d15 d16 d17 d18 : D) (l : List D) : (D.agg (d0 :: d1 :: d2 :: d3 :: d4 :: d5 :: d6 :: d7 :: d8 :: d9 :: d10 :: d11 :: d12 :: d13 :: d14 :: d15 :: d16 :: d17 :: d18 :: l)).cell 18 = d18 := Eq.trans rfl rfl
theorem qg2 (d0 d1 d2 d3 d4 d5 d6 d7 d8 d9 d10 d11 d12 d13 d14 d15 d16 d17 d18 d19 : D) (l : List D) : (D.agg (d0 :: d1 :: d2 :: d3 :: d4 :: d5 :: d6 :: d7 :: d8 :: d9 :: d10 :: d11 :: d12 :: d13 :: d14 :: d15 :: d16 :: d17 :: d18 :: d19 :: l)).cell 19 = d19 := Eq.trans rfl rfl
theorem qg4 (d0 d1 d2 d3 d4 d5 d6 d7 d8 d9 d10 d11 d12 d13 d14 d15 d16 d17 d18 d19 d20 : D) (l : List D) : (D.agg (d0 :: d1 :: d2 :: d3 :: d4 :: d5 :: d6 :: d7 :: d8 :: d9 :: d10 :: d11 :: d12 :: d13 :: d14 :: d15 :: d16 :: d17 :: d18 :: d19 :: d20 :: l)).cell 20 = d20 := Eq.trans rfl rfl
theorem quw (o n : Bool) (l : List (Int × Int × Int × Int)) : (D.arr o n (.r4 l)).r4 = l := Eq.trans rfl rfl
end Go.Proofs.YtoldpdhhfmlckaaGreat
end
section
namespace Go.Proofs.YtoldpdhhfmlckaaGreat
open Go.Ev
def qxc (x0 : Int) (z1 : Bool) (l2 : List (Int × Int × Int)) (x3 : Int) (z4 : Bool) (l5 : List (Int × Int × Int)) (x6 : Int) : St := ⟨fill 38 [(2, (.ptr 1 0 0)), (3, (.ptr 3 0 0)), (5, (.int .i64 x0))], [], [(.arr false z1 (.r3 l2)), (.box true [(.int .i64 x3), (.sl 0 none)]), (.arr false z4 (.r3 l5)), (.box true [(.int .i64 x6), (.sl 2 none)])]⟩
theorem qls (k : Nat) (a0 : Int) (a1z : Bool) (a1 : List (Int × Int × Int)) (b0 : Int) (b1z : Bool) (b1 : List (Int × Int × Int)) : go (k + 1) spec_SameMesh [(.agg [(.int .i64 a0), (.arr false a1z (.r3 a1))]), (.agg [(.int .i64 b0), (.arr false b1z (.r3 b1))])] =
 cond (!decide (a0 = b0))
 (some [(.bool false)])
 (cond (!decide (nI (List.length a1) = nI (List.length b1)))
 (some [(.bool false)])
 (lp k spec_SameMesh [] [] 4 k (qxc (0 : Int) a1z a1 a0 b1z b1 b0))) := by kernel_rfl
theorem qp2 (k n : Nat) (fu : List (Nat × Nat)) (x0 : Int) (z1 : Bool) (l2 : List (Int × Int × Int)) (x3 : Int) (z4 : Bool) (l5 : List (Int × Int × Int)) (x6 : Int) : lp k spec_SameMesh [] fu 4 (n + 1) (qxc x0 z1 l2 x3 z4 l5 x6) =
 cond (decide (x0 < nI (List.length l2)))
 (cond (decide ((0 : Int) ≤ x0) && decide (x0 < nI (List.length l2)))
 (cond (decide ((0 : Int) ≤ x0) && decide (x0 < nI (List.length l5)))
 (cond (!(decide (Prod.fst (List.getD l2 (Int.toNat x0) zz3) = Prod.fst (List.getD l5 (Int.toNat x0) zz3)) && (decide (Prod.fst (Prod.snd (List.getD l2 (Int.toNat x0) zz3)) = Prod.fst (Prod.snd (List.getD l5 (Int.toNat x0) zz3))) && (decide (Prod.snd (Prod.snd (List.getD l2 (Int.toNat x0) zz3)) = Prod.snd (Prod.snd (List.getD l5 (Int.toNat x0) zz3))) && true))))
 (some [(.bool false)])
 (lp k spec_SameMesh [] fu 4 n (qxc (IntKind.wrap .i64 (x0 + (1 : Int))) z1 l2 x3 z4 l5 x6)))
 none)
 none)
 (some [(.bool true)]) := by kernel_rfl

end Go.Proofs.YtoldpdhhfmlckaaGreat
end
section
namespace Go.Proofs.YtoldpdhhfmlckaaGreat
open Go.Ev
theorem qj1 (k : Nat) (a0 : Int) (a1z : Bool) (a1 : List (Int × Int × Int)) (a2z : Bool) (a2 : List Int) (a3z : Bool) (a3 : List Int) (a4z : Bool) (a4 : List Int) : go (k + 1) impl_TotalMass [(.agg [(.int .i64 a0), (.arr false a1z (.r3 a1)), (.arr false a2z (.ints .i64 a2)), (.arr false a3z (.ints .i64 a3)), (.arr false a4z (.ints .i64 a4))])] =
 (go k impl_StateOk [(.agg [(.int .i64 a0), (.arr false a1z (.r3 a1)), (.arr false a2z (.ints .i64 a2)), (.arr false a3z (.ints .i64 a3)), (.arr false a4z (.ints .i64 a4))])]).bind fun r0 =>
 cond (!bit (nth r0 0))
 (some [(.int .i64 (0 : Int))])
 ((go k impl_sum [(.arr false a2z (.ints .i64 a2))]).bind fun r1 =>
 some [(.int .i64 (D.toInt (nth r1 0)))]) := by kernel_rfl
def qxw (x0 : Int) (z1 : Bool) (l2 : List Int) (z3 : Bool) (l4 : List Int) : St := ⟨fill 26 [(0, (.sl 0 none)), (1, (.sl 1 none)), (5, (.int .i64 x0))], [], [(.arr false z1 (.ints .i64 l2)), (.arr false z3 (.ints .i64 l4))]⟩
theorem qm5 (k : Nat) (az : Bool) (a : List Int) (bz : Bool) (b : List Int) : go (k + 1) spec_l24Same [(.arr false az (.ints .i64 a)), (.arr false bz (.ints .i64 b))] =
 cond (!decide (nI (List.length a) = nI (List.length b)))
 (some [(.bool false)])
 (lp k spec_l24Same [] [] 4 k (qxw (0 : Int) az a bz b)) := by kernel_rfl
theorem qqm (k n : Nat) (fu : List (Nat × Nat)) (x0 : Int) (z1 : Bool) (l2 : List Int) (z3 : Bool) (l4 : List Int) : lp k spec_l24Same [] fu 4 (n + 1) (qxw x0 z1 l2 z3 l4) =
 cond (decide (x0 < nI (List.length l2)))
 (cond (decide ((0 : Int) ≤ x0) && decide (x0 < nI (List.length l2)))
 (cond (decide ((0 : Int) ≤ x0) && decide (x0 < nI (List.length l4)))
 (cond (!decide (List.getD l2 (Int.toNat x0) (0 : Int) = List.getD l4 (Int.toNat x0) (0 : Int)))
 (some [(.bool false)])
 (lp k spec_l24Same [] fu 4 n (qxw (IntKind.wrap .i64 (x0 + (1 : Int))) z1 l2 z3 l4)))
 none)
 none)
 (some [(.bool true)]) := by kernel_rfl

end Go.Proofs.YtoldpdhhfmlckaaGreat
end
section
namespace Go.Proofs.YtoldpdhhfmlckaaGreat
open Go.Ev
theorem qm6 (k : Nat) (a : Int) : go (k + 1) spec_l36Amount [(.int .i64 a)] =
 (go k spec_l01In [(.int .i64 a), (.int .i64 (0 : Int)), (.int .i64 ((1000000000000000 : Int)))]).bind fun r0 =>
 some [(.bool (bit (nth r0 0)))] := by kernel_rfl
theorem qkh (k : Nat) (a0 a1 a2 a3 : Int) : go (k + 1) impl_ledgerOk [(.agg [(.int .i64 a0), (.int .i64 a1), (.int .i64 a2), (.int .i64 a3)])] =
 (go k impl_within [(.int .i64 a0), (.int .i64 (0 : Int)), (.int .i64 ((1000000000000000 : Int)))]).bind fun r0 =>
 cond (bit (nth r0 0))
 ((go k impl_within [(.int .i64 a1), (.int .i64 (0 : Int)), (.int .i64 ((1000000000000000 : Int)))]).bind fun r1 =>
 cond (bit (nth r1 0))
 ((go k impl_within [(.int .i64 a2), (.int .i64 (0 : Int)), (.int .i64 ((1000000000000000 : Int)))]).bind fun r2 =>
 cond (bit (nth r2 0))
 ((go k impl_within [(.int .i64 a3), (.int .i64 (0 : Int)), (.int .i64 ((1000000000000000 : Int)))]).bind fun r3 =>
 some [(.bool (bit (nth r3 0)))])
 (some [(.bool false)]))
 (some [(.bool false)]))
 (some [(.bool false)]) := by kernel_rfl
theorem ql1 (k : Nat) (a0 : Int) (a1z : Bool) (a1 : List (Int × Int × Int)) (a2z : Bool) (a2 : List Int) (a3z : Bool) (a3 : List Int) (a4z : Bool) (a4 : List Int) (b0 b1 b2 b3 b4 b5 b6 b7 b8 : Int) : go (k + 1) spec_WorldNew [(.agg [(.int .i64 a0), (.arr false a1z (.r3 a1)), (.arr false a2z (.ints .i64 a2)), (.arr false a3z (.ints .i64 a3)), (.arr false a4z (.ints .i64 a4))]), (.agg [(.int .i64 b0), (.int .i64 b1), (.int .i64 b2), (.int .i64 b3), (.int .i64 b4), (.int .i64 b5), (.int .i64 b6), (.int .i64 b7), (.int .i64 b8)])] =
 (go k spec_StateOk [(.agg [(.int .i64 a0), (.arr false a1z (.r3 a1)), (.arr false a2z (.ints .i64 a2)), (.arr false a3z (.ints .i64 a3)), (.arr false a4z (.ints .i64 a4))])]).bind fun r0 =>
 cond (!bit (nth r0 0))
 (some [(.agg [(.int .i64 (0 : Int)), (.arr true true (.r3 [])), (.arr true true (.ints .i64 [])), (.arr true true (.ints .i64 [])), (.arr true true (.ints .i64 [])), (.int .i64 (0 : Int)), (.int .i64 (0 : Int)), (.int .i64 (0 : Int)), (.int .i64 (0 : Int)), (.int .i64 (0 : Int)), (.int .i64 (0 : Int)), (.int .i64 (0 : Int)), (.int .i64 (0 : Int)), (.int .i64 (0 : Int)), (.int .i64 (0 : Int)), (.int .i64 (0 : Int)), (.int .i64 (0 : Int)), (.int .i64 (0 : Int)), (.int .i64 (0 : Int)), (.int .i64 (0 : Int)), (.int .i64 (0 : Int))]), (.bool false)])
 ((go k spec_PlanOk [(.agg [(.int .i64 b0), (.int .i64 b1), (.int .i64 b2), (.int .i64 b3), (.int .i64 b4), (.int .i64 b5), (.int .i64 b6), (.int .i64 b7), (.int .i64 b8)])]).bind fun r1 =>
 cond (!bit (nth r1 0))
 (some [(.agg [(.int .i64 (0 : Int)), (.arr true true (.r3 [])), (.arr true true (.ints .i64 [])), (.arr true true (.ints .i64 [])), (.arr true true (.ints .i64 [])), (.int .i64 (0 : Int)), (.int .i64 (0 : Int)), (.int .i64 (0 : Int)), (.int .i64 (0 : Int)), (.int .i64 (0 : Int)), (.int .i64 (0 : Int)), (.int .i64 (0 : Int)), (.int .i64 (0 : Int)), (.int .i64 (0 : Int)), (.int .i64 (0 : Int)), (.int .i64 (0 : Int)), (.int .i64 (0 : Int)), (.int .i64 (0 : Int)), (.int .i64 (0 : Int)), (.int .i64 (0 : Int)), (.int .i64 (0 : Int))]), (.bool false)])
 ((go k spec_l07Copy [(.agg [(.int .i64 a0), (.arr false a1z (.r3 a1)), (.arr false a2z (.ints .i64 a2)), (.arr false a3z (.ints .i64 a3)), (.arr false a4z (.ints .i64 a4))])]).bind fun r2 =>
 (go k spec_l07Sum [(.arr false a2z (.ints .i64 a2))]).bind fun r3 =>
 (go k spec_l07Sum [(.arr false a3z (.ints .i64 a3))]).bind fun r4 =>
 some [(.agg [(.int .i64 (D.toInt (D.cell 0 (nth r2 0)))), (.arr true (D.nil (D.cell 1 (nth r2 0))) (.r3 (D.r3 (D.cell 1 (nth r2 0))))), (.arr true (D.nil (D.cell 2 (nth r2 0))) (.ints .i64 (D.ints (D.cell 2 (nth r2 0))))), (.arr true (D.nil (D.cell 3 (nth r2 0))) (.ints .i64 (D.ints (D.cell 3 (nth r2 0))))), (.arr true (D.nil (D.cell 4 (nth r2 0))) (.ints .i64 (D.ints (D.cell 4 (nth r2 0))))), (.int .i64 b0), (.int .i64 b1), (.int .i64 b2), (.int .i64 b3), (.int .i64 b4), (.int .i64 b5), (.int .i64 b6), (.int .i64 b7), (.int .i64 b8), (.int .i64 (0 : Int)), (.int .i64 (0 : Int)), (.int .i64 (0 : Int)), (.int .i64 (0 : Int)), (.int .i64 (0 : Int)), (.int .i64 (D.toInt (nth r3 0))), (.int .i64 (D.toInt (nth r4 0)))]), (.bool true)])) := by kernel_rfl

end Go.Proofs.YtoldpdhhfmlckaaGreat
end
section
namespace Go.Proofs.YtoldpdhhfmlckaaGreat
open Go.Ev
def qnd : D := .agg [.int .i64 0, .arr true true (.r3 []), .arr true true (.ints .i64 []), .arr true true (.ints .i64 []), .arr true true (.ints .i64 []), .int .i64 0, .int .i64 0, .int .i64 0, .int .i64 0, .int .i64 0, .int .i64 0, .int .i64 0, .int .i64 0, .int .i64 0, .int .i64 0, .int .i64 0, .int .i64 0, .int .i64 0, .int .i64 0, .int .i64 0, .int .i64 0]
def newW (r : Int) (l : List Cell) (m t b : List Int) (b0 b1 b2 b3 b4 b5 b6 b7 b8 : Int) : D := .agg [.int .i64 r, .arr true false (.r3 l), .arr true false (.ints .i64 m), .arr true false (.ints .i64 t), .arr true false (.ints .i64 b), .int .i64 b0, .int .i64 b1, .int .i64 b2, .int .i64 b3, .int .i64 b4, .int .i64 b5, .int .i64 b6, .int .i64 b7, .int .i64 b8, .int .i64 0, .int .i64 0, .int .i64 0, .int .i64 0, .int .i64 0, .int .i64 (isum m), .int .i64 (isum t)]
theorem qfb (k : Nat) (hk : 2000000 ≤ k) (a0 : Int) (a1 : List Cell) (a2 a3 a4 : List Int) (b0 b1 b2 b3 b4 b5 b6 b7 b8 : Int) (h1 : (a1.length : Int) ≤ 1048576) (h4 : (a4.length : Int) ≤ 1048576) :
    go (k + 8) spec_WorldNew [.agg [.int .i64 a0, .arr false false (.r3 a1), .arr false false (.ints .i64 a2), .arr false false (.ints .i64 a3), .arr false false (.ints .i64 a4)], .agg [.int .i64 b0, .int .i64 b1, .int .i64 b2, .int .i64 b3, .int .i64 b4, .int .i64 b5, .int .i64 b6, .int .i64 b7, .int .i64 b8]] =
    cond (stOk a0 a1 a2 a3 a4 && quq b0 b1 b2 b3 b4 b5 b6 b7 b8) (some [newW a0 a1 a2 a3 a4 b0 b1 b2 b3 b4 b5 b6 b7 b8, .bool true]) (some [qnd, .bool false]) := by
  rw [ql1]
  simp (disch := omega) only [qe7, bit, qew, qa9, nth0, qzt]
  cases g : stOk a0 a1 a2 a3 a4
  · rfl
  cases g2 : quq b0 b1 b2 b3 b4 b5 b6 b7 b8
  · rfl
  have F := stF.1 g
  have := F.len; have := F.ml; have := F.tl; have := F.bl; have := F.rr
  simp only [Bool.not_true, qhj]
  rw [qfy _ (by omega) _ _ (by omega) F.mmem, qfy _ (by omega) _ _ (by omega) F.tmem]
  simp (disch := omega) only [qfw, qa9, nth0, qzu, qgr, qgs, qt3, quv, qg3, qob, qg5, qg6, Bool.and_true, qhl]
  rfl
end Go.Proofs.YtoldpdhhfmlckaaGreat
end
section
namespace Go.Proofs.YtoldpdhhfmlckaaGreat
open Go.Ev
theorem ql2 (k : Nat) (a0 : Int) (a1z : Bool) (a1 : List (Int × Int × Int)) (a2z : Bool) (a2 : List Int) (a3z : Bool) (a3 : List Int) (a4z : Bool) (a4 : List Int) (a5 a6 a7 a8 a9 a10 a11 a12 a13 a14 a15 a16 a17 a18 a19 a20 : Int) : go (k + 1) spec_WorldOk [(.agg [(.int .i64 a0), (.arr false a1z (.r3 a1)), (.arr false a2z (.ints .i64 a2)), (.arr false a3z (.ints .i64 a3)), (.arr false a4z (.ints .i64 a4)), (.int .i64 a5), (.int .i64 a6), (.int .i64 a7), (.int .i64 a8), (.int .i64 a9), (.int .i64 a10), (.int .i64 a11), (.int .i64 a12), (.int .i64 a13), (.int .i64 a14), (.int .i64 a15), (.int .i64 a16), (.int .i64 a17), (.int .i64 a18), (.int .i64 a19), (.int .i64 a20)])] =
 (go k spec_StateOk [(.agg [(.int .i64 a0), (.arr false a1z (.r3 a1)), (.arr false a2z (.ints .i64 a2)), (.arr false a3z (.ints .i64 a3)), (.arr false a4z (.ints .i64 a4))])]).bind fun r0 =>
 cond (!bit (nth r0 0))
 (some [(.bool false)])
 ((go k spec_PlanOk [(.agg [(.int .i64 a5), (.int .i64 a6), (.int .i64 a7), (.int .i64 a8), (.int .i64 a9), (.int .i64 a10), (.int .i64 a11), (.int .i64 a12), (.int .i64 a13)])]).bind fun r1 =>
 cond (!bit (nth r1 0))
 (some [(.bool false)])
 ((go k spec_l01In [(.int .i64 a14), (.int .i64 (0 : Int)), (.int .i64 ((100000 : Int)))]).bind fun r2 =>
 cond (!bit (nth r2 0))
 (some [(.bool false)])
 ((go k spec_l36Amount [(.int .i64 a15)]).bind fun r3 =>
 cond (!bit (nth r3 0))
 (some [(.bool false)])
 ((go k spec_l36Amount [(.int .i64 a16)]).bind fun r4 =>
 cond (!bit (nth r4 0))
 (some [(.bool false)])
 ((go k spec_l36Amount [(.int .i64 a17)]).bind fun r5 =>
 cond (!bit (nth r5 0))
 (some [(.bool false)])
 ((go k spec_l36Amount [(.int .i64 a18)]).bind fun r6 =>
 cond (!bit (nth r6 0))
 (some [(.bool false)])
 ((go k spec_l07Sum [(.arr false a2z (.ints .i64 a2))]).bind fun r7 =>
 cond (decide (IntKind.wrap .i64 (IntKind.wrap .i64 (D.toInt (nth r7 0) - a15) + a16) = a19))
 ((go k spec_l07Sum [(.arr false a3z (.ints .i64 a3))]).bind fun r8 =>
 some [(.bool (decide (IntKind.wrap .i64 (IntKind.wrap .i64 (D.toInt (nth r8 0) - a17) + a18) = a20)))])
 (some [(.bool false)])))))))) := by kernel_rfl
theorem qj4 (k : Nat) (a0 : Int) (a1z : Bool) (a1 : List (Int × Int × Int)) (a2z : Bool) (a2 : List Int) (a3z : Bool) (a3 : List Int) (a4z : Bool) (a4 : List Int) (a5 a6 a7 a8 a9 a10 a11 a12 a13 a14 a15 a16 a17 a18 a19 a20 : Int) : go (k + 1) impl_WorldOk [(.agg [(.int .i64 a0), (.arr false a1z (.r3 a1)), (.arr false a2z (.ints .i64 a2)), (.arr false a3z (.ints .i64 a3)), (.arr false a4z (.ints .i64 a4)), (.int .i64 a5), (.int .i64 a6), (.int .i64 a7), (.int .i64 a8), (.int .i64 a9), (.int .i64 a10), (.int .i64 a11), (.int .i64 a12), (.int .i64 a13), (.int .i64 a14), (.int .i64 a15), (.int .i64 a16), (.int .i64 a17), (.int .i64 a18), (.int .i64 a19), (.int .i64 a20)])] =
 (go k impl_StateOk [(.agg [(.int .i64 a0), (.arr false a1z (.r3 a1)), (.arr false a2z (.ints .i64 a2)), (.arr false a3z (.ints .i64 a3)), (.arr false a4z (.ints .i64 a4))])]).bind fun r0 =>
 cond (bit (nth r0 0))
 ((go k impl_PlanOk [(.agg [(.int .i64 a5), (.int .i64 a6), (.int .i64 a7), (.int .i64 a8), (.int .i64 a9), (.int .i64 a10), (.int .i64 a11), (.int .i64 a12), (.int .i64 a13)])]).bind fun r1 =>
 cond (bit (nth r1 0))
 ((go k impl_within [(.int .i64 a14), (.int .i64 (0 : Int)), (.int .i64 ((100000 : Int)))]).bind fun r2 =>
 cond (bit (nth r2 0))
 ((go k impl_ledgerOk [(.agg [(.int .i64 a15), (.int .i64 a16), (.int .i64 a17), (.int .i64 a18)])]).bind fun r3 =>
 cond (bit (nth r3 0))
 ((go k impl_sum [(.arr false a2z (.ints .i64 a2))]).bind fun r4 =>
 cond (decide (a19 = IntKind.wrap .i64 (IntKind.wrap .i64 (D.toInt (nth r4 0) - a15) + a16)))
 ((go k impl_sum [(.arr false a3z (.ints .i64 a3))]).bind fun r5 =>
 some [(.bool (decide (a20 = IntKind.wrap .i64 (IntKind.wrap .i64 (D.toInt (nth r5 0) - a17) + a18))))])
 (some [(.bool false)]))
 (some [(.bool false)]))
 (some [(.bool false)]))
 (some [(.bool false)]))
 (some [(.bool false)]) := by kernel_rfl

end Go.Proofs.YtoldpdhhfmlckaaGreat
end
section
namespace Go.Proofs.YtoldpdhhfmlckaaGreat
open Go.Ev
theorem qge (k : Nat) (hk : 2000000 ≤ k) (a : Int) : go (k + 2) spec_l36Amount [(.int .i64 (a))] = some [.bool (inR a 0 1000000000000000)] := by
  rw [qm6]
  simp (disch := omega) only [qfj, bit, qa9, nth0, qzt]
theorem qdg (k : Nat) (hk : 2000000 ≤ k) (a0 : Int) (a1 : Int) (a2 : Int) (a3 : Int) : go (k + 2) impl_ledgerOk [(.agg [(.int .i64 (a0)), (.int .i64 (a1)), (.int .i64 (a2)), (.int .i64 (a3))])] = some [.bool (qqv a0 a1 a2 a3)] := by
  rw [qkh]
  simp (disch := omega) only [qdy, bit, qa9, nth0, qzt, qhn]
  rfl
theorem qn8 {a m : Int} (h : inR a 0 m = true) : 0 ≤ a ∧ a ≤ m := by
  simp only [inR, Bool.and_eq_true, decide_eq_true_eq] at h
  omega
theorem qhz (a b : Int) : decide (a = b) = decide (b = a) := decide_eq_decide.2 eq_comm
theorem qfd (k : Nat) (hk : 2000000 ≤ k) (a0 : Int) (a1z : Bool) (a1 : List (Int × Int × Int)) (a2z : Bool) (a2 : List Int) (a3z : Bool) (a3 : List Int) (a4z : Bool) (a4 : List Int) (a5 : Int) (a6 : Int) (a7 : Int) (a8 : Int) (a9 : Int) (a10 : Int) (a11 : Int) (a12 : Int) (a13 : Int) (a14 : Int) (a15 : Int) (a16 : Int) (a17 : Int) (a18 : Int) (a19 : Int) (a20 : Int) (h1 : (a1.length : Int) ≤ 1048576) (h4 : (a4.length : Int) ≤ 1048576) :
    go (k + 8) spec_WorldOk [(.agg [(.int .i64 (a0)), (.arr false (a1z) (.r3 (a1))), (.arr false (a2z) (.ints .i64 (a2))), (.arr false (a3z) (.ints .i64 (a3))), (.arr false (a4z) (.ints .i64 (a4))), (.int .i64 (a5)), (.int .i64 (a6)), (.int .i64 (a7)), (.int .i64 (a8)), (.int .i64 (a9)), (.int .i64 (a10)), (.int .i64 (a11)), (.int .i64 (a12)), (.int .i64 (a13)), (.int .i64 (a14)), (.int .i64 (a15)), (.int .i64 (a16)), (.int .i64 (a17)), (.int .i64 (a18)), (.int .i64 (a19)), (.int .i64 (a20))])] = some [.bool (q0j a0 a1 a2 a3 a4 a5 a6 a7 a8 a9 a10 a11 a12 a13 a14 a15 a16 a17 a18 a19 a20)] := by
  rw [ql2]
  simp (disch := omega) only [qe7, bit, qew, qfj, qge, qa9, nth0, qzt]
  simp only [q0j, qqv]
  cases g : stOk a0 a1 a2 a3 a4
  · rfl
  cases g2 : quq a5 a6 a7 a8 a9 a10 a11 a12 a13
  · rfl
  cases g3 : inR a14 0 100000
  · rfl
  cases g4 : inR a15 0 1000000000000000
  · rfl
  cases g5 : inR a16 0 1000000000000000
  · rfl
  cases g6 : inR a17 0 1000000000000000
  · rfl
  cases g7 : inR a18 0 1000000000000000
  · rfl
  have F := stF.1 g
  have := F.len; have := F.ml; have := F.tl; have := F.bl; have := F.rr
  have b4 := qn8 g4; have b5 := qn8 g5; have b6 := qn8 g6; have b7 := qn8 g7
  have s1 := qoh _ F.mmem; have s2 := qoh _ F.tmem
  simp only [Bool.not_true, qhj, Bool.true_and]
  rw [qfy _ (by omega) _ _ (by omega) F.mmem, qfy _ (by omega) _ _ (by omega) F.tmem]
  simp (disch := omega) only [qa9, nth0, qzu, q0l, qhn]
theorem qcr (k : Nat) (hk : 2000000 ≤ k) (a0 : Int) (a1z : Bool) (a1 : List (Int × Int × Int)) (a2z : Bool) (a2 : List Int) (a3z : Bool) (a3 : List Int) (a4z : Bool) (a4 : List Int) (a5 : Int) (a6 : Int) (a7 : Int) (a8 : Int) (a9 : Int) (a10 : Int) (a11 : Int) (a12 : Int) (a13 : Int) (a14 : Int) (a15 : Int) (a16 : Int) (a17 : Int) (a18 : Int) (a19 : Int) (a20 : Int) (h1 : (a1.length : Int) ≤ 1048576) (h4 : (a4.length : Int) ≤ 1048576) :
    go (k + 9) impl_WorldOk [(.agg [(.int .i64 (a0)), (.arr false (a1z) (.r3 (a1))), (.arr false (a2z) (.ints .i64 (a2))), (.arr false (a3z) (.ints .i64 (a3))), (.arr false (a4z) (.ints .i64 (a4))), (.int .i64 (a5)), (.int .i64 (a6)), (.int .i64 (a7)), (.int .i64 (a8)), (.int .i64 (a9)), (.int .i64 (a10)), (.int .i64 (a11)), (.int .i64 (a12)), (.int .i64 (a13)), (.int .i64 (a14)), (.int .i64 (a15)), (.int .i64 (a16)), (.int .i64 (a17)), (.int .i64 (a18)), (.int .i64 (a19)), (.int .i64 (a20))])] = some [.bool (q0j a0 a1 a2 a3 a4 a5 a6 a7 a8 a9 a10 a11 a12 a13 a14 a15 a16 a17 a18 a19 a20)] := by
  rw [qj4]
  simp (disch := omega) only [qck, bit, qca, qdy, qdg, qa9, nth0, qzt]
  simp only [q0j]
  cases g : stOk a0 a1 a2 a3 a4
  · rfl
  cases g2 : quq a5 a6 a7 a8 a9 a10 a11 a12 a13
  · rfl
  cases g3 : inR a14 0 100000
  · rfl
  cases g4 : qqv a15 a16 a17 a18
  · rfl
  have F := stF.1 g
  have := F.len; have := F.ml; have := F.tl; have := F.bl; have := F.rr
  have g4' := g4
  simp only [qqv, Bool.and_eq_true] at g4'
  obtain ⟨i1, i2, i3, i4⟩ := g4'
  have b4 := qn8 i1; have b5 := qn8 i2; have b6 := qn8 i3; have b7 := qn8 i4
  have s1 := qoh _ F.mmem; have s2 := qoh _ F.tmem
  simp only [qhl, Bool.true_and]
  rw [qdu _ (by omega) _ _ (by omega) F.mmem, qdu _ (by omega) _ _ (by omega) F.tmem]
  simp (disch := omega) only [qa9, nth0, qzu, q0l, qhn]
  rw [qhz a19, qhz a20]
end Go.Proofs.YtoldpdhhfmlckaaGreat
end
section
namespace Go.Proofs.YtoldpdhhfmlckaaGreat
open Go.Ev
theorem qh3 {α : Type} {l l' : List α} {i : Nat} (h : i < l.length) (h' : i < l'.length) (d : α) : l.drop i = l'.drop i ↔ l.getD i d = l'.getD i d ∧ l.drop (i + 1) = l'.drop (i + 1) := by
  rw [qh2 h d, qh2 h' d]; simp
theorem qqw {α : Type} {l l' : List α} (h : ¬ l.length = l'.length) : ¬ l = l' := fun e => h (by rw [e])
theorem qsz (k : Nat) (hk : 2000000 ≤ k) (fu : List (Nat × Nat)) (z z' : Bool) (l l' : List Int) (hl : (l.length : Int) ≤ 1048576) (he : l'.length = l.length) : ∀ (n i : Nat), i ≤ l.length → l.length - i < n →
    lp k spec_l24Same [] fu 4 (n) (qxw (i : Int) z l z' l') = some [.bool (decide (l.drop i = l'.drop i))]
  | 0, i, hi, hn => by omega
  | n + 1, i, hi, hn => by
    rw [qqm]
    by_cases h : i < l.length
    · have e := qsz k hk fu z z' l l' hl he n (i + 1) (by omega) (by omega)
      by_cases g : l.getD i 0 = l'.getD i 0
      · simp (disch := omega) only [nI, dT, Bool.and_true, Int.toNat_natCast, Bool.not_true, qgp, q0l, e, qhj, qhl]
        exact congrArg (fun b => some [D.bool b]) (by simp only [qh3 h (by omega : i < l'.length) 0, g, true_and])
      · simp (disch := omega) only [nI, dT, Bool.and_true, Int.toNat_natCast, dF, Bool.not_false, qgp, q0l, e, qhl]
        exact congrArg (fun b => some [D.bool b]) (by rw [dF]; rw [qh3 h (by omega : i < l'.length) 0]; exact fun hh => g hh.1)
    · simp (disch := omega) only [nI, dF, dT, Bool.and_false, Int.toNat_natCast, qgp, q0l, qhj]
      rw [List.drop_of_length_le (by omega), List.drop_of_length_le (by omega)]; rfl
theorem qgd (k : Nat) (hk : 2000000 ≤ k) (az : Bool) (a : List Int) (bz : Bool) (b : List Int) (hl : (a.length : Int) ≤ 1048576) : go (k + 1) spec_l24Same [(.arr false (az) (.ints .i64 (a))), (.arr false (bz) (.ints .i64 (b)))] = some [.bool (decide (a = b))] := by
  rw [qm5]
  by_cases h : a.length = b.length
  · simp (disch := omega) only [nI, dT, Bool.not_true, qhj]
    have e := qsz k hk [] az bz a b hl (by omega) (k + 0) 0 (by omega) (by omega)
    simp only [List.drop_zero] at e; exact e
  · simp (disch := omega) only [nI, dF, Bool.not_false, qhl]
    rw [dF (qqw h)]
theorem qhc (x y : Cell) : (decide (x.1 = y.1) && (decide (x.2.1 = y.2.1) && decide (x.2.2 = y.2.2))) = decide (x = y) := by
  obtain ⟨a, b, c⟩ := x; obtain ⟨a', b', c'⟩ := y
  rw [Bool.eq_iff_iff]; simp
def qx1 (r r' : Int) (l l' : List Cell) : Bool := decide (r = r') && decide (l = l')
theorem qsn (k : Nat) (hk : 2000000 ≤ k) (fu : List (Nat × Nat)) (z z' : Bool) (r r' : Int) (l l' : List Cell) (hl : (l.length : Int) ≤ 1048576) (he : l'.length = l.length) : ∀ (n i : Nat), i ≤ l.length → l.length - i < n →
    lp k spec_SameMesh [] fu 4 (n) (qxc (i : Int) z l r z' l' r') = some [.bool (decide (l.drop i = l'.drop i))]
  | 0, i, hi, hn => by omega
  | n + 1, i, hi, hn => by
    rw [qp2]
    by_cases h : i < l.length
    · have e := qsn k hk fu z z' r r' l l' hl he n (i + 1) (by omega) (by omega)
      by_cases g : l.getD i zz3 = l'.getD i zz3
      · simp (disch := omega) only [nI, dT, Bool.and_true, Int.toNat_natCast, g, dTT, Bool.not_true, qgp, q0l, e, qhj, qhl]
        exact congrArg (fun b => some [D.bool b]) (by simp only [qh3 h (by omega : i < l'.length) zz3, g, true_and])
      · simp (disch := omega) only [nI, dT, Bool.and_true, Int.toNat_natCast, qhc, dF, Bool.not_false, qgp, q0l, e, qhl]
        exact congrArg (fun b => some [D.bool b]) (by rw [dF]; rw [qh3 h (by omega : i < l'.length) zz3]; exact fun hh => g hh.1)
    · simp (disch := omega) only [nI, dF, dT, Bool.and_false, Int.toNat_natCast, Bool.and_true, qgp, q0l, qhj]
      rw [List.drop_of_length_le (by omega), List.drop_of_length_le (by omega)]; rfl
theorem qe0 (k : Nat) (hk : 2000000 ≤ k) (a0 : Int) (a1z : Bool) (a1 : List (Int × Int × Int)) (b0 : Int) (b1z : Bool) (b1 : List (Int × Int × Int)) (hl : (a1.length : Int) ≤ 1048576) : go (k + 1) spec_SameMesh [(.agg [(.int .i64 (a0)), (.arr false (a1z) (.r3 (a1)))]), (.agg [(.int .i64 (b0)), (.arr false (b1z) (.r3 (b1)))])] = some [.bool (qx1 a0 b0 a1 b1)] := by
  rw [qls]
  unfold qx1
  by_cases h0 : a0 = b0
  case neg => simp (disch := omega) only [dF, Bool.not_false, nI, qhl, Bool.false_and]
  by_cases h : a1.length = b1.length
  · simp (disch := omega) only [dT, Bool.not_true, nI, qhj, Bool.true_and]
    have e := qsn k hk [] a1z b1z a0 b0 a1 b1 hl (by omega) (k + 0) 0 (by omega) (by omega)
    simp only [List.drop_zero] at e; exact e
  · simp (disch := omega) only [dT, Bool.not_true, nI, dF, Bool.not_false, qhl, qhj, Bool.true_and]
    rw [dF (qqw h)]
end Go.Proofs.YtoldpdhhfmlckaaGreat
end
section
namespace Go.Proofs.YtoldpdhhfmlckaaGreat
open Go.Ev
theorem qip (k : Nat) (a0 : Int) (a1z : Bool) (a1 : List (Int × Int × Int)) (b : Int) : go (k + 1) impl_LeafAt [(.agg [(.int .i64 a0), (.arr false a1z (.r3 a1))]), (.int .i64 b)] =
 (go k impl_MeshOk [(.agg [(.int .i64 a0), (.arr false a1z (.r3 a1))])]).bind fun r0 =>
 cond (!bit (nth r0 0))
 (some [(.int .i64 ((-1 : Int)))])
 ((go k slices_IndexFunc_impl_Id_impl_Id [(.arr false a1z (.r3 a1)), (.fn impl_LeafAt_1 [(.ptr false [(.int .i64 b)])])]).bind fun r1 =>
 some [(.int .i64 (D.toInt (nth r1 0)))]) := by kernel_rfl
theorem qiq (k : Nat) (v0 v1 v2 v3 : Int) : go (k + 1) impl_LeafAt_1 [(.agg [(.int .i64 v0), (.int .i64 v1), (.int .i64 v2)]), (.ptr false [(.int .i64 v3)])] =
 (go k impl_StartOf [(.agg [(.int .i64 v0), (.int .i64 v1), (.int .i64 v2)])]).bind fun r0 =>
 cond (decide (D.toInt (nth r0 0) ≤ v3))
 ((go k impl_endOf [(.agg [(.int .i64 v0), (.int .i64 v1), (.int .i64 v2)])]).bind fun r1 =>
 some [(.bool (decide (v3 < D.toInt (nth r1 0))))])
 (some [(.bool false)]) := by kernel_rfl
def qwx (x0 x1 : Int) (z2 : Bool) (l3 : List (Int × Int × Int)) (x4 : Int) : St := ⟨fill 19 [(0, (.sl 0 none)), (1, (.fn impl_LeafAt_1 [(.ptr 1 0 0)])), (7, (.int .i64 x0)), (8, (.int .i64 x1))], [], [(.arr false z2 (.r3 l3)), (.box false [(.int .i64 x4)])]⟩
theorem qky (k : Nat) (v0 : Bool) (v1 : List (Int × Int × Int)) (v2 : Int) : go (k + 1) slices_IndexFunc_impl_Id_impl_Id [(.arr false v0 (.r3 v1)), (.fn impl_LeafAt_1 [(.ptr false [(.int .i64 v2)])])] =
 lp k slices_IndexFunc_impl_Id_impl_Id [] [] 2 k (qwx (nI (List.length v1)) (0 : Int) v0 v1 v2) := by kernel_rfl
theorem qpn (k n : Nat) (fu : List (Nat × Nat)) (x0 x1 : Int) (z2 : Bool) (l3 : List (Int × Int × Int)) (x4 : Int) : lp k slices_IndexFunc_impl_Id_impl_Id [] fu 2 (n + 1) (qwx x0 x1 z2 l3 x4) =
 cond (decide (x1 < x0))
 (cond (decide ((0 : Int) ≤ x1) && decide (x1 < nI (List.length l3)))
 ((go k impl_LeafAt_1 [(.agg [(.int .i64 (Prod.fst (List.getD l3 (Int.toNat x1) zz3))), (.int .i64 (Prod.fst (Prod.snd (List.getD l3 (Int.toNat x1) zz3)))), (.int .i64 (Prod.snd (Prod.snd (List.getD l3 (Int.toNat x1) zz3))))]), (.ptr false [(.int .i64 x4)])]).bind fun r0 =>
 cond (bit (nth r0 0))
 (some [(.int .i64 x1)])
 (lp k slices_IndexFunc_impl_Id_impl_Id [] fu 2 n (qwx x0 (IntKind.wrap .i64 (x1 + (1 : Int))) z2 l3 x4)))
 none)
 (some [(.int .i64 ((-1 : Int)))]) := by kernel_rfl
end Go.Proofs.YtoldpdhhfmlckaaGreat
end
section
namespace Go.Proofs.YtoldpdhhfmlckaaGreat
open Go.Ev
abbrev cst (x : Cell) : Int := qyv x.1 x.2.1 x.2.2
def qqs (pos : Int) (l : List Cell) : Nat → Nat → Int
  | 0, _ => -1
  | n + 1, i => cond (decide (cst (l.getD i zz3) ≤ pos) && decide (pos < cst (l.getD i zz3) + q0d (l.getD i zz3).2.1)) (i : Int) (qqs pos l n (i + 1))
theorem qqt (pos : Int) (l : List Cell) : ∀ (n i : Nat), -1 ≤ qqs pos l n i ∧ qqs pos l n i < ((i + n : Nat) : Int) ∧ (0 ≤ qqs pos l n i → (i : Int) ≤ qqs pos l n i)
  | 0, i => by simp [qqs]; omega
  | n + 1, i => by
    have := qqt pos l n (i + 1)
    unfold qqs
    cases (decide (cst (l.getD i zz3) ≤ pos) && decide (pos < cst (l.getD i zz3) + q0d (l.getD i zz3).2.1))
    · simp only [qhj]; omega
    · simp only [qhl]; omega
def qqp (r : Int) (l : List Cell) (pos : Int) : Int := cond (qtl r 0 l) (qqs pos l l.length 0) (-1)
theorem qqq (r : Int) (l : List Cell) (pos : Int) : -1 ≤ qqp r l pos ∧ qqp r l pos < l.length := by
  unfold qqp
  cases qtl r 0 l
  · simp; omega
  · have := qqt pos l l.length 0; simp only [qhl]; omega
theorem qbh (k : Nat) (hk : 2000000 ≤ k) (a b c pos : Int) : go (k + 6) impl_LeafAt_1 [.agg [.int .i64 a, .int .i64 b, .int .i64 c], .ptr false [.int .i64 pos]] = some [.bool (decide (qyv a b c ≤ pos) && decide (pos < qyv a b c + q0d b))] := by
  rw [qiq]
  simp (disch := omega) only [qcj, qc5, qa9, nth0, qzu, qhn]
theorem qrh (k : Nat) (hk : 2000000 ≤ k) (fu : List (Nat × Nat)) (z : Bool) (l : List Cell) (pos : Int) (hl : (l.length : Int) ≤ 1048576) : ∀ (n i : Nat), i ≤ l.length → l.length - i < n →
    lp (k + 6) slices_IndexFunc_impl_Id_impl_Id [] fu 2 (n) (qwx (l.length : Int) (i : Int) z l pos) = some [.int .i64 (qqs pos l (l.length - i) i)]
  | 0, i, hi, hn => by omega
  | n + 1, i, hi, hn => by
    rw [qpn]
    by_cases h : i < l.length
    · have e := qrh k hk fu z l pos hl n (i + 1) (by omega) (by omega)
      rw [show l.length - i = (l.length - (i + 1)) + 1 by omega, qqs]
      simp (disch := omega) only [dT, nI, Bool.and_true, Int.toNat_natCast, qbh, bit, qgp, q0l, e, qa9, nth0, qzt, qhl, cst]
      cases (decide (qyv (l.getD i zz3).1 (l.getD i zz3).2.1 (l.getD i zz3).2.2 ≤ pos) && decide (pos < qyv (l.getD i zz3).1 (l.getD i zz3).2.1 (l.getD i zz3).2.2 + q0d (l.getD i zz3).2.1)) <;> rfl
    · simp (disch := omega) only [dF, dT, nI, Bool.and_false, Int.toNat_natCast, bit, qgp, q0l, qhj]
      rw [show l.length - i = 0 by omega]; rfl
theorem qb3 (k : Nat) (hk : 2000000 ≤ k) (a0 : Int) (a1z : Bool) (a1 : List (Int × Int × Int)) (b : Int) (hl : (a1.length : Int) ≤ 1048576) : go (k + 8) impl_LeafAt [(.agg [(.int .i64 (a0)), (.arr false (a1z) (.r3 (a1)))]), (.int .i64 (b))] = some [.int .i64 (qqp a0 a1 b)] := by
  rw [qip]
  simp (disch := omega) only [qb6, bit, qa9, nth0, qzt]
  unfold qqp
  cases qtl a0 0 a1
  · rfl
  rw [Bool.not_true, qhj, qky]
  have e := qrh k hk [] a1z a1 b hl (k + 6) 0 (by omega) (by omega)
  rw [show ((0 : Nat) : Int) = 0 from rfl] at e
  simp (disch := omega) only [nI, e, qa9, nth0, qzu, qhl]
  rfl
end Go.Proofs.YtoldpdhhfmlckaaGreat
end
section
namespace Go.Proofs.YtoldpdhhfmlckaaGreat
open Go.Ev
theorem qka (k : Nat) (a0 : Int) (a1z : Bool) (a1 : List (Int × Int × Int)) (a2z : Bool) (a2 : List Int) (a3z : Bool) (a3 : List Int) (a4z : Bool) (a4 : List Int) (a5 a6 a7 a8 a9 a10 a11 a12 a13 a14 a15 a16 a17 a18 a19 a20 : Int) : go (k + 1) impl_copyWorld [(.agg [(.int .i64 a0), (.arr false a1z (.r3 a1)), (.arr false a2z (.ints .i64 a2)), (.arr false a3z (.ints .i64 a3)), (.arr false a4z (.ints .i64 a4)), (.int .i64 a5), (.int .i64 a6), (.int .i64 a7), (.int .i64 a8), (.int .i64 a9), (.int .i64 a10), (.int .i64 a11), (.int .i64 a12), (.int .i64 a13), (.int .i64 a14), (.int .i64 a15), (.int .i64 a16), (.int .i64 a17), (.int .i64 a18), (.int .i64 a19), (.int .i64 a20)])] =
 (go k impl_copyState [(.agg [(.int .i64 a0), (.arr false a1z (.r3 a1)), (.arr false a2z (.ints .i64 a2)), (.arr false a3z (.ints .i64 a3)), (.arr false a4z (.ints .i64 a4))])]).bind fun r0 =>
 some [(.agg [(.int .i64 (D.toInt (D.cell 0 (nth r0 0)))), (.arr true (D.nil (D.cell 1 (nth r0 0))) (.r3 (D.r3 (D.cell 1 (nth r0 0))))), (.arr true (D.nil (D.cell 2 (nth r0 0))) (.ints .i64 (D.ints (D.cell 2 (nth r0 0))))), (.arr true (D.nil (D.cell 3 (nth r0 0))) (.ints .i64 (D.ints (D.cell 3 (nth r0 0))))), (.arr true (D.nil (D.cell 4 (nth r0 0))) (.ints .i64 (D.ints (D.cell 4 (nth r0 0))))), (.int .i64 a5), (.int .i64 a6), (.int .i64 a7), (.int .i64 a8), (.int .i64 a9), (.int .i64 a10), (.int .i64 a11), (.int .i64 a12), (.int .i64 a13), (.int .i64 a14), (.int .i64 a15), (.int .i64 a16), (.int .i64 a17), (.int .i64 a18), (.int .i64 a19), (.int .i64 a20)])] := by kernel_rfl
theorem qih (k : Nat) (a0 : Int) (a1z : Bool) (a1 : List (Int × Int × Int)) (a2z : Bool) (a2 : List Int) (a3z : Bool) (a3 : List Int) (a4z : Bool) (a4 : List Int) (a5 a6 a7 a8 a9 a10 a11 a12 a13 a14 a15 a16 a17 a18 a19 a20 b c d : Int) : go (k + 1) impl_Drop [(.agg [(.int .i64 a0), (.arr false a1z (.r3 a1)), (.arr false a2z (.ints .i64 a2)), (.arr false a3z (.ints .i64 a3)), (.arr false a4z (.ints .i64 a4)), (.int .i64 a5), (.int .i64 a6), (.int .i64 a7), (.int .i64 a8), (.int .i64 a9), (.int .i64 a10), (.int .i64 a11), (.int .i64 a12), (.int .i64 a13), (.int .i64 a14), (.int .i64 a15), (.int .i64 a16), (.int .i64 a17), (.int .i64 a18), (.int .i64 a19), (.int .i64 a20)]), (.int .i64 b), (.int .i64 c), (.int .i64 d)] =
 (go k impl_copyWorld [(.agg [(.int .i64 a0), (.arr false a1z (.r3 a1)), (.arr false a2z (.ints .i64 a2)), (.arr false a3z (.ints .i64 a3)), (.arr false a4z (.ints .i64 a4)), (.int .i64 a5), (.int .i64 a6), (.int .i64 a7), (.int .i64 a8), (.int .i64 a9), (.int .i64 a10), (.int .i64 a11), (.int .i64 a12), (.int .i64 a13), (.int .i64 a14), (.int .i64 a15), (.int .i64 a16), (.int .i64 a17), (.int .i64 a18), (.int .i64 a19), (.int .i64 a20)])]).bind fun r0 =>
 (go k impl_LeafAt [(.agg [(.int .i64 a0), (.arr false a1z (.r3 a1))]), (.int .i64 b)]).bind fun r1 =>
 (go k impl_WorldOk [(.agg [(.int .i64 a0), (.arr false a1z (.r3 a1)), (.arr false a2z (.ints .i64 a2)), (.arr false a3z (.ints .i64 a3)), (.arr false a4z (.ints .i64 a4)), (.int .i64 a5), (.int .i64 a6), (.int .i64 a7), (.int .i64 a8), (.int .i64 a9), (.int .i64 a10), (.int .i64 a11), (.int .i64 a12), (.int .i64 a13), (.int .i64 a14), (.int .i64 a15), (.int .i64 a16), (.int .i64 a17), (.int .i64 a18), (.int .i64 a19), (.int .i64 a20)])]).bind fun r2 =>
 cond (!bit (nth r2 0))
 (some [(.agg [(.int .i64 (D.toInt (D.cell 0 (nth r0 0)))), (.arr true (D.nil (D.cell 1 (nth r0 0))) (.r3 (D.r3 (D.cell 1 (nth r0 0))))), (.arr true (D.nil (D.cell 2 (nth r0 0))) (.ints .i64 (D.ints (D.cell 2 (nth r0 0))))), (.arr true (D.nil (D.cell 3 (nth r0 0))) (.ints .i64 (D.ints (D.cell 3 (nth r0 0))))), (.arr true (D.nil (D.cell 4 (nth r0 0))) (.ints .i64 (D.ints (D.cell 4 (nth r0 0))))), (.int .i64 (D.toInt (D.cell 5 (nth r0 0)))), (.int .i64 (D.toInt (D.cell 6 (nth r0 0)))), (.int .i64 (D.toInt (D.cell 7 (nth r0 0)))), (.int .i64 (D.toInt (D.cell 8 (nth r0 0)))), (.int .i64 (D.toInt (D.cell 9 (nth r0 0)))), (.int .i64 (D.toInt (D.cell 10 (nth r0 0)))), (.int .i64 (D.toInt (D.cell 11 (nth r0 0)))), (.int .i64 (D.toInt (D.cell (12 : Nat) (nth r0 0)))), (.int .i64 (D.toInt (D.cell (13 : Nat) (nth r0 0)))), (.int .i64 (D.toInt (D.cell (14 : Nat) (nth r0 0)))), (.int .i64 (D.toInt (D.cell (15 : Nat) (nth r0 0)))), (.int .i64 (D.toInt (D.cell (16 : Nat) (nth r0 0)))), (.int .i64 (D.toInt (D.cell (17 : Nat) (nth r0 0)))), (.int .i64 (D.toInt (D.cell (18 : Nat) (nth r0 0)))), (.int .i64 (D.toInt (D.cell (19 : Nat) (nth r0 0)))), (.int .i64 (D.toInt (D.cell (20 : Nat) (nth r0 0))))]), (.bool false)])
 (cond (decide (D.toInt (nth r1 0) < (0 : Int)))
 (some [(.agg [(.int .i64 (D.toInt (D.cell 0 (nth r0 0)))), (.arr true (D.nil (D.cell 1 (nth r0 0))) (.r3 (D.r3 (D.cell 1 (nth r0 0))))), (.arr true (D.nil (D.cell 2 (nth r0 0))) (.ints .i64 (D.ints (D.cell 2 (nth r0 0))))), (.arr true (D.nil (D.cell 3 (nth r0 0))) (.ints .i64 (D.ints (D.cell 3 (nth r0 0))))), (.arr true (D.nil (D.cell 4 (nth r0 0))) (.ints .i64 (D.ints (D.cell 4 (nth r0 0))))), (.int .i64 (D.toInt (D.cell 5 (nth r0 0)))), (.int .i64 (D.toInt (D.cell 6 (nth r0 0)))), (.int .i64 (D.toInt (D.cell 7 (nth r0 0)))), (.int .i64 (D.toInt (D.cell 8 (nth r0 0)))), (.int .i64 (D.toInt (D.cell 9 (nth r0 0)))), (.int .i64 (D.toInt (D.cell 10 (nth r0 0)))), (.int .i64 (D.toInt (D.cell 11 (nth r0 0)))), (.int .i64 (D.toInt (D.cell (12 : Nat) (nth r0 0)))), (.int .i64 (D.toInt (D.cell (13 : Nat) (nth r0 0)))), (.int .i64 (D.toInt (D.cell (14 : Nat) (nth r0 0)))), (.int .i64 (D.toInt (D.cell (15 : Nat) (nth r0 0)))), (.int .i64 (D.toInt (D.cell (16 : Nat) (nth r0 0)))), (.int .i64 (D.toInt (D.cell (17 : Nat) (nth r0 0)))), (.int .i64 (D.toInt (D.cell (18 : Nat) (nth r0 0)))), (.int .i64 (D.toInt (D.cell (19 : Nat) (nth r0 0)))), (.int .i64 (D.toInt (D.cell (20 : Nat) (nth r0 0))))]), (.bool false)])
 ((go k impl_within [(.int .i64 c), (.int .i64 ((1 : Int))), (.int .i64 ((10000 : Int)))]).bind fun r3 =>
 cond (!bit (nth r3 0))
 (some [(.agg [(.int .i64 (D.toInt (D.cell 0 (nth r0 0)))), (.arr true (D.nil (D.cell 1 (nth r0 0))) (.r3 (D.r3 (D.cell 1 (nth r0 0))))), (.arr true (D.nil (D.cell 2 (nth r0 0))) (.ints .i64 (D.ints (D.cell 2 (nth r0 0))))), (.arr true (D.nil (D.cell 3 (nth r0 0))) (.ints .i64 (D.ints (D.cell 3 (nth r0 0))))), (.arr true (D.nil (D.cell 4 (nth r0 0))) (.ints .i64 (D.ints (D.cell 4 (nth r0 0))))), (.int .i64 (D.toInt (D.cell 5 (nth r0 0)))), (.int .i64 (D.toInt (D.cell 6 (nth r0 0)))), (.int .i64 (D.toInt (D.cell 7 (nth r0 0)))), (.int .i64 (D.toInt (D.cell 8 (nth r0 0)))), (.int .i64 (D.toInt (D.cell 9 (nth r0 0)))), (.int .i64 (D.toInt (D.cell 10 (nth r0 0)))), (.int .i64 (D.toInt (D.cell 11 (nth r0 0)))), (.int .i64 (D.toInt (D.cell (12 : Nat) (nth r0 0)))), (.int .i64 (D.toInt (D.cell (13 : Nat) (nth r0 0)))), (.int .i64 (D.toInt (D.cell (14 : Nat) (nth r0 0)))), (.int .i64 (D.toInt (D.cell (15 : Nat) (nth r0 0)))), (.int .i64 (D.toInt (D.cell (16 : Nat) (nth r0 0)))), (.int .i64 (D.toInt (D.cell (17 : Nat) (nth r0 0)))), (.int .i64 (D.toInt (D.cell (18 : Nat) (nth r0 0)))), (.int .i64 (D.toInt (D.cell (19 : Nat) (nth r0 0)))), (.int .i64 (D.toInt (D.cell (20 : Nat) (nth r0 0))))]), (.bool false)])
 ((go k impl_within [(.int .i64 d), (.int .i64 (0 : Int)), (.int .i64 ((1000 : Int)))]).bind fun r4 =>
 cond (!bit (nth r4 0))
 (some [(.agg [(.int .i64 (D.toInt (D.cell 0 (nth r0 0)))), (.arr true (D.nil (D.cell 1 (nth r0 0))) (.r3 (D.r3 (D.cell 1 (nth r0 0))))), (.arr true (D.nil (D.cell 2 (nth r0 0))) (.ints .i64 (D.ints (D.cell 2 (nth r0 0))))), (.arr true (D.nil (D.cell 3 (nth r0 0))) (.ints .i64 (D.ints (D.cell 3 (nth r0 0))))), (.arr true (D.nil (D.cell 4 (nth r0 0))) (.ints .i64 (D.ints (D.cell 4 (nth r0 0))))), (.int .i64 (D.toInt (D.cell 5 (nth r0 0)))), (.int .i64 (D.toInt (D.cell 6 (nth r0 0)))), (.int .i64 (D.toInt (D.cell 7 (nth r0 0)))), (.int .i64 (D.toInt (D.cell 8 (nth r0 0)))), (.int .i64 (D.toInt (D.cell 9 (nth r0 0)))), (.int .i64 (D.toInt (D.cell 10 (nth r0 0)))), (.int .i64 (D.toInt (D.cell 11 (nth r0 0)))), (.int .i64 (D.toInt (D.cell (12 : Nat) (nth r0 0)))), (.int .i64 (D.toInt (D.cell (13 : Nat) (nth r0 0)))), (.int .i64 (D.toInt (D.cell (14 : Nat) (nth r0 0)))), (.int .i64 (D.toInt (D.cell (15 : Nat) (nth r0 0)))), (.int .i64 (D.toInt (D.cell (16 : Nat) (nth r0 0)))), (.int .i64 (D.toInt (D.cell (17 : Nat) (nth r0 0)))), (.int .i64 (D.toInt (D.cell (18 : Nat) (nth r0 0)))), (.int .i64 (D.toInt (D.cell (19 : Nat) (nth r0 0)))), (.int .i64 (D.toInt (D.cell (20 : Nat) (nth r0 0))))]), (.bool false)])
 ((go k impl_sum [(.arr false a2z (.ints .i64 a2))]).bind fun r5 =>
 cond (decide ((10000000 : Int) < IntKind.wrap .i64 (D.toInt (nth r5 0) + c)))
 (some [(.agg [(.int .i64 (D.toInt (D.cell 0 (nth r0 0)))), (.arr true (D.nil (D.cell 1 (nth r0 0))) (.r3 (D.r3 (D.cell 1 (nth r0 0))))), (.arr true (D.nil (D.cell 2 (nth r0 0))) (.ints .i64 (D.ints (D.cell 2 (nth r0 0))))), (.arr true (D.nil (D.cell 3 (nth r0 0))) (.ints .i64 (D.ints (D.cell 3 (nth r0 0))))), (.arr true (D.nil (D.cell 4 (nth r0 0))) (.ints .i64 (D.ints (D.cell 4 (nth r0 0))))), (.int .i64 (D.toInt (D.cell 5 (nth r0 0)))), (.int .i64 (D.toInt (D.cell 6 (nth r0 0)))), (.int .i64 (D.toInt (D.cell 7 (nth r0 0)))), (.int .i64 (D.toInt (D.cell 8 (nth r0 0)))), (.int .i64 (D.toInt (D.cell 9 (nth r0 0)))), (.int .i64 (D.toInt (D.cell 10 (nth r0 0)))), (.int .i64 (D.toInt (D.cell 11 (nth r0 0)))), (.int .i64 (D.toInt (D.cell (12 : Nat) (nth r0 0)))), (.int .i64 (D.toInt (D.cell (13 : Nat) (nth r0 0)))), (.int .i64 (D.toInt (D.cell (14 : Nat) (nth r0 0)))), (.int .i64 (D.toInt (D.cell (15 : Nat) (nth r0 0)))), (.int .i64 (D.toInt (D.cell (16 : Nat) (nth r0 0)))), (.int .i64 (D.toInt (D.cell (17 : Nat) (nth r0 0)))), (.int .i64 (D.toInt (D.cell (18 : Nat) (nth r0 0)))), (.int .i64 (D.toInt (D.cell (19 : Nat) (nth r0 0)))), (.int .i64 (D.toInt (D.cell (20 : Nat) (nth r0 0))))]), (.bool false)])
 (cond (decide ((0 : Int) ≤ D.toInt (nth r1 0)) && decide (D.toInt (nth r1 0) < nI (List.length (D.ints (D.cell 2 (nth r0 0))))))
 (cond (decide ((0 : Int) ≤ D.toInt (nth r1 0)) && decide (D.toInt (nth r1 0) < nI (List.length (D.ints (D.cell 2 (nth r0 0))))))
 (cond (decide ((0 : Int) ≤ D.toInt (nth r1 0)) && decide (D.toInt (nth r1 0) < nI (List.length (D.ints (D.cell 3 (nth r0 0))))))
 (cond (decide ((0 : Int) ≤ D.toInt (nth r1 0)) && decide (D.toInt (nth r1 0) < nI (List.length (D.ints (D.cell 3 (nth r0 0))))))
 (some [(.agg [(.int .i64 (D.toInt (D.cell 0 (nth r0 0)))), (.arr true (D.nil (D.cell 1 (nth r0 0))) (.r3 (D.r3 (D.cell 1 (nth r0 0))))), (.arr true (D.nil (D.cell 2 (nth r0 0))) (.ints .i64 (List.set (D.ints (D.cell 2 (nth r0 0))) (Int.toNat (D.toInt (nth r1 0))) (IntKind.wrap .i64 (List.getD (D.ints (D.cell 2 (nth r0 0))) (Int.toNat (D.toInt (nth r1 0))) (0 : Int) + c))))), (.arr true (D.nil (D.cell 3 (nth r0 0))) (.ints .i64 (List.set (D.ints (D.cell 3 (nth r0 0))) (Int.toNat (D.toInt (nth r1 0))) (IntKind.wrap .i64 (List.getD (D.ints (D.cell 3 (nth r0 0))) (Int.toNat (D.toInt (nth r1 0))) (0 : Int) + IntKind.wrap .i64 (c * d)))))), (.arr true (D.nil (D.cell 4 (nth r0 0))) (.ints .i64 (D.ints (D.cell 4 (nth r0 0))))), (.int .i64 (D.toInt (D.cell 5 (nth r0 0)))), (.int .i64 (D.toInt (D.cell 6 (nth r0 0)))), (.int .i64 (D.toInt (D.cell 7 (nth r0 0)))), (.int .i64 (D.toInt (D.cell 8 (nth r0 0)))), (.int .i64 (D.toInt (D.cell 9 (nth r0 0)))), (.int .i64 (D.toInt (D.cell 10 (nth r0 0)))), (.int .i64 (D.toInt (D.cell 11 (nth r0 0)))), (.int .i64 (D.toInt (D.cell (12 : Nat) (nth r0 0)))), (.int .i64 (D.toInt (D.cell (13 : Nat) (nth r0 0)))), (.int .i64 (D.toInt (D.cell (14 : Nat) (nth r0 0)))), (.int .i64 (IntKind.wrap .i64 (D.toInt (D.cell (15 : Nat) (nth r0 0)) + c))), (.int .i64 (D.toInt (D.cell (16 : Nat) (nth r0 0)))), (.int .i64 (IntKind.wrap .i64 (D.toInt (D.cell (17 : Nat) (nth r0 0)) + IntKind.wrap .i64 (c * d)))), (.int .i64 (D.toInt (D.cell (18 : Nat) (nth r0 0)))), (.int .i64 (D.toInt (D.cell (19 : Nat) (nth r0 0)))), (.int .i64 (D.toInt (D.cell (20 : Nat) (nth r0 0))))]), (.bool true)])
 none)
 none)
 none)
 none))))) := by kernel_rfl

end Go.Proofs.YtoldpdhhfmlckaaGreat
end
section
namespace Go.Proofs.YtoldpdhhfmlckaaGreat
open Go.Ev
set_option maxRecDepth 20000
theorem qc1 (k : Nat) (hk : 2000000 ≤ k) (a0 : Int) (a1 : List Cell) (a2 a3 a4 : List Int) (a5 a6 a7 a8 a9 a10 a11 a12 a13 a14 a15 a16 a17 a18 a19 a20 : Int) (h1 : (a1.length : Int) ≤ 1048576) (h2 : (a2.length : Int) ≤ 1048576) (h3 : (a3.length : Int) ≤ 1048576) (h4 : (a4.length : Int) ≤ 1048576) : go (k + 4) impl_copyWorld [.agg [.int .i64 (a0), .arr false false (.r3 (a1)), .arr false false (.ints .i64 (a2)), .arr false false (.ints .i64 (a3)), .arr false false (.ints .i64 (a4)), .int .i64 (a5), .int .i64 (a6), .int .i64 (a7), .int .i64 (a8), .int .i64 (a9), .int .i64 (a10), .int .i64 (a11), .int .i64 (a12), .int .i64 (a13), .int .i64 (a14), .int .i64 (a15), .int .i64 (a16), .int .i64 (a17), .int .i64 (a18), .int .i64 (a19), .int .i64 (a20)]] = some [.agg [.int .i64 (a0), .arr true false (.r3 (a1)), .arr true false (.ints .i64 (a2)), .arr true false (.ints .i64 (a3)), .arr true false (.ints .i64 (a4)), .int .i64 (a5), .int .i64 (a6), .int .i64 (a7), .int .i64 (a8), .int .i64 (a9), .int .i64 (a10), .int .i64 (a11), .int .i64 (a12), .int .i64 (a13), .int .i64 (a14), .int .i64 (a15), .int .i64 (a16), .int .i64 (a17), .int .i64 (a18), .int .i64 (a19), .int .i64 (a20)]] := by
  rw [qka]
  simp (disch := omega) only [qc0, qa9, nth0, qgr, qzu, qgs, qt3, quv, qg3, qob, qg5, qg6]
def qh1 (a0 : Int) (a1 : List Cell) (a2 a3 a4 : List Int) (a5 a6 a7 a8 a9 a10 a11 a12 a13 a14 a15 a16 a17 a18 a19 a20 pos c d : Int) : Bool :=
  q0j a0 a1 a2 a3 a4 a5 a6 a7 a8 a9 a10 a11 a12 a13 a14 a15 a16 a17 a18 a19 a20 && (inR c 1 10000 && (inR d 0 1000 && (decide (isum a2 + c ≤ 10000000) && decide (0 ≤ qqp a0 a1 pos))))
theorem q0k {a0 : Int} {a1 : List Cell} {a2 a3 a4 : List Int} {a5 a6 a7 a8 a9 a10 a11 a12 a13 a14 a15 a16 a17 a18 a19 a20 : Int} (h : q0j a0 a1 a2 a3 a4 a5 a6 a7 a8 a9 a10 a11 a12 a13 a14 a15 a16 a17 a18 a19 a20 = true) :
    StF a0 a1 a2 a3 a4 ∧ (0 ≤ a15 ∧ a15 ≤ 1000000000000000) ∧ (0 ≤ a16 ∧ a16 ≤ 1000000000000000) ∧ (0 ≤ a17 ∧ a17 ≤ 1000000000000000) ∧ (0 ≤ a18 ∧ a18 ≤ 1000000000000000) := by
  simp only [q0j, qqv, Bool.and_eq_true, qn9] at h
  exact ⟨stF.1 h.1, h.2.2.2.1.1, h.2.2.2.1.2.1, h.2.2.2.1.2.2.1, h.2.2.2.1.2.2.2⟩
theorem qty {c d : Int} (h1 : 1 ≤ c) (h2 : c ≤ 10000) (h3 : 0 ≤ d) (h4 : d ≤ 1000) : 0 ≤ c * d ∧ c * d ≤ 10000000 := by
  refine ⟨Int.mul_nonneg (by omega) h3, ?_⟩
  calc c * d ≤ 10000 * d := Int.mul_le_mul_of_nonneg_right h2 h3
    _ ≤ 10000 * 1000 := Int.mul_le_mul_of_nonneg_left h4 (by omega)
theorem qbv (k : Nat) (hk : 2000000 ≤ k) (a0 : Int) (a1 : List Cell) (a2 a3 a4 : List Int) (a5 a6 a7 a8 a9 a10 a11 a12 a13 a14 a15 a16 a17 a18 a19 a20 b c d : Int) (h1 : (a1.length : Int) ≤ 1048576) (h2 : (a2.length : Int) ≤ 1048576) (h3 : (a3.length : Int) ≤ 1048576) (h4 : (a4.length : Int) ≤ 1048576) :
    go (k + 10) impl_Drop [.agg [.int .i64 (a0), .arr false false (.r3 (a1)), .arr false false (.ints .i64 (a2)), .arr false false (.ints .i64 (a3)), .arr false false (.ints .i64 (a4)), .int .i64 (a5), .int .i64 (a6), .int .i64 (a7), .int .i64 (a8), .int .i64 (a9), .int .i64 (a10), .int .i64 (a11), .int .i64 (a12), .int .i64 (a13), .int .i64 (a14), .int .i64 (a15), .int .i64 (a16), .int .i64 (a17), .int .i64 (a18), .int .i64 (a19), .int .i64 (a20)], .int .i64 b, .int .i64 c, .int .i64 d] = cond (qh1 a0 a1 a2 a3 a4 a5 a6 a7 a8 a9 a10 a11 a12 a13 a14 a15 a16 a17 a18 a19 a20 b c d) (some [.agg [.int .i64 (a0), .arr true false (.r3 (a1)), .arr true false (.ints .i64 (a2.set (qqp a0 a1 b).toNat (a2.getD (qqp a0 a1 b).toNat 0 + c))), .arr true false (.ints .i64 (a3.set (qqp a0 a1 b).toNat (a3.getD (qqp a0 a1 b).toNat 0 + c * d))), .arr true false (.ints .i64 (a4)), .int .i64 (a5), .int .i64 (a6), .int .i64 (a7), .int .i64 (a8), .int .i64 (a9), .int .i64 (a10), .int .i64 (a11), .int .i64 (a12), .int .i64 (a13), .int .i64 (a14), .int .i64 (a15 + c), .int .i64 (a16), .int .i64 (a17 + c * d), .int .i64 (a18), .int .i64 (a19), .int .i64 (a20)], .bool true]) (some [.agg [.int .i64 (a0), .arr true false (.r3 (a1)), .arr true false (.ints .i64 (a2)), .arr true false (.ints .i64 (a3)), .arr true false (.ints .i64 (a4)), .int .i64 (a5), .int .i64 (a6), .int .i64 (a7), .int .i64 (a8), .int .i64 (a9), .int .i64 (a10), .int .i64 (a11), .int .i64 (a12), .int .i64 (a13), .int .i64 (a14), .int .i64 (a15), .int .i64 (a16), .int .i64 (a17), .int .i64 (a18), .int .i64 (a19), .int .i64 (a20)], .bool false]) := by
  rw [qih]
  simp (disch := omega) only [qc1, qb3, qcr, bit, qdy, nI, qa9, nth0, qzt, qzu, qgr, qgs, qt3, quv, qg3, qob, qg5, qg6, qg7, qg8, qg9, qha, qhb, qgt, qgu, qgv, qgw, qgx, qgy, qgz, qg0, qg1, qg2, qg4]
  unfold qh1
  have lf := qqq a0 a1 b
  cases g1 : q0j a0 a1 a2 a3 a4 a5 a6 a7 a8 a9 a10 a11 a12 a13 a14 a15 a16 a17 a18 a19 a20
  · simp only [Bool.not_false, qhl, qhj, Bool.false_and]
  by_cases q2 : 0 ≤ qqp a0 a1 b
  case neg => simp (disch := omega) only [Bool.not_true, dT, dF, Bool.and_true, qhj, qhl, Bool.and_false]
  cases g2 : inR c 1 10000
  · simp (disch := omega) only [Bool.not_true, dF, Bool.not_false, dT, Bool.true_and, qhl, qhj, Bool.and_true, Bool.false_and, Bool.and_false]
  cases g3 : inR d 0 1000
  · simp (disch := omega) only [Bool.not_true, dF, Bool.not_false, dT, Bool.true_and, qhl, qhj, Bool.and_true, Bool.false_and, Bool.and_false]
  obtain ⟨F, b1, b2, b3, b4⟩ := q0k g1
  have := F.len; have := F.ml; have := F.tl; have := F.bl; have := F.rr; have sm := F.msum
  have i2 := qn9.1 g2; have i3 := qn9.1 g3
  have mm := qty i2.1 i2.2 i3.1 i3.2
  simp (disch := omega) only [Bool.not_true, dF, dT, Bool.and_true, q0l, qhl, qhj, Bool.true_and]
  rw [qdu _ (by omega) _ _ (by omega) F.mmem]
  by_cases q : isum a2 + c ≤ 10000000
  case neg => simp (disch := omega) only [qa9, nth0, qzu, q0l, dT, qhl, dF, qhj]
  have fa := F.at (qqp a0 a1 b).toNat
  obtain ⟨i, hi⟩ : ∃ i : Nat, qqp a0 a1 b = (i : Int) := ⟨(qqp a0 a1 b).toNat, by omega⟩
  rw [hi] at fa
  rw [Int.toNat_natCast] at fa
  simp (disch := omega) only [hi, Int.toNat_natCast, q0l, qa9, nth0, qzu, dF, qhj, dT, qhl]
end Go.Proofs.YtoldpdhhfmlckaaGreat
end
section
namespace Go.Proofs.YtoldpdhhfmlckaaGreat
open Go.Ev
def qw2 (x0 : Int) (z1 : Bool) (l2 : List Int) (x3 x4 : Int) (z5 : Bool) (l6 : List Int) : St := ⟨fill 19 [(3, (.ptr 1 0 0)), (4, (.sl 2 none)), (5, (.int .i64 x0))], [], [(.arr false z1 (.ints IntKind.u8 l2)), (.box true [(.sl 0 none), (.int .i64 x3), (.int .i64 x4)]), (.arr true z5 (.ints .i64 l6))]⟩
def qw3 (x0 x1 : Int) (z2 : Bool) (l3 : List Int) (z4 : Bool) (l5 : List Int) : St := ⟨fill 32 [(0, (.sl 0 none)), (3, (.int .i64 x0)), (4, (.int .i64 x1))], [(.sl 0 none), .un, (.sl 1 none), .un, .un, .un, (.sl 0 none), .un, .un, .un, .un, .un, .un, .un, .un, .un, .un, .un, .un], [(.arr false z2 (.ints IntKind.u8 l3)), (.arr true z4 (.ints .i64 l5))]⟩
theorem qk9 (k : Nat) (az : Bool) (a : List Int) : go (k + 1) spec_DrawPlaces [(.arr false az (.ints IntKind.u8 a))] =
 lp k spec_DrawPlaces [] [] 7800003 k (qw3 (IntKind.wrap .i64 ((98231 : Int) + nI (List.length a))) (0 : Int) az a true []) := by kernel_rfl
theorem qps (k n : Nat) (fu : List (Nat × Nat)) (x0 : Int) (z1 : Bool) (l2 : List Int) (x3 x4 : Int) (z5 : Bool) (l6 : List Int) : lp k spec_DrawPlaces [] fu 4 (n + 1) (qw2 x0 z1 l2 x3 x4 z5 l6) =
 cond (decide (x0 < (12 : Int)))
 ((go k spec_l01Below [(.ptr true [(.arr false z1 (.ints IntKind.u8 l2)), (.int .i64 x3), (.int .i64 x4)]), (.int .i64 ((10000 : Int)))]).bind fun r0 =>
 cond (decide (List.length (l6 ++ [D.toInt (nth r0 0)]) ≤ bigLen))
 (lp k spec_DrawPlaces [] fu 4 n (qw2 (IntKind.wrap .i64 (x0 + (1 : Int))) z1 l2 (D.toInt (D.cell 1 (nth r0 1))) (D.toInt (D.cell 2 (nth r0 1))) (z5 && decide (List.length (l6 ++ [D.toInt (nth r0 0)]) = 0)) (l6 ++ [D.toInt (nth r0 0)])))
 none)
 (some [(.arr true z5 (.ints .i64 l6))]) := by kernel_rfl
theorem qpt (k n : Nat) (fu : List (Nat × Nat)) (x0 x1 : Int) (z2 : Bool) (l3 : List Int) (z4 : Bool) (l5 : List Int) : lp k spec_DrawPlaces [] fu 7800003 (n + 1) (qw3 x0 x1 z2 l3 z4 l5) =
 cond (decide (x1 < nI (List.length l3)))
 (cond (decide (x1 < (4000 : Int)))
 (cond (decide ((0 : Int) ≤ x1) && decide (x1 < nI (List.length l3)))
 (lp k spec_DrawPlaces [] fu 7800003 n (qw3 (bitN BinOp.and .i64 (IntKind.wrap .i64 (IntKind.wrap .i64 (IntKind.wrap .i64 (x0 * (131 : Int)) + IntKind.wrap .i64 (List.getD l3 (Int.toNat x1) (0 : Int))) + (7 : Int))) (1073741823 : Int)) (IntKind.wrap .i64 (x1 + (1 : Int))) z2 l3 z4 l5))
 none)
 (lp k spec_DrawPlaces [] fu 4 k (qw2 (0 : Int) z2 l3 (0 : Int) x0 false [])))
 (lp k spec_DrawPlaces [] fu 4 k (qw2 (0 : Int) z2 l3 (0 : Int) x0 false [])) := by kernel_rfl
end Go.Proofs.YtoldpdhhfmlckaaGreat
end
section
namespace Go.Proofs.YtoldpdhhfmlckaaGreat
open Go.Ev
set_option maxRecDepth 20000
def qaf (p : List Int) : Prop := p.length = 12 ∧ ∀ x ∈ p, 0 ≤ x ∧ x < 10000
theorem qsd (k : Nat) (hk : 2000000 ≤ k) (fu : List (Nat × Nat)) (z : Bool) (l : List Int) (hl : (l.length : Int) ≤ 1048576) :
    ∀ (n t : Nat) (i h : Int) (q : Bool) (p : List Int), t ≤ 12 → 12 - t < n → 0 ≤ i → i ≤ l.length → q = false → p.length = t → (∀ x ∈ p, 0 ≤ x ∧ x < 10000) →
    ∃ p' : List Int, lp (k + 2) spec_DrawPlaces [] fu 4 (n) (qw2 (t : Int) z l i h q p) = some [.arr true false (.ints .i64 p')] ∧ qaf p'
  | 0, t, i, h, q, p, ht, hn, h0, h1, hq, hp, hx => by omega
  | n + 1, t, i, h, q, p, ht, hn, h0, h1, hq, hp, hx => by
    have e := qps (k + 2) n fu (t : Int) z l i h q p
    subst hq
    by_cases g : t < 12
    · have la : ∀ x : Int, (p ++ [x]).length = t + 1 := fun x => by rw [List.length_append, hp]; rfl
      obtain ⟨u1, i1, k1, e1, b1, q1, r1⟩ := qfh k (by omega) z l i h 10000 hl h0 h1 (by omega) (by omega)
      obtain ⟨p', e2, p2⟩ := qsd k hk fu z l hl n (t + 1) i1 k1 false (p ++ [u1]) (by omega) (by omega) q1 r1 rfl (la _) (fun x hx' => by
        rcases List.mem_append.1 hx' with h | h
        · exact hx x h
        · rw [List.mem_singleton] at h; omega)
      simp (disch := omega) only [dT, e1, la, big0, qgp, q0l, dF, Bool.and_false, qhl, qa9, nth1, qut, qzu, quu, nth0, e2] at e
      exact ⟨p', e, p2⟩
    · simp (disch := omega) only [dF, big0, qgp, q0l, Bool.false_and, qhj] at e
      exact ⟨p, e, by omega, hx⟩
theorem qsc (k : Nat) (hk : 2000000 ≤ k) (fu : List (Nat × Nat)) (z : Bool) (l : List Int) (hl : (l.length : Int) ≤ 1048576) (z4 : Bool) (l5 : List Int) :
    ∀ (n t : Nat) (h : Int), t ≤ l.length → l.length - t < n →
    ∃ p : List Int, lp (k + 2) spec_DrawPlaces [] fu 7800003 (n) (qw3 h (t : Int) z l z4 l5) = some [.arr true false (.ints .i64 p)] ∧ qaf p
  | 0, t, h, ht, hn => by omega
  | n + 1, t, h, ht, hn => by
    have e := qpt (k + 2) n fu h (t : Int) z l z4 l5
    obtain ⟨p, e1, p1⟩ := qsd k hk fu z l hl (k + 2) 0 0 h false [] (by omega) (by omega) (by omega) (by omega) rfl rfl (fun x hx => by cases hx)
    rw [show ((0 : Nat) : Int) = 0 from rfl] at e1
    by_cases g : t < l.length
    · by_cases g2 : (t : Int) < 4000
      · simp (disch := omega) only [nI, dT, Bool.and_true, Int.toNat_natCast, qgp, q0l, qhl] at e
        obtain ⟨p, e3, p3⟩ := qsc k hk fu z l hl z4 l5 n (t + 1) _ (by omega) (by omega)
        exact ⟨p, e.trans e3, p3⟩
      · simp (disch := omega) only [nI, dT, dF, Bool.and_true, Int.toNat_natCast, qgp, q0l, qhl, e1, qhj] at e
        exact ⟨_, e, p1⟩
    · simp (disch := omega) only [nI, dF, dT, Bool.and_false, Int.toNat_natCast, qgp, q0l, qhj, e1] at e
      exact ⟨_, e, p1⟩
theorem qei (k : Nat) (hk : 2000000 ≤ k) (z : Bool) (l : List Int) (hl : (l.length : Int) ≤ 1048576) :
    ∃ p : List Int, go (k + 3) spec_DrawPlaces [.arr false z (.ints .u8 l)] = some [.arr true false (.ints .i64 p)] ∧ qaf p := by
  have e := qk9 (k + 2) z l
  obtain ⟨p, e3, p3⟩ := qsc k hk [] z l hl true [] (k + 2) 0 (IntKind.wrap .i64 (98231 + nI l.length)) (by omega) (by omega)
  rw [show ((0 : Nat) : Int) = 0 from rfl] at e3
  exact ⟨p, e.trans e3, p3⟩
end Go.Proofs.YtoldpdhhfmlckaaGreat
end
section
namespace Go.Proofs.YtoldpdhhfmlckaaGreat
open Go.Ev
theorem qlt (k : Nat) (a0 : Int) (a1z : Bool) (a1 : List (Int × Int × Int)) (a2z : Bool) (a2 : List Int) (a3z : Bool) (a3 : List Int) (a4z : Bool) (a4 : List Int) (b0 : Int) (b1z : Bool) (b1 : List (Int × Int × Int)) (b2z : Bool) (b2 : List Int) (b3z : Bool) (b3 : List Int) (b4z : Bool) (b4 : List Int) : go (k + 1) spec_SameState [(.agg [(.int .i64 a0), (.arr false a1z (.r3 a1)), (.arr false a2z (.ints .i64 a2)), (.arr false a3z (.ints .i64 a3)), (.arr false a4z (.ints .i64 a4))]), (.agg [(.int .i64 b0), (.arr false b1z (.r3 b1)), (.arr false b2z (.ints .i64 b2)), (.arr false b3z (.ints .i64 b3)), (.arr false b4z (.ints .i64 b4))])] =
 (go k spec_SameMesh [(.agg [(.int .i64 a0), (.arr false a1z (.r3 a1))]), (.agg [(.int .i64 b0), (.arr false b1z (.r3 b1))])]).bind fun r0 =>
 cond (bit (nth r0 0))
 ((go k spec_l24Same [(.arr false a2z (.ints .i64 a2)), (.arr false b2z (.ints .i64 b2))]).bind fun r1 =>
 cond (bit (nth r1 0))
 ((go k spec_l24Same [(.arr false a3z (.ints .i64 a3)), (.arr false b3z (.ints .i64 b3))]).bind fun r2 =>
 cond (bit (nth r2 0))
 ((go k spec_l24Same [(.arr false a4z (.ints .i64 a4)), (.arr false b4z (.ints .i64 b4))]).bind fun r3 =>
 some [(.bool (bit (nth r3 0)))])
 (some [(.bool false)]))
 (some [(.bool false)]))
 (some [(.bool false)]) := by kernel_rfl
theorem qlu (k : Nat) (a0 : Int) (a1z : Bool) (a1 : List (Int × Int × Int)) (a2z : Bool) (a2 : List Int) (a3z : Bool) (a3 : List Int) (a4z : Bool) (a4 : List Int) (a5 a6 a7 a8 a9 a10 a11 a12 a13 a14 a15 a16 a17 a18 a19 a20 b0 : Int) (b1z : Bool) (b1 : List (Int × Int × Int)) (b2z : Bool) (b2 : List Int) (b3z : Bool) (b3 : List Int) (b4z : Bool) (b4 : List Int) (b5 b6 b7 b8 b9 b10 b11 b12 b13 b14 b15 b16 b17 b18 b19 b20 : Int) : go (k + 1) spec_SameWorld [(.agg [(.int .i64 a0), (.arr false a1z (.r3 a1)), (.arr false a2z (.ints .i64 a2)), (.arr false a3z (.ints .i64 a3)), (.arr false a4z (.ints .i64 a4)), (.int .i64 a5), (.int .i64 a6), (.int .i64 a7), (.int .i64 a8), (.int .i64 a9), (.int .i64 a10), (.int .i64 a11), (.int .i64 a12), (.int .i64 a13), (.int .i64 a14), (.int .i64 a15), (.int .i64 a16), (.int .i64 a17), (.int .i64 a18), (.int .i64 a19), (.int .i64 a20)]), (.agg [(.int .i64 b0), (.arr false b1z (.r3 b1)), (.arr false b2z (.ints .i64 b2)), (.arr false b3z (.ints .i64 b3)), (.arr false b4z (.ints .i64 b4)), (.int .i64 b5), (.int .i64 b6), (.int .i64 b7), (.int .i64 b8), (.int .i64 b9), (.int .i64 b10), (.int .i64 b11), (.int .i64 b12), (.int .i64 b13), (.int .i64 b14), (.int .i64 b15), (.int .i64 b16), (.int .i64 b17), (.int .i64 b18), (.int .i64 b19), (.int .i64 b20)])] =
 (go k spec_SameState [(.agg [(.int .i64 a0), (.arr false a1z (.r3 a1)), (.arr false a2z (.ints .i64 a2)), (.arr false a3z (.ints .i64 a3)), (.arr false a4z (.ints .i64 a4))]), (.agg [(.int .i64 b0), (.arr false b1z (.r3 b1)), (.arr false b2z (.ints .i64 b2)), (.arr false b3z (.ints .i64 b3)), (.arr false b4z (.ints .i64 b4))])]).bind fun r0 =>
 cond (bit (nth r0 0))
 (cond (decide (a5 = b5) && (decide (a6 = b6) && (decide (a7 = b7) && true)) && (decide (a8 = b8) && (decide (a9 = b9) && (decide (a10 = b10) && (decide (a11 = b11) && (decide (a12 = b12) && (decide (a13 = b13) && true)))))))
 (cond (decide (a14 = b14))
 (cond (decide (a15 = b15) && (decide (a16 = b16) && (decide (a17 = b17) && (decide (a18 = b18) && true))))
 (cond (decide (a19 = b19))
 (some [(.bool (decide (a20 = b20)))])
 (some [(.bool false)]))
 (some [(.bool false)]))
 (some [(.bool false)]))
 (some [(.bool false)]))
 (some [(.bool false)]) := by kernel_rfl
end Go.Proofs.YtoldpdhhfmlckaaGreat
end
section
namespace Go.Proofs.YtoldpdhhfmlckaaGreat
open Go.Ev
def qx3 (r r' : Int) (l l' : List Cell) (m t b m' t' b' : List Int) : Bool := qx1 r r' l l' && (decide (m = m') && (decide (t = t') && decide (b = b')))
theorem qe1 (k : Nat) (hk : 2000000 ≤ k) (a0 : Int) (a1z : Bool) (a1 : List (Int × Int × Int)) (a2z : Bool) (a2 : List Int) (a3z : Bool) (a3 : List Int) (a4z : Bool) (a4 : List Int) (b0 : Int) (b1z : Bool) (b1 : List (Int × Int × Int)) (b2z : Bool) (b2 : List Int) (b3z : Bool) (b3 : List Int) (b4z : Bool) (b4 : List Int) (h1 : (a1.length : Int) ≤ 1048576) (h2 : (a2.length : Int) ≤ 1048576) (h3 : (a3.length : Int) ≤ 1048576) (h4 : (a4.length : Int) ≤ 1048576) : go (k + 2) spec_SameState [(.agg [(.int .i64 (a0)), (.arr false (a1z) (.r3 (a1))), (.arr false (a2z) (.ints .i64 (a2))), (.arr false (a3z) (.ints .i64 (a3))), (.arr false (a4z) (.ints .i64 (a4)))]), (.agg [(.int .i64 (b0)), (.arr false (b1z) (.r3 (b1))), (.arr false (b2z) (.ints .i64 (b2))), (.arr false (b3z) (.ints .i64 (b3))), (.arr false (b4z) (.ints .i64 (b4)))])] = some [.bool (qx3 a0 b0 a1 b1 a2 a3 a4 b2 b3 b4)] := by
  rw [qlt]
  simp (disch := omega) only [qe0, bit, qgd, qa9, nth0, qzt, qhn]
  rfl
def qx2 (a5 : Int) (a6 : Int) (a7 : Int) (a8 : Int) (a9 : Int) (a10 : Int) (a11 : Int) (a12 : Int) (a13 : Int) (a14 : Int) (a15 : Int) (a16 : Int) (a17 : Int) (a18 : Int) (a19 : Int) (a20 : Int) (b5 : Int) (b6 : Int) (b7 : Int) (b8 : Int) (b9 : Int) (b10 : Int) (b11 : Int) (b12 : Int) (b13 : Int) (b14 : Int) (b15 : Int) (b16 : Int) (b17 : Int) (b18 : Int) (b19 : Int) (b20 : Int) : Bool := ((decide (a5 = b5) && (decide (a6 = b6) && decide (a7 = b7))) && (decide (a8 = b8) && (decide (a9 = b9) && (decide (a10 = b10) && (decide (a11 = b11) && (decide (a12 = b12) && decide (a13 = b13))))))) && (decide (a14 = b14) && ((decide (a15 = b15) && (decide (a16 = b16) && (decide (a17 = b17) && decide (a18 = b18)))) && (decide (a19 = b19) && decide (a20 = b20))))
theorem qe2 (k : Nat) (hk : 2000000 ≤ k) (a0 : Int) (a1z : Bool) (a1 : List (Int × Int × Int)) (a2z : Bool) (a2 : List Int) (a3z : Bool) (a3 : List Int) (a4z : Bool) (a4 : List Int) (a5 : Int) (a6 : Int) (a7 : Int) (a8 : Int) (a9 : Int) (a10 : Int) (a11 : Int) (a12 : Int) (a13 : Int) (a14 : Int) (a15 : Int) (a16 : Int) (a17 : Int) (a18 : Int) (a19 : Int) (a20 : Int) (b0 : Int) (b1z : Bool) (b1 : List (Int × Int × Int)) (b2z : Bool) (b2 : List Int) (b3z : Bool) (b3 : List Int) (b4z : Bool) (b4 : List Int) (b5 : Int) (b6 : Int) (b7 : Int) (b8 : Int) (b9 : Int) (b10 : Int) (b11 : Int) (b12 : Int) (b13 : Int) (b14 : Int) (b15 : Int) (b16 : Int) (b17 : Int) (b18 : Int) (b19 : Int) (b20 : Int) (h1 : (a1.length : Int) ≤ 1048576) (h2 : (a2.length : Int) ≤ 1048576) (h3 : (a3.length : Int) ≤ 1048576) (h4 : (a4.length : Int) ≤ 1048576) : go (k + 3) spec_SameWorld [(.agg [(.int .i64 (a0)), (.arr false (a1z) (.r3 (a1))), (.arr false (a2z) (.ints .i64 (a2))), (.arr false (a3z) (.ints .i64 (a3))), (.arr false (a4z) (.ints .i64 (a4))), (.int .i64 (a5)), (.int .i64 (a6)), (.int .i64 (a7)), (.int .i64 (a8)), (.int .i64 (a9)), (.int .i64 (a10)), (.int .i64 (a11)), (.int .i64 (a12)), (.int .i64 (a13)), (.int .i64 (a14)), (.int .i64 (a15)), (.int .i64 (a16)), (.int .i64 (a17)), (.int .i64 (a18)), (.int .i64 (a19)), (.int .i64 (a20))]), (.agg [(.int .i64 (b0)), (.arr false (b1z) (.r3 (b1))), (.arr false (b2z) (.ints .i64 (b2))), (.arr false (b3z) (.ints .i64 (b3))), (.arr false (b4z) (.ints .i64 (b4))), (.int .i64 (b5)), (.int .i64 (b6)), (.int .i64 (b7)), (.int .i64 (b8)), (.int .i64 (b9)), (.int .i64 (b10)), (.int .i64 (b11)), (.int .i64 (b12)), (.int .i64 (b13)), (.int .i64 (b14)), (.int .i64 (b15)), (.int .i64 (b16)), (.int .i64 (b17)), (.int .i64 (b18)), (.int .i64 (b19)), (.int .i64 (b20))])] = some [.bool (qx3 a0 b0 a1 b1 a2 a3 a4 b2 b3 b4 && qx2 a5 a6 a7 a8 a9 a10 a11 a12 a13 a14 a15 a16 a17 a18 a19 a20 b5 b6 b7 b8 b9 b10 b11 b12 b13 b14 b15 b16 b17 b18 b19 b20)] := by
  rw [qlu]
  simp (disch := omega) only [qe1, bit, Bool.and_true, qhn, qa9, nth0, qzt]
  rfl
end Go.Proofs.YtoldpdhhfmlckaaGreat
end
section
namespace Go.Proofs.YtoldpdhhfmlckaaGreat
open Go.Ev
def qv0 (x0 x1 : Int) (z2 : Bool) (l3 : List (Int × Int × Int)) (z4 : Bool) (l5 : List Int) (z6 : Bool) (l7 : List Int) (z8 : Bool) (l9 : List Int) (x10 x11 x12 x13 x14 x15 x16 x17 x18 x19 x20 x21 x22 x23 x24 x25 x26 : Int) (z27 : Bool) (l28 : List (Int × Int × Int)) (z29 : Bool) (l30 : List Int) (z31 : Bool) (l32 : List Int) (z33 : Bool) (l34 : List Int) (x35 x36 x37 x38 x39 x40 x41 x42 x43 x44 x45 x46 x47 x48 x49 x50 x51 : Int) : St := ⟨fill 37 [(4, (.ptr 4 0 0)), (6, (.ptr 9 0 0)), (18, (.int .i64 x0)), (19, (.int .i64 x1))], [], [(.arr true z2 (.r3 l3)), (.arr true z4 (.ints .i64 l5)), (.arr true z6 (.ints .i64 l7)), (.arr true z8 (.ints .i64 l9)), (.box true [(.int .i64 x10), (.sl 0 none), (.sl 1 none), (.sl 2 none), (.sl 3 none), (.int .i64 x11), (.int .i64 x12), (.int .i64 x13), (.int .i64 x14), (.int .i64 x15), (.int .i64 x16), (.int .i64 x17), (.int .i64 x18), (.int .i64 x19), (.int .i64 x20), (.int .i64 x21), (.int .i64 x22), (.int .i64 x23), (.int .i64 x24), (.int .i64 x25), (.int .i64 x26)]), (.arr true z27 (.r3 l28)), (.arr true z29 (.ints .i64 l30)), (.arr true z31 (.ints .i64 l32)), (.arr true z33 (.ints .i64 l34)), (.box true [(.int .i64 x35), (.sl 5 none), (.sl 6 none), (.sl 7 none), (.sl 8 none), (.int .i64 x36), (.int .i64 x37), (.int .i64 x38), (.int .i64 x39), (.int .i64 x40), (.int .i64 x41), (.int .i64 x42), (.int .i64 x43), (.int .i64 x44), (.int .i64 x45), (.int .i64 x46), (.int .i64 x47), (.int .i64 x48), (.int .i64 x49), (.int .i64 x50), (.int .i64 x51)])]⟩
theorem qh8 (k : Nat) (a0 : Int) (a1z : Bool) (a1 : List (Int × Int × Int)) (a2z : Bool) (a2 : List Int) (a3z : Bool) (a3 : List Int) (a4z : Bool) (a4 : List Int) (a5 a6 a7 a8 a9 a10 a11 a12 a13 a14 a15 a16 a17 a18 a19 a20 b : Int) : go (k + 1) impl_Advance [(.agg [(.int .i64 a0), (.arr false a1z (.r3 a1)), (.arr false a2z (.ints .i64 a2)), (.arr false a3z (.ints .i64 a3)), (.arr false a4z (.ints .i64 a4)), (.int .i64 a5), (.int .i64 a6), (.int .i64 a7), (.int .i64 a8), (.int .i64 a9), (.int .i64 a10), (.int .i64 a11), (.int .i64 a12), (.int .i64 a13), (.int .i64 a14), (.int .i64 a15), (.int .i64 a16), (.int .i64 a17), (.int .i64 a18), (.int .i64 a19), (.int .i64 a20)]), (.int .i64 b)] =
 (go k impl_copyWorld [(.agg [(.int .i64 a0), (.arr false a1z (.r3 a1)), (.arr false a2z (.ints .i64 a2)), (.arr false a3z (.ints .i64 a3)), (.arr false a4z (.ints .i64 a4)), (.int .i64 a5), (.int .i64 a6), (.int .i64 a7), (.int .i64 a8), (.int .i64 a9), (.int .i64 a10), (.int .i64 a11), (.int .i64 a12), (.int .i64 a13), (.int .i64 a14), (.int .i64 a15), (.int .i64 a16), (.int .i64 a17), (.int .i64 a18), (.int .i64 a19), (.int .i64 a20)])]).bind fun r0 =>
 (go k impl_WorldOk [(.agg [(.int .i64 a0), (.arr false a1z (.r3 a1)), (.arr false a2z (.ints .i64 a2)), (.arr false a3z (.ints .i64 a3)), (.arr false a4z (.ints .i64 a4)), (.int .i64 a5), (.int .i64 a6), (.int .i64 a7), (.int .i64 a8), (.int .i64 a9), (.int .i64 a10), (.int .i64 a11), (.int .i64 a12), (.int .i64 a13), (.int .i64 a14), (.int .i64 a15), (.int .i64 a16), (.int .i64 a17), (.int .i64 a18), (.int .i64 a19), (.int .i64 a20)])]).bind fun r1 =>
 cond (!bit (nth r1 0))
 (some [(.agg [(.int .i64 (D.toInt (D.cell 0 (nth r0 0)))), (.arr true (D.nil (D.cell 1 (nth r0 0))) (.r3 (D.r3 (D.cell 1 (nth r0 0))))), (.arr true (D.nil (D.cell 2 (nth r0 0))) (.ints .i64 (D.ints (D.cell 2 (nth r0 0))))), (.arr true (D.nil (D.cell 3 (nth r0 0))) (.ints .i64 (D.ints (D.cell 3 (nth r0 0))))), (.arr true (D.nil (D.cell 4 (nth r0 0))) (.ints .i64 (D.ints (D.cell 4 (nth r0 0))))), (.int .i64 (D.toInt (D.cell 5 (nth r0 0)))), (.int .i64 (D.toInt (D.cell 6 (nth r0 0)))), (.int .i64 (D.toInt (D.cell 7 (nth r0 0)))), (.int .i64 (D.toInt (D.cell 8 (nth r0 0)))), (.int .i64 (D.toInt (D.cell 9 (nth r0 0)))), (.int .i64 (D.toInt (D.cell 10 (nth r0 0)))), (.int .i64 (D.toInt (D.cell 11 (nth r0 0)))), (.int .i64 (D.toInt (D.cell (12 : Nat) (nth r0 0)))), (.int .i64 (D.toInt (D.cell (13 : Nat) (nth r0 0)))), (.int .i64 (D.toInt (D.cell (14 : Nat) (nth r0 0)))), (.int .i64 (D.toInt (D.cell (15 : Nat) (nth r0 0)))), (.int .i64 (D.toInt (D.cell (16 : Nat) (nth r0 0)))), (.int .i64 (D.toInt (D.cell (17 : Nat) (nth r0 0)))), (.int .i64 (D.toInt (D.cell (18 : Nat) (nth r0 0)))), (.int .i64 (D.toInt (D.cell (19 : Nat) (nth r0 0)))), (.int .i64 (D.toInt (D.cell (20 : Nat) (nth r0 0))))]), (.bool false)])
 ((go k impl_within [(.int .i64 b), (.int .i64 (0 : Int)), (.int .i64 ((100 : Int)))]).bind fun r2 =>
 cond (!bit (nth r2 0))
 (some [(.agg [(.int .i64 (D.toInt (D.cell 0 (nth r0 0)))), (.arr true (D.nil (D.cell 1 (nth r0 0))) (.r3 (D.r3 (D.cell 1 (nth r0 0))))), (.arr true (D.nil (D.cell 2 (nth r0 0))) (.ints .i64 (D.ints (D.cell 2 (nth r0 0))))), (.arr true (D.nil (D.cell 3 (nth r0 0))) (.ints .i64 (D.ints (D.cell 3 (nth r0 0))))), (.arr true (D.nil (D.cell 4 (nth r0 0))) (.ints .i64 (D.ints (D.cell 4 (nth r0 0))))), (.int .i64 (D.toInt (D.cell 5 (nth r0 0)))), (.int .i64 (D.toInt (D.cell 6 (nth r0 0)))), (.int .i64 (D.toInt (D.cell 7 (nth r0 0)))), (.int .i64 (D.toInt (D.cell 8 (nth r0 0)))), (.int .i64 (D.toInt (D.cell 9 (nth r0 0)))), (.int .i64 (D.toInt (D.cell 10 (nth r0 0)))), (.int .i64 (D.toInt (D.cell 11 (nth r0 0)))), (.int .i64 (D.toInt (D.cell (12 : Nat) (nth r0 0)))), (.int .i64 (D.toInt (D.cell (13 : Nat) (nth r0 0)))), (.int .i64 (D.toInt (D.cell (14 : Nat) (nth r0 0)))), (.int .i64 (D.toInt (D.cell (15 : Nat) (nth r0 0)))), (.int .i64 (D.toInt (D.cell (16 : Nat) (nth r0 0)))), (.int .i64 (D.toInt (D.cell (17 : Nat) (nth r0 0)))), (.int .i64 (D.toInt (D.cell (18 : Nat) (nth r0 0)))), (.int .i64 (D.toInt (D.cell (19 : Nat) (nth r0 0)))), (.int .i64 (D.toInt (D.cell (20 : Nat) (nth r0 0))))]), (.bool false)])
 (lp k impl_Advance [] [] 5 k (qv0 b (0 : Int) true [] true [] true [] true [] (0 : Int) (0 : Int) (0 : Int) (0 : Int) (0 : Int) (0 : Int) (0 : Int) (0 : Int) (0 : Int) (0 : Int) (0 : Int) (0 : Int) (0 : Int) (0 : Int) (0 : Int) (0 : Int) (0 : Int) (D.nil (D.cell 1 (nth r0 0))) (D.r3 (D.cell 1 (nth r0 0))) (D.nil (D.cell 2 (nth r0 0))) (D.ints (D.cell 2 (nth r0 0))) (D.nil (D.cell 3 (nth r0 0))) (D.ints (D.cell 3 (nth r0 0))) (D.nil (D.cell 4 (nth r0 0))) (D.ints (D.cell 4 (nth r0 0))) (D.toInt (D.cell 0 (nth r0 0))) (D.toInt (D.cell 5 (nth r0 0))) (D.toInt (D.cell 6 (nth r0 0))) (D.toInt (D.cell 7 (nth r0 0))) (D.toInt (D.cell 8 (nth r0 0))) (D.toInt (D.cell 9 (nth r0 0))) (D.toInt (D.cell 10 (nth r0 0))) (D.toInt (D.cell 11 (nth r0 0))) (D.toInt (D.cell (12 : Nat) (nth r0 0))) (D.toInt (D.cell (13 : Nat) (nth r0 0))) (D.toInt (D.cell (14 : Nat) (nth r0 0))) (D.toInt (D.cell (15 : Nat) (nth r0 0))) (D.toInt (D.cell (16 : Nat) (nth r0 0))) (D.toInt (D.cell (17 : Nat) (nth r0 0))) (D.toInt (D.cell (18 : Nat) (nth r0 0))) (D.toInt (D.cell (19 : Nat) (nth r0 0))) (D.toInt (D.cell (20 : Nat) (nth r0 0)))))) := by kernel_rfl
theorem qoq (k n : Nat) (fu : List (Nat × Nat)) (x0 x1 : Int) (z2 : Bool) (l3 : List (Int × Int × Int)) (z4 : Bool) (l5 : List Int) (z6 : Bool) (l7 : List Int) (z8 : Bool) (l9 : List Int) (x10 x11 x12 x13 x14 x15 x16 x17 x18 x19 x20 x21 x22 x23 x24 x25 x26 : Int) (z27 : Bool) (l28 : List (Int × Int × Int)) (z29 : Bool) (l30 : List Int) (z31 : Bool) (l32 : List Int) (z33 : Bool) (l34 : List Int) (x35 x36 x37 x38 x39 x40 x41 x42 x43 x44 x45 x46 x47 x48 x49 x50 x51 : Int) : lp k impl_Advance [] fu 5 (n + 1) (qv0 x0 x1 z2 l3 z4 l5 z6 l7 z8 l9 x10 x11 x12 x13 x14 x15 x16 x17 x18 x19 x20 x21 x22 x23 x24 x25 x26 z27 l28 z29 l30 z31 l32 z33 l34 x35 x36 x37 x38 x39 x40 x41 x42 x43 x44 x45 x46 x47 x48 x49 x50 x51) =
 cond (decide (x1 < x0))
 ((go k impl_State_runMacro [(.ptr true [(.int .i64 x35), (.arr true z27 (.r3 l28)), (.arr true z29 (.ints .i64 l30)), (.arr true z31 (.ints .i64 l32)), (.arr true z33 (.ints .i64 l34))]), (.agg [(.int .i64 x36), (.int .i64 x37), (.int .i64 x38), (.int .i64 x39), (.int .i64 x40), (.int .i64 x41), (.int .i64 x42), (.int .i64 x43), (.int .i64 x44)]), (.int .i64 x45)]).bind fun r0 =>
 (go k impl_LedgerAdd [(.agg [(.int .i64 x46), (.int .i64 x47), (.int .i64 x48), (.int .i64 x49)]), (.agg [(.int .i64 (D.toInt (D.cell 0 (nth r0 0)))), (.int .i64 (D.toInt (D.cell 1 (nth r0 0)))), (.int .i64 (D.toInt (D.cell 2 (nth r0 0)))), (.int .i64 (D.toInt (D.cell 3 (nth r0 0))))])]).bind fun r1 =>
 lp k impl_Advance [] fu 5 n (qv0 x0 (IntKind.wrap .i64 (x1 + (1 : Int))) z2 l3 z4 l5 z6 l7 z8 l9 x10 x11 x12 x13 x14 x15 x16 x17 x18 x19 x20 x21 x22 x23 x24 x25 x26 (D.nil (D.cell 1 (nth r0 1))) (D.r3 (D.cell 1 (nth r0 1))) (D.nil (D.cell 2 (nth r0 1))) (D.ints (D.cell 2 (nth r0 1))) (D.nil (D.cell 3 (nth r0 1))) (D.ints (D.cell 3 (nth r0 1))) (D.nil (D.cell 4 (nth r0 1))) (D.ints (D.cell 4 (nth r0 1))) (D.toInt (D.cell 0 (nth r0 1))) x36 x37 x38 x39 x40 x41 x42 x43 x44 (IntKind.wrap .i64 (x45 + (1 : Int))) (D.toInt (D.cell 0 (nth r1 0))) (D.toInt (D.cell 1 (nth r1 0))) (D.toInt (D.cell 2 (nth r1 0))) (D.toInt (D.cell 3 (nth r1 0))) x50 x51))
 (some [(.agg [(.int .i64 x35), (.arr true z27 (.r3 l28)), (.arr true z29 (.ints .i64 l30)), (.arr true z31 (.ints .i64 l32)), (.arr true z33 (.ints .i64 l34)), (.int .i64 x36), (.int .i64 x37), (.int .i64 x38), (.int .i64 x39), (.int .i64 x40), (.int .i64 x41), (.int .i64 x42), (.int .i64 x43), (.int .i64 x44), (.int .i64 x45), (.int .i64 x46), (.int .i64 x47), (.int .i64 x48), (.int .i64 x49), (.int .i64 x50), (.int .i64 x51)]), (.bool true)]) := by kernel_rfl

end Go.Proofs.YtoldpdhhfmlckaaGreat
end
section
namespace Go.Proofs.YtoldpdhhfmlckaaGreat
open Go.Ev
set_option maxRecDepth 20000
abbrev wdR (w : Wd) : D := .agg [.int .i64 (w.r), .arr false false (.r3 (w.s.1)), .arr false false (.ints .i64 (w.s.2.1)), .arr false false (.ints .i64 (w.s.2.2)), .arr false false (.ints .i64 (w.b)), .int .i64 (w.p.bi), .int .i64 (w.p.bs), .int .i64 (w.p.bo), .int .i64 (w.p.rain), .int .i64 (w.p.loss), .int .i64 (w.p.dec), .int .i64 (w.p.high), .int .i64 (w.p.low), .int .i64 (w.p.every), .int .i64 (w.k), .int .i64 (w.ld.mi), .int .i64 (w.ld.mo), .int .i64 (w.ld.ti), .int .i64 (w.ld.ou), .int .i64 (w.f), .int .i64 (w.g)]
abbrev wdO (w : Wd) : D := .agg [.int .i64 (w.r), .arr true false (.r3 (w.s.1)), .arr true false (.ints .i64 (w.s.2.1)), .arr true false (.ints .i64 (w.s.2.2)), .arr true false (.ints .i64 (w.b)), .int .i64 (w.p.bi), .int .i64 (w.p.bs), .int .i64 (w.p.bo), .int .i64 (w.p.rain), .int .i64 (w.p.loss), .int .i64 (w.p.dec), .int .i64 (w.p.high), .int .i64 (w.p.low), .int .i64 (w.p.every), .int .i64 (w.k), .int .i64 (w.ld.mi), .int .i64 (w.ld.mo), .int .i64 (w.ld.ti), .int .i64 (w.ld.ou), .int .i64 (w.f), .int .i64 (w.g)]
structure Sml (w : Wd) : Prop where
  h1 : (w.s.1.length : Int) ≤ 1048576
  h2 : (w.s.2.1.length : Int) ≤ 1048576
  h3 : (w.s.2.2.length : Int) ≤ 1048576
  h4 : (w.b.length : Int) ≤ 1048576
structure WdF (w : Wd) : Prop where
  F : StF w.r w.s.1 w.s.2.1 w.s.2.2 w.b
  P : PlF w.p
  k : 0 ≤ w.k ∧ w.k ≤ 100000
  L : LdB w.ld 1000000000000000
  f : isum w.s.2.1 - w.ld.mi + w.ld.mo = w.f
  g : isum w.s.2.2 - w.ld.ti + w.ld.ou = w.g
theorem wdF {w : Wd} (h : wdOk w = true) : WdF w := by
  unfold wdOk q0j qqv at h
  simp only [Bool.and_eq_true, decide_eq_true_eq] at h
  obtain ⟨h1, h2, h3, ⟨h4, h5, h6, h7⟩, h8, h9⟩ := h
  exact ⟨stF.1 h1, qun h2, qn9.1 h3, ⟨qn9.1 h4, qn9.1 h5, qn9.1 h6, qn9.1 h7⟩, h8, h9⟩
theorem StF.sml {w : Wd} (F : StF w.r w.s.1 w.s.2.1 w.s.2.2 w.b) : Sml w := by
  have := F.len; have := F.ml; have := F.tl; have := F.bl; have := F.rr
  exact ⟨by omega, by omega, by omega, by omega⟩
def Wd.next (w : Wd) : Wd := { w with s := (mac w.p w.b w.k w.s).1, k := w.k + 1, ld := w.ld.add (mac w.p w.b w.k w.s).2 }
def advN : Nat → Wd → Wd
  | 0, w => w
  | n + 1, w => advN n w.next
structure Adv (w : Wd) (i : Nat) : Prop where
  F : StF w.r w.s.1 w.s.2.1 w.s.2.2 w.b
  P : PlF w.p
  k : 0 ≤ w.k ∧ w.k ≤ 100000 + i
  L : LdB w.ld (1000000000000000 + 40000000000 * i)
theorem Adv.next {w : Wd} {i : Nat} (A : Adv w i) : Adv w.next (i + 1) := by
  have h := qs9 (s := w.s) A.F A.P w.k
  have a := A.k; have l := A.L; have q := h.2
  have l1 := l.mi; have l2 := l.mo; have l3 := l.ti; have l4 := l.ou
  have q1 := q.mi; have q2 := q.mo; have q3 := q.ti; have q4 := q.ou
  refine ⟨h.1, A.P, ?_, ⟨?_, ?_, ?_, ?_⟩⟩
  · show 0 ≤ w.k + 1 ∧ w.k + 1 ≤ _; omega
  · show 0 ≤ w.ld.mi + _ ∧ w.ld.mi + _ ≤ _; omega
  · show 0 ≤ w.ld.mo + _ ∧ w.ld.mo + _ ≤ _; omega
  · show 0 ≤ w.ld.ti + _ ∧ w.ld.ti + _ ≤ _; omega
  · show 0 ≤ w.ld.ou + _ ∧ w.ld.ou + _ ≤ _; omega
theorem qaw : ∀ (n : Nat) (w : Wd) (i : Nat), Adv w i → Adv (advN n w) (i + n)
  | 0, w, i, A => A
  | n + 1, w, i, A => by have := qaw n w.next (i + 1) A.next; rw [show i + 1 + n = i + (n + 1) by omega] at this; exact this
theorem qc2 (k : Nat) (hk : 2000000 ≤ k) (w : Wd) (h : Sml w) : go (k + 4) impl_copyWorld [wdR w] = some [wdO w] := qc1 k hk _ _ _ _ _ _ _ _ _ _ _ _ _ _ _ _ _ _ _ _ _ h.h1 h.h2 h.h3 h.h4
theorem qcs (k : Nat) (hk : 2000000 ≤ k) (w : Wd) (h : Sml w) : go (k + 9) impl_WorldOk [wdR w] = some [.bool (wdOk w)] := qcr k hk _ _ _ _ _ _ _ _ _ _ _ _ _ _ _ _ _ _ _ _ _ _ _ _ _ h.h1 h.h4
theorem qfe (k : Nat) (hk : 2000000 ≤ k) (w : Wd) (h : Sml w) : go (k + 8) spec_WorldOk [wdR w] = some [.bool (wdOk w)] := qfd k hk _ _ _ _ _ _ _ _ _ _ _ _ _ _ _ _ _ _ _ _ _ _ _ _ _ h.h1 h.h4
set_option maxHeartbeats 1000000 in
theorem qrb (k : Nat) (hk : 2000000 ≤ k) (fu : List (Nat × Nat)) (c : Int) (hc : c ≤ 100) (z2 : Bool) (l3 : List Cell) (z4 : Bool) (l5 : List Int) (z6 : Bool) (l7 : List Int) (z8 : Bool) (l9 : List Int) (x10 x11 x12 x13 x14 x15 x16 x17 x18 x19 x20 x21 x22 x23 x24 x25 x26 : Int) : ∀ (N n i : Nat) (w : Wd), (i : Int) + n = c → n < N → Adv w i →
    lp (k + 11) impl_Advance [] fu 5 (N) (qv0 c (i : Int) z2 l3 z4 l5 z6 l7 z8 l9 x10 x11 x12 x13 x14 x15 x16 x17 x18 x19 x20 x21 x22 x23 x24 x25 x26 false w.s.1 false w.s.2.1 false w.s.2.2 false w.b w.r w.p.bi w.p.bs w.p.bo w.p.rain w.p.loss w.p.dec w.p.high w.p.low w.p.every w.k w.ld.mi w.ld.mo w.ld.ti w.ld.ou w.f w.g) = some [wdO (advN n w), .bool true]
  | 0, n, i, w, hi, hN, A => by omega
  | N + 1, 0, i, w, hi, hN, A => by
    rw [qoq]
    simp (disch := omega) only [dF, qgp, q0l, qhj]; rfl
  | N + 1, n + 1, i, w, hi, hN, A => by
    rw [qoq]
    have a := A.k; have l := A.L
    have h := (qs9 (s := w.s) A.F A.P w.k).2
    have l1 := l.mi; have l2 := l.mo; have l3' := l.ti; have l4 := l.ou
    have q1 := h.mi; have q2 := h.mo; have q3 := h.ti; have q4 := h.ou
    have eM := qdq k (by omega) w.r w.s w.b A.F w.p A.P w.k (by omega)
    have eL := qb5 (k + 10) w.ld (mac w.p w.b w.k w.s).2 (by omega) (by omega) (by omega) (by omega)
    have IH := qrb k hk fu c hc z2 l3 z4 l5 z6 l7 z8 l9 x10 x11 x12 x13 x14 x15 x16 x17 x18 x19 x20 x21 x22 x23 x24 x25 x26 N n (i + 1) w.next (by omega) (by omega) A.next
    rw [show advN (n + 1) w = advN n w.next from rfl]
    simp only [Wd.next] at IH ⊢
    simp (disch := omega) only [dT, eM, qgp, q0l, qa9, nth0, qgr, qzu, qgs, qg3, qg5, eL, nth1, qu1, qt3, quv, qu2, qob, qu3, qu4, qu0, IH, qhl]
def qaz (w : Wd) (n : Int) : Bool := wdOk w && inR n 0 100
def adv (w : Wd) (n : Int) : Wd := cond (qaz w n) (advN n.toNat w) w
theorem WdF.adv {w : Wd} (h : WdF w) : Adv w 0 := ⟨h.F, h.P, by have := h.k; omega, ⟨by have := h.L.mi; omega, by have := h.L.mo; omega, by have := h.L.ti; omega, by have := h.L.ou; omega⟩⟩
theorem qbl (k : Nat) (hk : 2000000 ≤ k) (w : Wd) (n : Int) (h : Sml w) : go (k + 12) impl_Advance [wdR w, .int .i64 n] = some [wdO (adv w n), .bool (qaz w n)] := by
  rw [qh8]
  have eC := qc2 (k + 7) (by omega) w h
  have eO := qcs (k + 2) (by omega) w h
  unfold adv qaz
  cases g : wdOk w
  · rw [g] at eO
    simp (disch := omega) only [eC, eO, bit, qa9, nth0, qzt, Bool.not_false, qhl, qgr, qzu, qgs, qt3, quv, qg3, qob, qg5, qg6, qg7, qg8, qg9, qha, qhb, qgt, qgu, qgv, qgw, qgx, qgy, qgz, qg0, qg1, qg2, qg4, Bool.false_and, qhj]
  rw [g] at eO
  cases g2 : inR n 0 100
  · simp (disch := omega) only [eC, eO, bit, qdy, g2, qa9, nth0, qzt, Bool.not_false, qhl, Bool.not_true, qhj, qgr, qzu, qgs, qt3, quv, qg3, qob, qg5, qg6, qg7, qg8, qg9, qha, qhb, qgt, qgu, qgv, qgw, qgx, qgy, qgz, qg0, qg1, qg2, qg4, Bool.and_false]
  have b := qn9.1 g2
  have e := qrb k hk [] n b.2 true [] true [] true [] true [] 0 0 0 0 0 0 0 0 0 0 0 0 0 0 0 0 0 (k + 11) n.toNat 0 w (by omega) (by omega) (wdF g).adv
  rw [show ((0 : Nat) : Int) = 0 from rfl] at e
  simp (disch := omega) only [eC, eO, bit, qdy, g2, qa9, nth0, qzt, Bool.not_true, qhj, qgs, qt3, quv, qg3, qob, qg5, qg6, qgr, qzu, qg7, qg8, qg9, qha, qhb, qgt, qgu, qgv, qgw, qgx, qgy, qgz, qg0, qg1, qg2, qg4, Bool.and_true, qhl]
  exact e
end Go.Proofs.YtoldpdhhfmlckaaGreat
end
section
namespace Go.Proofs.YtoldpdhhfmlckaaGreat
open Go.Ev
theorem qh7 (k : Nat) (a0 a1 a2 a3 : Int) : go (k + 1) impl_ActOk [(.agg [(.int .i64 a0), (.int .i64 a1), (.int .i64 a2), (.int .i64 a3)])] =
 cond (decide (a2 = (0 : Int)))
 (cond (decide (a0 = (1 : Int)))
 (cond (decide (a3 = (0 : Int)))
 ((go k impl_within [(.int .i64 a1), (.int .i64 ((1 : Int))), (.int .i64 ((20 : Int)))]).bind fun r0 =>
 some [(.bool (bit (nth r0 0)))])
 (some [(.bool false)]))
 (cond (decide (a0 = (2 : Int)))
 (cond (decide (a0 = (2 : Int)))
 (cond (decide (a3 = (0 : Int)))
 ((go k impl_isRain [(.int .i64 a1)]).bind fun r1 =>
 some [(.bool (bit (nth r1 0)))])
 (some [(.bool false)]))
 (cond (decide (a0 = (4 : Int)))
 ((go k impl_BorderOk [(.agg [(.int .i64 a1), (.int .i64 a2), (.int .i64 a3)])]).bind fun r2 =>
 some [(.bool (bit (nth r2 0)))])
 (cond (decide (a0 = (5 : Int)))
 (cond (decide (a3 = (0 : Int)))
 ((go k impl_isRate [(.int .i64 a1)]).bind fun r3 =>
 some [(.bool (bit (nth r3 0)))])
 (some [(.bool false)]))
 (cond (decide (a0 = (6 : Int)))
 ((go k impl_within [(.int .i64 a1), (.int .i64 (0 : Int)), (.int .i64 ((1000000 : Int)))]).bind fun r4 =>
 cond (bit (nth r4 0))
 ((go k impl_within [(.int .i64 a2), (.int .i64 (0 : Int)), (.int .i64 ((1000000 : Int)))]).bind fun r5 =>
 cond (bit (nth r5 0))
 ((go k impl_within [(.int .i64 a3), (.int .i64 (0 : Int)), (.int .i64 ((100 : Int)))]).bind fun r6 =>
 some [(.bool (bit (nth r6 0)))])
 (some [(.bool false)]))
 (some [(.bool false)]))
 (cond (decide (a0 = (7 : Int)))
 ((go k impl_within [(.int .i64 a1), (.int .i64 (0 : Int)), (.int .i64 ((127 : Int)))]).bind fun r7 =>
 cond (bit (nth r7 0))
 ((go k impl_within [(.int .i64 a2), (.int .i64 ((1 : Int))), (.int .i64 ((10000 : Int)))]).bind fun r8 =>
 cond (bit (nth r8 0))
 ((go k impl_within [(.int .i64 a3), (.int .i64 (0 : Int)), (.int .i64 ((1000 : Int)))]).bind fun r9 =>
 some [(.bool (bit (nth r9 0)))])
 (some [(.bool false)]))
 (some [(.bool false)]))
 (some [(.bool false)]))))))
 (cond (decide (a0 = (3 : Int)))
 (cond (decide (a3 = (0 : Int)))
 ((go k impl_isRain [(.int .i64 a1)]).bind fun r10 =>
 some [(.bool (bit (nth r10 0)))])
 (some [(.bool false)]))
 (cond (decide (a0 = (4 : Int)))
 ((go k impl_BorderOk [(.agg [(.int .i64 a1), (.int .i64 a2), (.int .i64 a3)])]).bind fun r11 =>
 some [(.bool (bit (nth r11 0)))])
 (cond (decide (a0 = (5 : Int)))
 (cond (decide (a3 = (0 : Int)))
 ((go k impl_isRate [(.int .i64 a1)]).bind fun r12 =>
 some [(.bool (bit (nth r12 0)))])
 (some [(.bool false)]))
 (cond (decide (a0 = (6 : Int)))
 ((go k impl_within [(.int .i64 a1), (.int .i64 (0 : Int)), (.int .i64 ((1000000 : Int)))]).bind fun r13 =>
 cond (bit (nth r13 0))
 ((go k impl_within [(.int .i64 a2), (.int .i64 (0 : Int)), (.int .i64 ((1000000 : Int)))]).bind fun r14 =>
 cond (bit (nth r14 0))
 ((go k impl_within [(.int .i64 a3), (.int .i64 (0 : Int)), (.int .i64 ((100 : Int)))]).bind fun r15 =>
 some [(.bool (bit (nth r15 0)))])
 (some [(.bool false)]))
 (some [(.bool false)]))
 (cond (decide (a0 = (7 : Int)))
 ((go k impl_within [(.int .i64 a1), (.int .i64 (0 : Int)), (.int .i64 ((127 : Int)))]).bind fun r16 =>
 cond (bit (nth r16 0))
 ((go k impl_within [(.int .i64 a2), (.int .i64 ((1 : Int))), (.int .i64 ((10000 : Int)))]).bind fun r17 =>
 cond (bit (nth r17 0))
 ((go k impl_within [(.int .i64 a3), (.int .i64 (0 : Int)), (.int .i64 ((1000 : Int)))]).bind fun r18 =>
 some [(.bool (bit (nth r18 0)))])
 (some [(.bool false)]))
 (some [(.bool false)]))
 (some [(.bool false)]))))))))
 (cond (decide (a0 = (1 : Int)))
 (some [(.bool false)])
 (cond (decide (a0 = (2 : Int)))
 (cond (decide (a0 = (2 : Int)))
 (some [(.bool false)])
 (cond (decide (a0 = (4 : Int)))
 ((go k impl_BorderOk [(.agg [(.int .i64 a1), (.int .i64 a2), (.int .i64 a3)])]).bind fun r19 =>
 some [(.bool (bit (nth r19 0)))])
 (cond (decide (a0 = (5 : Int)))
 (some [(.bool false)])
 (cond (decide (a0 = (6 : Int)))
 ((go k impl_within [(.int .i64 a1), (.int .i64 (0 : Int)), (.int .i64 ((1000000 : Int)))]).bind fun r20 =>
 cond (bit (nth r20 0))
 ((go k impl_within [(.int .i64 a2), (.int .i64 (0 : Int)), (.int .i64 ((1000000 : Int)))]).bind fun r21 =>
 cond (bit (nth r21 0))
 ((go k impl_within [(.int .i64 a3), (.int .i64 (0 : Int)), (.int .i64 ((100 : Int)))]).bind fun r22 =>
 some [(.bool (bit (nth r22 0)))])
 (some [(.bool false)]))
 (some [(.bool false)]))
 (cond (decide (a0 = (7 : Int)))
 ((go k impl_within [(.int .i64 a1), (.int .i64 (0 : Int)), (.int .i64 ((127 : Int)))]).bind fun r23 =>
 cond (bit (nth r23 0))
 ((go k impl_within [(.int .i64 a2), (.int .i64 ((1 : Int))), (.int .i64 ((10000 : Int)))]).bind fun r24 =>
 cond (bit (nth r24 0))
 ((go k impl_within [(.int .i64 a3), (.int .i64 (0 : Int)), (.int .i64 ((1000 : Int)))]).bind fun r25 =>
 some [(.bool (bit (nth r25 0)))])
 (some [(.bool false)]))
 (some [(.bool false)]))
 (some [(.bool false)]))))))
 (cond (decide (a0 = (3 : Int)))
 (some [(.bool false)])
 (cond (decide (a0 = (4 : Int)))
 ((go k impl_BorderOk [(.agg [(.int .i64 a1), (.int .i64 a2), (.int .i64 a3)])]).bind fun r26 =>
 some [(.bool (bit (nth r26 0)))])
 (cond (decide (a0 = (5 : Int)))
 (some [(.bool false)])
 (cond (decide (a0 = (6 : Int)))
 ((go k impl_within [(.int .i64 a1), (.int .i64 (0 : Int)), (.int .i64 ((1000000 : Int)))]).bind fun r27 =>
 cond (bit (nth r27 0))
 ((go k impl_within [(.int .i64 a2), (.int .i64 (0 : Int)), (.int .i64 ((1000000 : Int)))]).bind fun r28 =>
 cond (bit (nth r28 0))
 ((go k impl_within [(.int .i64 a3), (.int .i64 (0 : Int)), (.int .i64 ((100 : Int)))]).bind fun r29 =>
 some [(.bool (bit (nth r29 0)))])
 (some [(.bool false)]))
 (some [(.bool false)]))
 (cond (decide (a0 = (7 : Int)))
 ((go k impl_within [(.int .i64 a1), (.int .i64 (0 : Int)), (.int .i64 ((127 : Int)))]).bind fun r30 =>
 cond (bit (nth r30 0))
 ((go k impl_within [(.int .i64 a2), (.int .i64 ((1 : Int))), (.int .i64 ((10000 : Int)))]).bind fun r31 =>
 cond (bit (nth r31 0))
 ((go k impl_within [(.int .i64 a3), (.int .i64 (0 : Int)), (.int .i64 ((1000 : Int)))]).bind fun r32 =>
 some [(.bool (bit (nth r32 0)))])
 (some [(.bool false)]))
 (some [(.bool false)]))
 (some [(.bool false)])))))))) := by kernel_rfl
theorem qj5 (k : Nat) (a0 : Int) (a1z : Bool) (a1 : List (Int × Int × Int)) (a2z : Bool) (a2 : List Int) (a3z : Bool) (a3 : List Int) (a4z : Bool) (a4 : List Int) (a5 a6 a7 a8 a9 a10 a11 a12 a13 a14 a15 a16 a17 a18 a19 a20 b0 b1 b2 b3 : Int) : go (k + 1) impl_World_do [(.ptr true [(.int .i64 a0), (.arr true a1z (.r3 a1)), (.arr true a2z (.ints .i64 a2)), (.arr true a3z (.ints .i64 a3)), (.arr true a4z (.ints .i64 a4)), (.int .i64 a5), (.int .i64 a6), (.int .i64 a7), (.int .i64 a8), (.int .i64 a9), (.int .i64 a10), (.int .i64 a11), (.int .i64 a12), (.int .i64 a13), (.int .i64 a14), (.int .i64 a15), (.int .i64 a16), (.int .i64 a17), (.int .i64 a18), (.int .i64 a19), (.int .i64 a20)]), (.agg [(.int .i64 b0), (.int .i64 b1), (.int .i64 b2), (.int .i64 b3)])] =
 cond (decide (b0 = (1 : Int)))
 ((go k impl_Advance [(.agg [(.int .i64 a0), (.arr false a1z (.r3 a1)), (.arr false a2z (.ints .i64 a2)), (.arr false a3z (.ints .i64 a3)), (.arr false a4z (.ints .i64 a4)), (.int .i64 a5), (.int .i64 a6), (.int .i64 a7), (.int .i64 a8), (.int .i64 a9), (.int .i64 a10), (.int .i64 a11), (.int .i64 a12), (.int .i64 a13), (.int .i64 a14), (.int .i64 a15), (.int .i64 a16), (.int .i64 a17), (.int .i64 a18), (.int .i64 a19), (.int .i64 a20)]), (.int .i64 b1)]).bind fun r0 =>
 (go k impl_TotalMass [(.agg [(.int .i64 (D.toInt (D.cell 0 (nth r0 0)))), (.arr false (D.nil (D.cell 1 (nth r0 0))) (.r3 (D.r3 (D.cell 1 (nth r0 0))))), (.arr false (D.nil (D.cell 2 (nth r0 0))) (.ints .i64 (D.ints (D.cell 2 (nth r0 0))))), (.arr false (D.nil (D.cell 3 (nth r0 0))) (.ints .i64 (D.ints (D.cell 3 (nth r0 0))))), (.arr false (D.nil (D.cell 4 (nth r0 0))) (.ints .i64 (D.ints (D.cell 4 (nth r0 0)))))])]).bind fun r1 =>
 some [(.int .i64 (D.toInt (nth r1 0))), (.ptr true [(.int .i64 (D.toInt (D.cell 0 (nth r0 0)))), (.arr true (D.nil (D.cell 1 (nth r0 0))) (.r3 (D.r3 (D.cell 1 (nth r0 0))))), (.arr true (D.nil (D.cell 2 (nth r0 0))) (.ints .i64 (D.ints (D.cell 2 (nth r0 0))))), (.arr true (D.nil (D.cell 3 (nth r0 0))) (.ints .i64 (D.ints (D.cell 3 (nth r0 0))))), (.arr true (D.nil (D.cell 4 (nth r0 0))) (.ints .i64 (D.ints (D.cell 4 (nth r0 0))))), (.int .i64 (D.toInt (D.cell 5 (nth r0 0)))), (.int .i64 (D.toInt (D.cell 6 (nth r0 0)))), (.int .i64 (D.toInt (D.cell 7 (nth r0 0)))), (.int .i64 (D.toInt (D.cell 8 (nth r0 0)))), (.int .i64 (D.toInt (D.cell 9 (nth r0 0)))), (.int .i64 (D.toInt (D.cell 10 (nth r0 0)))), (.int .i64 (D.toInt (D.cell 11 (nth r0 0)))), (.int .i64 (D.toInt (D.cell (12 : Nat) (nth r0 0)))), (.int .i64 (D.toInt (D.cell (13 : Nat) (nth r0 0)))), (.int .i64 (D.toInt (D.cell (14 : Nat) (nth r0 0)))), (.int .i64 (D.toInt (D.cell (15 : Nat) (nth r0 0)))), (.int .i64 (D.toInt (D.cell (16 : Nat) (nth r0 0)))), (.int .i64 (D.toInt (D.cell (17 : Nat) (nth r0 0)))), (.int .i64 (D.toInt (D.cell (18 : Nat) (nth r0 0)))), (.int .i64 (D.toInt (D.cell (19 : Nat) (nth r0 0)))), (.int .i64 (D.toInt (D.cell (20 : Nat) (nth r0 0))))])])
 (cond (decide (b0 = (2 : Int)))
 (some [(.int .i64 ((1 : Int))), (.ptr true [(.int .i64 a0), (.arr true a1z (.r3 a1)), (.arr true a2z (.ints .i64 a2)), (.arr true a3z (.ints .i64 a3)), (.arr true a4z (.ints .i64 a4)), (.int .i64 a5), (.int .i64 a6), (.int .i64 a7), (.int .i64 b1), (.int .i64 a9), (.int .i64 a10), (.int .i64 a11), (.int .i64 a12), (.int .i64 a13), (.int .i64 a14), (.int .i64 a15), (.int .i64 a16), (.int .i64 a17), (.int .i64 a18), (.int .i64 a19), (.int .i64 a20)])])
 (cond (decide (b0 = (3 : Int)))
 (some [(.int .i64 ((1 : Int))), (.ptr true [(.int .i64 a0), (.arr true a1z (.r3 a1)), (.arr true a2z (.ints .i64 a2)), (.arr true a3z (.ints .i64 a3)), (.arr true a4z (.ints .i64 a4)), (.int .i64 a5), (.int .i64 a6), (.int .i64 a7), (.int .i64 a8), (.int .i64 b1), (.int .i64 a10), (.int .i64 a11), (.int .i64 a12), (.int .i64 a13), (.int .i64 a14), (.int .i64 a15), (.int .i64 a16), (.int .i64 a17), (.int .i64 a18), (.int .i64 a19), (.int .i64 a20)])])
 (cond (decide (b0 = (4 : Int)))
 (some [(.int .i64 ((1 : Int))), (.ptr true [(.int .i64 a0), (.arr true a1z (.r3 a1)), (.arr true a2z (.ints .i64 a2)), (.arr true a3z (.ints .i64 a3)), (.arr true a4z (.ints .i64 a4)), (.int .i64 b1), (.int .i64 b2), (.int .i64 b3), (.int .i64 a8), (.int .i64 a9), (.int .i64 a10), (.int .i64 a11), (.int .i64 a12), (.int .i64 a13), (.int .i64 a14), (.int .i64 a15), (.int .i64 a16), (.int .i64 a17), (.int .i64 a18), (.int .i64 a19), (.int .i64 a20)])])
 (cond (decide (b0 = (5 : Int)))
 (some [(.int .i64 ((1 : Int))), (.ptr true [(.int .i64 a0), (.arr true a1z (.r3 a1)), (.arr true a2z (.ints .i64 a2)), (.arr true a3z (.ints .i64 a3)), (.arr true a4z (.ints .i64 a4)), (.int .i64 a5), (.int .i64 a6), (.int .i64 a7), (.int .i64 a8), (.int .i64 a9), (.int .i64 b1), (.int .i64 a11), (.int .i64 a12), (.int .i64 a13), (.int .i64 a14), (.int .i64 a15), (.int .i64 a16), (.int .i64 a17), (.int .i64 a18), (.int .i64 a19), (.int .i64 a20)])])
 (cond (decide (b0 = (6 : Int)))
 (some [(.int .i64 (nI (List.length a1))), (.ptr true [(.int .i64 a0), (.arr true a1z (.r3 a1)), (.arr true a2z (.ints .i64 a2)), (.arr true a3z (.ints .i64 a3)), (.arr true a4z (.ints .i64 a4)), (.int .i64 a5), (.int .i64 a6), (.int .i64 a7), (.int .i64 a8), (.int .i64 a9), (.int .i64 a10), (.int .i64 b1), (.int .i64 b2), (.int .i64 b3), (.int .i64 a14), (.int .i64 a15), (.int .i64 a16), (.int .i64 a17), (.int .i64 a18), (.int .i64 a19), (.int .i64 a20)])])
 (cond (decide (b0 = (7 : Int)))
 ((go k impl_Drop [(.agg [(.int .i64 a0), (.arr false a1z (.r3 a1)), (.arr false a2z (.ints .i64 a2)), (.arr false a3z (.ints .i64 a3)), (.arr false a4z (.ints .i64 a4)), (.int .i64 a5), (.int .i64 a6), (.int .i64 a7), (.int .i64 a8), (.int .i64 a9), (.int .i64 a10), (.int .i64 a11), (.int .i64 a12), (.int .i64 a13), (.int .i64 a14), (.int .i64 a15), (.int .i64 a16), (.int .i64 a17), (.int .i64 a18), (.int .i64 a19), (.int .i64 a20)]), (.int .i64 b1), (.int .i64 b2), (.int .i64 b3)]).bind fun r2 =>
 cond (!bit (nth r2 1))
 (some [(.int .i64 (0 : Int)), (.ptr true [(.int .i64 (D.toInt (D.cell 0 (nth r2 0)))), (.arr true (D.nil (D.cell 1 (nth r2 0))) (.r3 (D.r3 (D.cell 1 (nth r2 0))))), (.arr true (D.nil (D.cell 2 (nth r2 0))) (.ints .i64 (D.ints (D.cell 2 (nth r2 0))))), (.arr true (D.nil (D.cell 3 (nth r2 0))) (.ints .i64 (D.ints (D.cell 3 (nth r2 0))))), (.arr true (D.nil (D.cell 4 (nth r2 0))) (.ints .i64 (D.ints (D.cell 4 (nth r2 0))))), (.int .i64 (D.toInt (D.cell 5 (nth r2 0)))), (.int .i64 (D.toInt (D.cell 6 (nth r2 0)))), (.int .i64 (D.toInt (D.cell 7 (nth r2 0)))), (.int .i64 (D.toInt (D.cell 8 (nth r2 0)))), (.int .i64 (D.toInt (D.cell 9 (nth r2 0)))), (.int .i64 (D.toInt (D.cell 10 (nth r2 0)))), (.int .i64 (D.toInt (D.cell 11 (nth r2 0)))), (.int .i64 (D.toInt (D.cell (12 : Nat) (nth r2 0)))), (.int .i64 (D.toInt (D.cell (13 : Nat) (nth r2 0)))), (.int .i64 (D.toInt (D.cell (14 : Nat) (nth r2 0)))), (.int .i64 (D.toInt (D.cell (15 : Nat) (nth r2 0)))), (.int .i64 (D.toInt (D.cell (16 : Nat) (nth r2 0)))), (.int .i64 (D.toInt (D.cell (17 : Nat) (nth r2 0)))), (.int .i64 (D.toInt (D.cell (18 : Nat) (nth r2 0)))), (.int .i64 (D.toInt (D.cell (19 : Nat) (nth r2 0)))), (.int .i64 (D.toInt (D.cell (20 : Nat) (nth r2 0))))])])
 (some [(.int .i64 ((1 : Int))), (.ptr true [(.int .i64 (D.toInt (D.cell 0 (nth r2 0)))), (.arr true (D.nil (D.cell 1 (nth r2 0))) (.r3 (D.r3 (D.cell 1 (nth r2 0))))), (.arr true (D.nil (D.cell 2 (nth r2 0))) (.ints .i64 (D.ints (D.cell 2 (nth r2 0))))), (.arr true (D.nil (D.cell 3 (nth r2 0))) (.ints .i64 (D.ints (D.cell 3 (nth r2 0))))), (.arr true (D.nil (D.cell 4 (nth r2 0))) (.ints .i64 (D.ints (D.cell 4 (nth r2 0))))), (.int .i64 (D.toInt (D.cell 5 (nth r2 0)))), (.int .i64 (D.toInt (D.cell 6 (nth r2 0)))), (.int .i64 (D.toInt (D.cell 7 (nth r2 0)))), (.int .i64 (D.toInt (D.cell 8 (nth r2 0)))), (.int .i64 (D.toInt (D.cell 9 (nth r2 0)))), (.int .i64 (D.toInt (D.cell 10 (nth r2 0)))), (.int .i64 (D.toInt (D.cell 11 (nth r2 0)))), (.int .i64 (D.toInt (D.cell (12 : Nat) (nth r2 0)))), (.int .i64 (D.toInt (D.cell (13 : Nat) (nth r2 0)))), (.int .i64 (D.toInt (D.cell (14 : Nat) (nth r2 0)))), (.int .i64 (D.toInt (D.cell (15 : Nat) (nth r2 0)))), (.int .i64 (D.toInt (D.cell (16 : Nat) (nth r2 0)))), (.int .i64 (D.toInt (D.cell (17 : Nat) (nth r2 0)))), (.int .i64 (D.toInt (D.cell (18 : Nat) (nth r2 0)))), (.int .i64 (D.toInt (D.cell (19 : Nat) (nth r2 0)))), (.int .i64 (D.toInt (D.cell (20 : Nat) (nth r2 0))))])]))
 (some [(.int .i64 ((1 : Int))), (.ptr true [(.int .i64 a0), (.arr true a1z (.r3 a1)), (.arr true a2z (.ints .i64 a2)), (.arr true a3z (.ints .i64 a3)), (.arr true a4z (.ints .i64 a4)), (.int .i64 a5), (.int .i64 a6), (.int .i64 a7), (.int .i64 a8), (.int .i64 a9), (.int .i64 a10), (.int .i64 a11), (.int .i64 a12), (.int .i64 a13), (.int .i64 a14), (.int .i64 a15), (.int .i64 a16), (.int .i64 a17), (.int .i64 a18), (.int .i64 a19), (.int .i64 a20)])]))))))) := by kernel_rfl
theorem qig (k : Nat) (a0 : Int) (a1z : Bool) (a1 : List (Int × Int × Int)) (a2z : Bool) (a2 : List Int) (a3z : Bool) (a3 : List Int) (a4z : Bool) (a4 : List Int) (a5 a6 a7 a8 a9 a10 a11 a12 a13 a14 a15 a16 a17 a18 a19 a20 b0 b1 b2 b3 : Int) : go (k + 1) impl_DoAct [(.agg [(.int .i64 a0), (.arr false a1z (.r3 a1)), (.arr false a2z (.ints .i64 a2)), (.arr false a3z (.ints .i64 a3)), (.arr false a4z (.ints .i64 a4)), (.int .i64 a5), (.int .i64 a6), (.int .i64 a7), (.int .i64 a8), (.int .i64 a9), (.int .i64 a10), (.int .i64 a11), (.int .i64 a12), (.int .i64 a13), (.int .i64 a14), (.int .i64 a15), (.int .i64 a16), (.int .i64 a17), (.int .i64 a18), (.int .i64 a19), (.int .i64 a20)]), (.agg [(.int .i64 b0), (.int .i64 b1), (.int .i64 b2), (.int .i64 b3)])] =
 (go k impl_copyWorld [(.agg [(.int .i64 a0), (.arr false a1z (.r3 a1)), (.arr false a2z (.ints .i64 a2)), (.arr false a3z (.ints .i64 a3)), (.arr false a4z (.ints .i64 a4)), (.int .i64 a5), (.int .i64 a6), (.int .i64 a7), (.int .i64 a8), (.int .i64 a9), (.int .i64 a10), (.int .i64 a11), (.int .i64 a12), (.int .i64 a13), (.int .i64 a14), (.int .i64 a15), (.int .i64 a16), (.int .i64 a17), (.int .i64 a18), (.int .i64 a19), (.int .i64 a20)])]).bind fun r0 =>
 (go k impl_WorldOk [(.agg [(.int .i64 a0), (.arr false a1z (.r3 a1)), (.arr false a2z (.ints .i64 a2)), (.arr false a3z (.ints .i64 a3)), (.arr false a4z (.ints .i64 a4)), (.int .i64 a5), (.int .i64 a6), (.int .i64 a7), (.int .i64 a8), (.int .i64 a9), (.int .i64 a10), (.int .i64 a11), (.int .i64 a12), (.int .i64 a13), (.int .i64 a14), (.int .i64 a15), (.int .i64 a16), (.int .i64 a17), (.int .i64 a18), (.int .i64 a19), (.int .i64 a20)])]).bind fun r1 =>
 cond (!bit (nth r1 0))
 (some [(.agg [(.int .i64 (D.toInt (D.cell 0 (nth r0 0)))), (.arr true (D.nil (D.cell 1 (nth r0 0))) (.r3 (D.r3 (D.cell 1 (nth r0 0))))), (.arr true (D.nil (D.cell 2 (nth r0 0))) (.ints .i64 (D.ints (D.cell 2 (nth r0 0))))), (.arr true (D.nil (D.cell 3 (nth r0 0))) (.ints .i64 (D.ints (D.cell 3 (nth r0 0))))), (.arr true (D.nil (D.cell 4 (nth r0 0))) (.ints .i64 (D.ints (D.cell 4 (nth r0 0))))), (.int .i64 (D.toInt (D.cell 5 (nth r0 0)))), (.int .i64 (D.toInt (D.cell 6 (nth r0 0)))), (.int .i64 (D.toInt (D.cell 7 (nth r0 0)))), (.int .i64 (D.toInt (D.cell 8 (nth r0 0)))), (.int .i64 (D.toInt (D.cell 9 (nth r0 0)))), (.int .i64 (D.toInt (D.cell 10 (nth r0 0)))), (.int .i64 (D.toInt (D.cell 11 (nth r0 0)))), (.int .i64 (D.toInt (D.cell (12 : Nat) (nth r0 0)))), (.int .i64 (D.toInt (D.cell (13 : Nat) (nth r0 0)))), (.int .i64 (D.toInt (D.cell (14 : Nat) (nth r0 0)))), (.int .i64 (D.toInt (D.cell (15 : Nat) (nth r0 0)))), (.int .i64 (D.toInt (D.cell (16 : Nat) (nth r0 0)))), (.int .i64 (D.toInt (D.cell (17 : Nat) (nth r0 0)))), (.int .i64 (D.toInt (D.cell (18 : Nat) (nth r0 0)))), (.int .i64 (D.toInt (D.cell (19 : Nat) (nth r0 0)))), (.int .i64 (D.toInt (D.cell (20 : Nat) (nth r0 0))))]), (.int .i64 ((-1 : Int)))])
 ((go k impl_ActOk [(.agg [(.int .i64 b0), (.int .i64 b1), (.int .i64 b2), (.int .i64 b3)])]).bind fun r2 =>
 cond (!bit (nth r2 0))
 (some [(.agg [(.int .i64 (D.toInt (D.cell 0 (nth r0 0)))), (.arr true (D.nil (D.cell 1 (nth r0 0))) (.r3 (D.r3 (D.cell 1 (nth r0 0))))), (.arr true (D.nil (D.cell 2 (nth r0 0))) (.ints .i64 (D.ints (D.cell 2 (nth r0 0))))), (.arr true (D.nil (D.cell 3 (nth r0 0))) (.ints .i64 (D.ints (D.cell 3 (nth r0 0))))), (.arr true (D.nil (D.cell 4 (nth r0 0))) (.ints .i64 (D.ints (D.cell 4 (nth r0 0))))), (.int .i64 (D.toInt (D.cell 5 (nth r0 0)))), (.int .i64 (D.toInt (D.cell 6 (nth r0 0)))), (.int .i64 (D.toInt (D.cell 7 (nth r0 0)))), (.int .i64 (D.toInt (D.cell 8 (nth r0 0)))), (.int .i64 (D.toInt (D.cell 9 (nth r0 0)))), (.int .i64 (D.toInt (D.cell 10 (nth r0 0)))), (.int .i64 (D.toInt (D.cell 11 (nth r0 0)))), (.int .i64 (D.toInt (D.cell (12 : Nat) (nth r0 0)))), (.int .i64 (D.toInt (D.cell (13 : Nat) (nth r0 0)))), (.int .i64 (D.toInt (D.cell (14 : Nat) (nth r0 0)))), (.int .i64 (D.toInt (D.cell (15 : Nat) (nth r0 0)))), (.int .i64 (D.toInt (D.cell (16 : Nat) (nth r0 0)))), (.int .i64 (D.toInt (D.cell (17 : Nat) (nth r0 0)))), (.int .i64 (D.toInt (D.cell (18 : Nat) (nth r0 0)))), (.int .i64 (D.toInt (D.cell (19 : Nat) (nth r0 0)))), (.int .i64 (D.toInt (D.cell (20 : Nat) (nth r0 0))))]), (.int .i64 ((-1 : Int)))])
 ((go k impl_World_do [(.ptr true [(.int .i64 (D.toInt (D.cell 0 (nth r0 0)))), (.arr true (D.nil (D.cell 1 (nth r0 0))) (.r3 (D.r3 (D.cell 1 (nth r0 0))))), (.arr true (D.nil (D.cell 2 (nth r0 0))) (.ints .i64 (D.ints (D.cell 2 (nth r0 0))))), (.arr true (D.nil (D.cell 3 (nth r0 0))) (.ints .i64 (D.ints (D.cell 3 (nth r0 0))))), (.arr true (D.nil (D.cell 4 (nth r0 0))) (.ints .i64 (D.ints (D.cell 4 (nth r0 0))))), (.int .i64 (D.toInt (D.cell 5 (nth r0 0)))), (.int .i64 (D.toInt (D.cell 6 (nth r0 0)))), (.int .i64 (D.toInt (D.cell 7 (nth r0 0)))), (.int .i64 (D.toInt (D.cell 8 (nth r0 0)))), (.int .i64 (D.toInt (D.cell 9 (nth r0 0)))), (.int .i64 (D.toInt (D.cell 10 (nth r0 0)))), (.int .i64 (D.toInt (D.cell 11 (nth r0 0)))), (.int .i64 (D.toInt (D.cell (12 : Nat) (nth r0 0)))), (.int .i64 (D.toInt (D.cell (13 : Nat) (nth r0 0)))), (.int .i64 (D.toInt (D.cell (14 : Nat) (nth r0 0)))), (.int .i64 (D.toInt (D.cell (15 : Nat) (nth r0 0)))), (.int .i64 (D.toInt (D.cell (16 : Nat) (nth r0 0)))), (.int .i64 (D.toInt (D.cell (17 : Nat) (nth r0 0)))), (.int .i64 (D.toInt (D.cell (18 : Nat) (nth r0 0)))), (.int .i64 (D.toInt (D.cell (19 : Nat) (nth r0 0)))), (.int .i64 (D.toInt (D.cell (20 : Nat) (nth r0 0))))]), (.agg [(.int .i64 b0), (.int .i64 b1), (.int .i64 b2), (.int .i64 b3)])]).bind fun r3 =>
 some [(.agg [(.int .i64 (D.toInt (D.cell 0 (nth r3 1)))), (.arr true (D.nil (D.cell 1 (nth r3 1))) (.r3 (D.r3 (D.cell 1 (nth r3 1))))), (.arr true (D.nil (D.cell 2 (nth r3 1))) (.ints .i64 (D.ints (D.cell 2 (nth r3 1))))), (.arr true (D.nil (D.cell 3 (nth r3 1))) (.ints .i64 (D.ints (D.cell 3 (nth r3 1))))), (.arr true (D.nil (D.cell 4 (nth r3 1))) (.ints .i64 (D.ints (D.cell 4 (nth r3 1))))), (.int .i64 (D.toInt (D.cell 5 (nth r3 1)))), (.int .i64 (D.toInt (D.cell 6 (nth r3 1)))), (.int .i64 (D.toInt (D.cell 7 (nth r3 1)))), (.int .i64 (D.toInt (D.cell 8 (nth r3 1)))), (.int .i64 (D.toInt (D.cell 9 (nth r3 1)))), (.int .i64 (D.toInt (D.cell 10 (nth r3 1)))), (.int .i64 (D.toInt (D.cell 11 (nth r3 1)))), (.int .i64 (D.toInt (D.cell (12 : Nat) (nth r3 1)))), (.int .i64 (D.toInt (D.cell (13 : Nat) (nth r3 1)))), (.int .i64 (D.toInt (D.cell (14 : Nat) (nth r3 1)))), (.int .i64 (D.toInt (D.cell (15 : Nat) (nth r3 1)))), (.int .i64 (D.toInt (D.cell (16 : Nat) (nth r3 1)))), (.int .i64 (D.toInt (D.cell (17 : Nat) (nth r3 1)))), (.int .i64 (D.toInt (D.cell (18 : Nat) (nth r3 1)))), (.int .i64 (D.toInt (D.cell (19 : Nat) (nth r3 1)))), (.int .i64 (D.toInt (D.cell (20 : Nat) (nth r3 1))))]), (.int .i64 (D.toInt (nth r3 0)))])) := by kernel_rfl

end Go.Proofs.YtoldpdhhfmlckaaGreat
end
section
namespace Go.Proofs.YtoldpdhhfmlckaaGreat
open Go.Ev
def qv8 (x0 x1 : Int) (z2 : Bool) (l3 : List (Int × Int × Int)) (z4 : Bool) (l5 : List Int) (z6 : Bool) (l7 : List Int) (z8 : Bool) (l9 : List Int) (x10 x11 x12 x13 x14 x15 x16 x17 x18 x19 x20 x21 x22 x23 x24 x25 x26 : Int) (z27 : Bool) (l28 : List (Int × Int × Int)) (z29 : Bool) (l30 : List Int) (z31 : Bool) (l32 : List Int) (z33 : Bool) (l34 : List Int) (x35 x36 x37 x38 x39 x40 x41 x42 x43 x44 x45 x46 x47 x48 x49 x50 x51 : Int) (z52 : Bool) (l53 : List Int) (z54 : Bool) (l55 : List (Int × Int × Int × Int)) : St := ⟨fill 44 [(4, (.ptr 4 0 0)), (6, (.ptr 9 0 0)), (7, (.sl 10 none)), (24, (.sl 11 none)), (25, (.int .i64 x0)), (26, (.int .i64 x1))], [], [(.arr true z2 (.r3 l3)), (.arr true z4 (.ints .i64 l5)), (.arr true z6 (.ints .i64 l7)), (.arr true z8 (.ints .i64 l9)), (.box true [(.int .i64 x10), (.sl 0 none), (.sl 1 none), (.sl 2 none), (.sl 3 none), (.int .i64 x11), (.int .i64 x12), (.int .i64 x13), (.int .i64 x14), (.int .i64 x15), (.int .i64 x16), (.int .i64 x17), (.int .i64 x18), (.int .i64 x19), (.int .i64 x20), (.int .i64 x21), (.int .i64 x22), (.int .i64 x23), (.int .i64 x24), (.int .i64 x25), (.int .i64 x26)]), (.arr true z27 (.r3 l28)), (.arr true z29 (.ints .i64 l30)), (.arr true z31 (.ints .i64 l32)), (.arr true z33 (.ints .i64 l34)), (.box true [(.int .i64 x35), (.sl 5 none), (.sl 6 none), (.sl 7 none), (.sl 8 none), (.int .i64 x36), (.int .i64 x37), (.int .i64 x38), (.int .i64 x39), (.int .i64 x40), (.int .i64 x41), (.int .i64 x42), (.int .i64 x43), (.int .i64 x44), (.int .i64 x45), (.int .i64 x46), (.int .i64 x47), (.int .i64 x48), (.int .i64 x49), (.int .i64 x50), (.int .i64 x51)]), (.arr true z52 (.ints .i64 l53)), (.arr false z54 (.r4 l55))]⟩
theorem qi7 (k : Nat) (a0 : Int) (a1z : Bool) (a1 : List (Int × Int × Int)) (a2z : Bool) (a2 : List Int) (a3z : Bool) (a3 : List Int) (a4z : Bool) (a4 : List Int) (a5 a6 a7 a8 a9 a10 a11 a12 a13 a14 a15 a16 a17 a18 a19 a20 : Int) (bz : Bool) (b : List (Int × Int × Int × Int)) : go (k + 1) impl_RunActs [(.agg [(.int .i64 a0), (.arr false a1z (.r3 a1)), (.arr false a2z (.ints .i64 a2)), (.arr false a3z (.ints .i64 a3)), (.arr false a4z (.ints .i64 a4)), (.int .i64 a5), (.int .i64 a6), (.int .i64 a7), (.int .i64 a8), (.int .i64 a9), (.int .i64 a10), (.int .i64 a11), (.int .i64 a12), (.int .i64 a13), (.int .i64 a14), (.int .i64 a15), (.int .i64 a16), (.int .i64 a17), (.int .i64 a18), (.int .i64 a19), (.int .i64 a20)]), (.arr false bz (.r4 b))] =
 (go k impl_copyWorld [(.agg [(.int .i64 a0), (.arr false a1z (.r3 a1)), (.arr false a2z (.ints .i64 a2)), (.arr false a3z (.ints .i64 a3)), (.arr false a4z (.ints .i64 a4)), (.int .i64 a5), (.int .i64 a6), (.int .i64 a7), (.int .i64 a8), (.int .i64 a9), (.int .i64 a10), (.int .i64 a11), (.int .i64 a12), (.int .i64 a13), (.int .i64 a14), (.int .i64 a15), (.int .i64 a16), (.int .i64 a17), (.int .i64 a18), (.int .i64 a19), (.int .i64 a20)])]).bind fun r0 =>
 (go k impl_WorldOk [(.agg [(.int .i64 a0), (.arr false a1z (.r3 a1)), (.arr false a2z (.ints .i64 a2)), (.arr false a3z (.ints .i64 a3)), (.arr false a4z (.ints .i64 a4)), (.int .i64 a5), (.int .i64 a6), (.int .i64 a7), (.int .i64 a8), (.int .i64 a9), (.int .i64 a10), (.int .i64 a11), (.int .i64 a12), (.int .i64 a13), (.int .i64 a14), (.int .i64 a15), (.int .i64 a16), (.int .i64 a17), (.int .i64 a18), (.int .i64 a19), (.int .i64 a20)])]).bind fun r1 =>
 cond (!bit (nth r1 0))
 (some [(.agg [(.int .i64 (D.toInt (D.cell 0 (nth r0 0)))), (.arr true (D.nil (D.cell 1 (nth r0 0))) (.r3 (D.r3 (D.cell 1 (nth r0 0))))), (.arr true (D.nil (D.cell 2 (nth r0 0))) (.ints .i64 (D.ints (D.cell 2 (nth r0 0))))), (.arr true (D.nil (D.cell 3 (nth r0 0))) (.ints .i64 (D.ints (D.cell 3 (nth r0 0))))), (.arr true (D.nil (D.cell 4 (nth r0 0))) (.ints .i64 (D.ints (D.cell 4 (nth r0 0))))), (.int .i64 (D.toInt (D.cell 5 (nth r0 0)))), (.int .i64 (D.toInt (D.cell 6 (nth r0 0)))), (.int .i64 (D.toInt (D.cell 7 (nth r0 0)))), (.int .i64 (D.toInt (D.cell 8 (nth r0 0)))), (.int .i64 (D.toInt (D.cell 9 (nth r0 0)))), (.int .i64 (D.toInt (D.cell 10 (nth r0 0)))), (.int .i64 (D.toInt (D.cell 11 (nth r0 0)))), (.int .i64 (D.toInt (D.cell (12 : Nat) (nth r0 0)))), (.int .i64 (D.toInt (D.cell (13 : Nat) (nth r0 0)))), (.int .i64 (D.toInt (D.cell (14 : Nat) (nth r0 0)))), (.int .i64 (D.toInt (D.cell (15 : Nat) (nth r0 0)))), (.int .i64 (D.toInt (D.cell (16 : Nat) (nth r0 0)))), (.int .i64 (D.toInt (D.cell (17 : Nat) (nth r0 0)))), (.int .i64 (D.toInt (D.cell (18 : Nat) (nth r0 0)))), (.int .i64 (D.toInt (D.cell (19 : Nat) (nth r0 0)))), (.int .i64 (D.toInt (D.cell (20 : Nat) (nth r0 0))))]), (.arr true true (.ints .i64 []))])
 (cond (decide ((30 : Int) < nI (List.length b)))
 (some [(.agg [(.int .i64 (D.toInt (D.cell 0 (nth r0 0)))), (.arr true (D.nil (D.cell 1 (nth r0 0))) (.r3 (D.r3 (D.cell 1 (nth r0 0))))), (.arr true (D.nil (D.cell 2 (nth r0 0))) (.ints .i64 (D.ints (D.cell 2 (nth r0 0))))), (.arr true (D.nil (D.cell 3 (nth r0 0))) (.ints .i64 (D.ints (D.cell 3 (nth r0 0))))), (.arr true (D.nil (D.cell 4 (nth r0 0))) (.ints .i64 (D.ints (D.cell 4 (nth r0 0))))), (.int .i64 (D.toInt (D.cell 5 (nth r0 0)))), (.int .i64 (D.toInt (D.cell 6 (nth r0 0)))), (.int .i64 (D.toInt (D.cell 7 (nth r0 0)))), (.int .i64 (D.toInt (D.cell 8 (nth r0 0)))), (.int .i64 (D.toInt (D.cell 9 (nth r0 0)))), (.int .i64 (D.toInt (D.cell 10 (nth r0 0)))), (.int .i64 (D.toInt (D.cell 11 (nth r0 0)))), (.int .i64 (D.toInt (D.cell (12 : Nat) (nth r0 0)))), (.int .i64 (D.toInt (D.cell (13 : Nat) (nth r0 0)))), (.int .i64 (D.toInt (D.cell (14 : Nat) (nth r0 0)))), (.int .i64 (D.toInt (D.cell (15 : Nat) (nth r0 0)))), (.int .i64 (D.toInt (D.cell (16 : Nat) (nth r0 0)))), (.int .i64 (D.toInt (D.cell (17 : Nat) (nth r0 0)))), (.int .i64 (D.toInt (D.cell (18 : Nat) (nth r0 0)))), (.int .i64 (D.toInt (D.cell (19 : Nat) (nth r0 0)))), (.int .i64 (D.toInt (D.cell (20 : Nat) (nth r0 0))))]), (.arr true true (.ints .i64 []))])
 (lp k impl_RunActs [] [] 6 k (qv8 (nI (List.length b)) (0 : Int) true [] true [] true [] true [] (0 : Int) (0 : Int) (0 : Int) (0 : Int) (0 : Int) (0 : Int) (0 : Int) (0 : Int) (0 : Int) (0 : Int) (0 : Int) (0 : Int) (0 : Int) (0 : Int) (0 : Int) (0 : Int) (0 : Int) (D.nil (D.cell 1 (nth r0 0))) (D.r3 (D.cell 1 (nth r0 0))) (D.nil (D.cell 2 (nth r0 0))) (D.ints (D.cell 2 (nth r0 0))) (D.nil (D.cell 3 (nth r0 0))) (D.ints (D.cell 3 (nth r0 0))) (D.nil (D.cell 4 (nth r0 0))) (D.ints (D.cell 4 (nth r0 0))) (D.toInt (D.cell 0 (nth r0 0))) (D.toInt (D.cell 5 (nth r0 0))) (D.toInt (D.cell 6 (nth r0 0))) (D.toInt (D.cell 7 (nth r0 0))) (D.toInt (D.cell 8 (nth r0 0))) (D.toInt (D.cell 9 (nth r0 0))) (D.toInt (D.cell 10 (nth r0 0))) (D.toInt (D.cell 11 (nth r0 0))) (D.toInt (D.cell (12 : Nat) (nth r0 0))) (D.toInt (D.cell (13 : Nat) (nth r0 0))) (D.toInt (D.cell (14 : Nat) (nth r0 0))) (D.toInt (D.cell (15 : Nat) (nth r0 0))) (D.toInt (D.cell (16 : Nat) (nth r0 0))) (D.toInt (D.cell (17 : Nat) (nth r0 0))) (D.toInt (D.cell (18 : Nat) (nth r0 0))) (D.toInt (D.cell (19 : Nat) (nth r0 0))) (D.toInt (D.cell (20 : Nat) (nth r0 0))) false [] bz b))) := by kernel_rfl
theorem qoy (k n : Nat) (fu : List (Nat × Nat)) (x0 x1 : Int) (z2 : Bool) (l3 : List (Int × Int × Int)) (z4 : Bool) (l5 : List Int) (z6 : Bool) (l7 : List Int) (z8 : Bool) (l9 : List Int) (x10 x11 x12 x13 x14 x15 x16 x17 x18 x19 x20 x21 x22 x23 x24 x25 x26 : Int) (z27 : Bool) (l28 : List (Int × Int × Int)) (z29 : Bool) (l30 : List Int) (z31 : Bool) (l32 : List Int) (z33 : Bool) (l34 : List Int) (x35 x36 x37 x38 x39 x40 x41 x42 x43 x44 x45 x46 x47 x48 x49 x50 x51 : Int) (z52 : Bool) (l53 : List Int) (z54 : Bool) (l55 : List (Int × Int × Int × Int)) : lp k impl_RunActs [] fu 6 (n + 1) (qv8 x0 x1 z2 l3 z4 l5 z6 l7 z8 l9 x10 x11 x12 x13 x14 x15 x16 x17 x18 x19 x20 x21 x22 x23 x24 x25 x26 z27 l28 z29 l30 z31 l32 z33 l34 x35 x36 x37 x38 x39 x40 x41 x42 x43 x44 x45 x46 x47 x48 x49 x50 x51 z52 l53 z54 l55) =
 cond (decide (x1 < x0))
 (cond (decide ((0 : Int) ≤ x1) && decide (x1 < nI (List.length l55)))
 ((go k impl_DoAct [(.agg [(.int .i64 x35), (.arr false z27 (.r3 l28)), (.arr false z29 (.ints .i64 l30)), (.arr false z31 (.ints .i64 l32)), (.arr false z33 (.ints .i64 l34)), (.int .i64 x36), (.int .i64 x37), (.int .i64 x38), (.int .i64 x39), (.int .i64 x40), (.int .i64 x41), (.int .i64 x42), (.int .i64 x43), (.int .i64 x44), (.int .i64 x45), (.int .i64 x46), (.int .i64 x47), (.int .i64 x48), (.int .i64 x49), (.int .i64 x50), (.int .i64 x51)]), (.agg [(.int .i64 (Prod.fst (List.getD l55 (Int.toNat x1) zz4))), (.int .i64 (Prod.fst (Prod.snd (List.getD l55 (Int.toNat x1) zz4)))), (.int .i64 (Prod.fst (Prod.snd (Prod.snd (List.getD l55 (Int.toNat x1) zz4))))), (.int .i64 (Prod.snd (Prod.snd (Prod.snd (List.getD l55 (Int.toNat x1) zz4)))))])]).bind fun r0 =>
 cond (decide (List.length (l53 ++ [D.toInt (nth r0 1)]) ≤ bigLen))
 (lp k impl_RunActs [] fu 6 n (qv8 x0 (IntKind.wrap .i64 (x1 + (1 : Int))) z2 l3 z4 l5 z6 l7 z8 l9 x10 x11 x12 x13 x14 x15 x16 x17 x18 x19 x20 x21 x22 x23 x24 x25 x26 (D.nil (D.cell 1 (nth r0 0))) (D.r3 (D.cell 1 (nth r0 0))) (D.nil (D.cell 2 (nth r0 0))) (D.ints (D.cell 2 (nth r0 0))) (D.nil (D.cell 3 (nth r0 0))) (D.ints (D.cell 3 (nth r0 0))) (D.nil (D.cell 4 (nth r0 0))) (D.ints (D.cell 4 (nth r0 0))) (D.toInt (D.cell 0 (nth r0 0))) (D.toInt (D.cell 5 (nth r0 0))) (D.toInt (D.cell 6 (nth r0 0))) (D.toInt (D.cell 7 (nth r0 0))) (D.toInt (D.cell 8 (nth r0 0))) (D.toInt (D.cell 9 (nth r0 0))) (D.toInt (D.cell 10 (nth r0 0))) (D.toInt (D.cell 11 (nth r0 0))) (D.toInt (D.cell (12 : Nat) (nth r0 0))) (D.toInt (D.cell (13 : Nat) (nth r0 0))) (D.toInt (D.cell (14 : Nat) (nth r0 0))) (D.toInt (D.cell (15 : Nat) (nth r0 0))) (D.toInt (D.cell (16 : Nat) (nth r0 0))) (D.toInt (D.cell (17 : Nat) (nth r0 0))) (D.toInt (D.cell (18 : Nat) (nth r0 0))) (D.toInt (D.cell (19 : Nat) (nth r0 0))) (D.toInt (D.cell (20 : Nat) (nth r0 0))) (z52 && decide (List.length (l53 ++ [D.toInt (nth r0 1)]) = 0)) (l53 ++ [D.toInt (nth r0 1)]) z54 l55))
 none)
 none)
 (some [(.agg [(.int .i64 x35), (.arr true z27 (.r3 l28)), (.arr true z29 (.ints .i64 l30)), (.arr true z31 (.ints .i64 l32)), (.arr true z33 (.ints .i64 l34)), (.int .i64 x36), (.int .i64 x37), (.int .i64 x38), (.int .i64 x39), (.int .i64 x40), (.int .i64 x41), (.int .i64 x42), (.int .i64 x43), (.int .i64 x44), (.int .i64 x45), (.int .i64 x46), (.int .i64 x47), (.int .i64 x48), (.int .i64 x49), (.int .i64 x50), (.int .i64 x51)]), (.arr true z52 (.ints .i64 l53))]) := by kernel_rfl
end Go.Proofs.YtoldpdhhfmlckaaGreat
end
section
namespace Go.Proofs.YtoldpdhhfmlckaaGreat
open Go.Ev
set_option maxRecDepth 20000
def sgl (c d : Int) : Bool := decide (c = 0) && decide (d = 0)
def qas (a b c d : Int) : Bool := cond (decide (a = 1)) (sgl c d && inR b 1 20) (cond (decide (a = 2)) (sgl c d && inR b 0 10000) (cond (decide (a = 3)) (sgl c d && inR b 0 10000) (cond (decide (a = 4)) (qbf b c d) (cond (decide (a = 5)) (sgl c d && inR b 0 1000) (cond (decide (a = 6)) (inR b 0 1000000 && (inR c 0 1000000 && inR d 0 100)) (cond (decide (a = 7)) (inR b 0 127 && (inR c 1 10000 && inR d 0 1000)) false))))))
set_option maxHeartbeats 2000000 in
theorem qbk (k : Nat) (hk : 2000000 ≤ k) (a0 : Int) (a1 : Int) (a2 : Int) (a3 : Int) : go (k + 3) impl_ActOk [(.agg [(.int .i64 (a0)), (.int .i64 (a1)), (.int .i64 (a2)), (.int .i64 (a3))])] = some [.bool (qas a0 a1 a2 a3)] := by
  rw [qh7]
  unfold qas sgl
  by_cases hc : a2 = 0 <;> by_cases hd : a3 = 0
  all_goals
    by_cases h1 : a0 = 1
    · simp (disch := omega) only [dT, qdy, bit, qa9, nth0, qzt, qhl, dF, qhj, Bool.and_true, Bool.true_and, Bool.and_false, Bool.false_and]
    by_cases h2 : a0 = 2
    · simp (disch := omega) only [dT, dF, bit, qhl, qdd, qa9, nth0, qzt, qhj, Bool.and_true, Bool.true_and, Bool.and_false, Bool.false_and]
    by_cases h3 : a0 = 3
    · simp (disch := omega) only [dT, dF, bit, qhl, qdd, qa9, nth0, qzt, qhj, Bool.and_true, Bool.true_and, Bool.and_false, Bool.false_and]
    by_cases h4 : a0 = 4
    · simp (disch := omega) only [dT, dF, bit, qhl, qbo, qa9, nth0, qzt, qhj, Bool.and_true, Bool.true_and, Bool.and_false, Bool.false_and]
    by_cases h5 : a0 = 5
    · simp (disch := omega) only [dT, dF, bit, qhl, qde, qa9, nth0, qzt, qhj, Bool.and_true, Bool.true_and, Bool.and_false, Bool.false_and]
    by_cases h6 : a0 = 6
    · simp (disch := omega) only [dT, dF, qdy, bit, qa9, nth0, qzt, qhl, qhn, qhj, Bool.and_true, Bool.true_and, Bool.and_false, Bool.false_and]
    by_cases h7 : a0 = 7
    · simp (disch := omega) only [dT, dF, qdy, bit, qa9, nth0, qzt, qhl, qhn, qhj, Bool.and_true, Bool.true_and, Bool.and_false, Bool.false_and]
    simp (disch := omega) only [dT, dF, bit, qhl, qhj, Bool.and_true, Bool.true_and, Bool.and_false, Bool.false_and]
abbrev wdP (w : Wd) : D := .ptr true [.int .i64 w.r, .arr true false (.r3 w.s.1), .arr true false (.ints .i64 w.s.2.1), .arr true false (.ints .i64 w.s.2.2), .arr true false (.ints .i64 w.b), .int .i64 w.p.bi, .int .i64 w.p.bs, .int .i64 w.p.bo, .int .i64 w.p.rain, .int .i64 w.p.loss, .int .i64 w.p.dec, .int .i64 w.p.high, .int .i64 w.p.low, .int .i64 w.p.every, .int .i64 w.k, .int .i64 w.ld.mi, .int .i64 w.ld.mo, .int .i64 w.ld.ti, .int .i64 w.ld.ou, .int .i64 w.f, .int .i64 w.g]
def qh4 (w : Wd) (p m h : Int) : Bool := qh1 w.r w.s.1 w.s.2.1 w.s.2.2 w.b w.p.bi w.p.bs w.p.bo w.p.rain w.p.loss w.p.dec w.p.high w.p.low w.p.every w.k w.ld.mi w.ld.mo w.ld.ti w.ld.ou w.f w.g p m h
def drp1 (w : Wd) (p m h : Int) : Wd := { w with s := (w.s.1, w.s.2.1.set (qqp w.r w.s.1 p).toNat (w.s.2.1.getD (qqp w.r w.s.1 p).toNat 0 + m), w.s.2.2.set (qqp w.r w.s.1 p).toNat (w.s.2.2.getD (qqp w.r w.s.1 p).toNat 0 + m * h)), ld := { w.ld with mi := w.ld.mi + m, ti := w.ld.ti + m * h } }
def drp (w : Wd) (p m h : Int) : Wd := cond (qh4 w p m h) (drp1 w p m h) w
theorem qbw (k : Nat) (hk : 2000000 ≤ k) (w : Wd) (p m h : Int) (S : Sml w) : go (k + 10) impl_Drop [wdR w, .int .i64 p, .int .i64 m, .int .i64 h] = some [wdO (drp w p m h), .bool (qh4 w p m h)] := by
  have e := qbv k hk w.r w.s.1 w.s.2.1 w.s.2.2 w.b w.p.bi w.p.bs w.p.bo w.p.rain w.p.loss w.p.dec w.p.high w.p.low w.p.every w.k w.ld.mi w.ld.mo w.ld.ti w.ld.ou w.f w.g p m h S.h1 S.h2 S.h3 S.h4
  refine e.trans ?_
  unfold drp
  cases g : qh4 w p m h
  · unfold qh4 at g; rw [g]; rfl
  · unfold qh4 at g; rw [g]; rfl
def actW (w : Wd) (a b c d : Int) : Wd × Int :=
  if a = 1 then (adv w b, isum (adv w b).s.2.1) else if a = 2 then ({ w with p := { w.p with rain := b } }, 1) else if a = 3 then ({ w with p := { w.p with loss := b } }, 1) else if a = 4 then ({ w with p := { w.p with bi := b, bs := c, bo := d } }, 1) else
  if a = 5 then ({ w with p := { w.p with dec := b } }, 1) else if a = 6 then ({ w with p := { w.p with high := b, low := c, every := d } }, (w.s.1.length : Int)) else (drp w b c d, cond (qh4 w b c d) 1 0)
def doW (w : Wd) (a b c d : Int) : Wd × Int := cond (wdOk w && qas a b c d) (actW w a b c d) (w, -1)
theorem qa0 {w : Wd} (h : wdOk w = true) (n : Int) : StF (adv w n).r (adv w n).s.1 (adv w n).s.2.1 (adv w n).s.2.2 (adv w n).b := by
  unfold adv
  cases g : qaz w n
  · exact (wdF h).F
  · exact (qaw n.toNat w 0 (wdF h).adv).F
theorem qco (k : Nat) (hk : 2000000 ≤ k) (r : Int) (l : List Cell) (m t b : List Int) (F : StF r l m t b) : go (k + 9) impl_TotalMass [.agg [.int .i64 (r), .arr false (false) (.r3 (l)), .arr false (false) (.ints .i64 (m)), .arr false (false) (.ints .i64 (t)), .arr false (false) (.ints .i64 (b))]] = some [.int .i64 (isum m)] := by
  rw [qj1]
  have := F.len; have := F.ml; have := F.tl; have := F.rr; have := F.bl
  have g := stF.2 F
  have eS := qdu (k + 7) (by omega) false m (by omega) F.mmem
  simp (disch := omega) only [qck, g, bit, eS, qa9, nth0, qzu, qzt, Bool.not_true, qhj]
theorem qat {a b c d : Int} (h : qas a b c d = true) : 1 ≤ a ∧ a ≤ 7 := by
  unfold qas at h
  by_cases h1 : a = 1
  · omega
  by_cases h2 : a = 2
  · omega
  by_cases h3 : a = 3
  · omega
  by_cases h4 : a = 4
  · omega
  by_cases h5 : a = 5
  · omega
  by_cases h6 : a = 6
  · omega
  by_cases h7 : a = 7
  · omega
  rw [dF h1, dF h2, dF h3, dF h4, dF h5, dF h6, dF h7] at h
  cases h
set_option maxHeartbeats 2000000 in
theorem qc4 (k : Nat) (hk : 2000000 ≤ k) (w : Wd) (a b c d : Int) (hw : wdOk w = true) (ha : qas a b c d = true) :
    go (k + 13) impl_World_do [wdP w, .agg [.int .i64 a, .int .i64 b, .int .i64 c, .int .i64 d]] = some [.int .i64 (actW w a b c d).2, wdP (actW w a b c d).1] := by
  rw [qj5]
  have F := (wdF hw).F
  have S := F.sml
  have L := F.len
  have s1 := S.h1
  have kd := qat ha
  unfold actW
  by_cases h1 : a = 1
  · have G := qa0 hw b
    have eA := qbl k (by omega) w b S
    have eT := qco (k + 3) (by omega) _ _ _ _ _ G
    rw [if_pos h1]
    simp (disch := omega) only [dT, eA, qa9, nth0, qgr, qzu, qgs, qt3, quv, qg3, qob, qg5, qg6, eT, qg7, qg8, qg9, qha, qhb, qgt, qgu, qgv, qgw, qgx, qgy, qgz, qg0, qg1, qg2, qg4, dF, nI, bit, qhj, qhl]
  rw [if_neg h1]
  by_cases h2 : a = 2
  · rw [if_pos h2]; simp (disch := omega) only [dF, dT, nI, bit, qhj, qhl]
  rw [if_neg h2]
  by_cases h3 : a = 3
  · rw [if_pos h3]; simp (disch := omega) only [dF, dT, nI, bit, qhj, qhl]
  rw [if_neg h3]
  by_cases h4 : a = 4
  · rw [if_pos h4]; simp (disch := omega) only [dF, dT, nI, bit, qhj, qhl]
  rw [if_neg h4]
  by_cases h5 : a = 5
  · rw [if_pos h5]; simp (disch := omega) only [dF, dT, nI, bit, qhj, qhl]
  rw [if_neg h5]
  by_cases h6 : a = 6
  · rw [if_pos h6]; simp (disch := omega) only [dF, dT, nI, bit, qhj, qhl]
  rw [if_neg h6]
  have h7 : a = 7 := by omega
  have eD := qbw (k + 2) (by omega) w b c d S
  cases g : qh4 w b c d
  · rw [g] at eD; simp (disch := omega) only [dF, nI, dT, eD, bit, qa9, nth1, qzt, Bool.not_false, nth0, qgr, qzu, qgs, qt3, quv, qg3, qob, qg5, qg6, qg7, qg8, qg9, qha, qhb, qgt, qgu, qgv, qgw, qgx, qgy, qgz, qg0, qg1, qg2, qg4, qhl, qhj]
  · rw [g] at eD; simp (disch := omega) only [dF, nI, dT, eD, bit, qa9, nth1, qzt, Bool.not_true, nth0, qgr, qzu, qgs, qt3, quv, qg3, qob, qg5, qg6, qg7, qg8, qg9, qha, qhb, qgt, qgu, qgv, qgw, qgx, qgy, qgz, qg0, qg1, qg2, qg4, qhj, qhl]
set_option maxHeartbeats 2000000 in
theorem qbu (k : Nat) (hk : 2000000 ≤ k) (w : Wd) (a b c d : Int) (S : Sml w) :
    go (k + 14) impl_DoAct [wdR w, .agg [.int .i64 a, .int .i64 b, .int .i64 c, .int .i64 d]] = some [wdO (doW w a b c d).1, .int .i64 (doW w a b c d).2] := by
  rw [qig]
  have eC := qc2 (k + 9) (by omega) w S
  have eO := qcs (k + 4) (by omega) w S
  unfold doW
  cases g : wdOk w
  · rw [g] at eO
    simp (disch := omega) only [eC, eO, bit, qa9, nth0, qzt, Bool.not_false, qhl, qgr, qzu, qgs, qt3, quv, qg3, qob, qg5, qg6, qg7, qg8, qg9, qha, qhb, qgt, qgu, qgv, qgw, qgx, qgy, qgz, qg0, qg1, qg2, qg4, Bool.false_and, qhj]
  rw [g] at eO
  cases g2 : qas a b c d
  · simp (disch := omega) only [eC, eO, bit, qbk, g2, qa9, nth0, qzt, Bool.not_false, qhl, Bool.not_true, qhj, qgr, qzu, qgs, qt3, quv, qg3, qob, qg5, qg6, qg7, qg8, qg9, qha, qhb, qgt, qgu, qgv, qgw, qgx, qgy, qgz, qg0, qg1, qg2, qg4, Bool.and_false]
  have eD := qc4 k (by omega) w a b c d g g2
  simp (disch := omega) only [eC, eO, bit, qbk, g2, qa9, nth0, qzt, Bool.not_true, qhj, qgr, qzu, qgs, qt3, quv, qg3, qob, qg5, qg6, qg7, qg8, qg9, qha, qhb, qgt, qgu, qgv, qgw, qgx, qgy, qgz, qg0, qg1, qg2, qg4, eD, nth1, Bool.and_true, qhl]
  rfl
end Go.Proofs.YtoldpdhhfmlckaaGreat
end
section
namespace Go.Proofs.YtoldpdhhfmlckaaGreat
open Go.Ev
set_option maxRecDepth 20000
abbrev Acts := List (Int × Int × Int × Int)
def runN (acts : Acts) : Nat → Wd → Wd × List Int
  | 0, w => (w, [])
  | n + 1, w => ((doW (runN acts n w).1 (acts.getD n zz4).1 (acts.getD n zz4).2.1 (acts.getD n zz4).2.2.1 (acts.getD n zz4).2.2.2).1, (runN acts n w).2 ++ [(doW (runN acts n w).1 (acts.getD n zz4).1 (acts.getD n zz4).2.1 (acts.getD n zz4).2.2.1 (acts.getD n zz4).2.2.2).2])
theorem qvu (acts : Acts) : ∀ (n : Nat) (w : Wd), (runN acts n w).2.length = n
  | 0, w => rfl
  | n + 1, w => by simp [runN, qvu acts n w]
theorem qh6 {w : Wd} (S : Sml w) (p m h : Int) : Sml (drp w p m h) := by
  unfold drp
  cases qh4 w p m h
  · exact S
  · exact ⟨S.h1, by show ((List.set _ _ _).length : Int) ≤ _; rw [List.length_set]; exact S.h2, by show ((List.set _ _ _).length : Int) ≤ _; rw [List.length_set]; exact S.h3, S.h4⟩
theorem qa2 {w : Wd} (h : Sml w) (n : Int) : Sml (adv w n) := by
  unfold adv
  cases g : qaz w n
  · exact h
  · simp only [qaz, Bool.and_eq_true] at g
    exact ((qaw n.toNat w 0 (wdF g.1).adv).F).sml
theorem qh0 {w : Wd} (S : Sml w) (a b c d : Int) : Sml (doW w a b c d).1 := by
  unfold doW
  cases wdOk w && qas a b c d
  · exact S
  · simp only [qhl]
    unfold actW
    by_cases h1 : a = 1
    · rw [if_pos h1]; exact qa2 S b
    rw [if_neg h1]
    by_cases h2 : a = 2
    · rw [if_pos h2]; exact ⟨S.h1, S.h2, S.h3, S.h4⟩
    rw [if_neg h2]
    by_cases h3 : a = 3
    · rw [if_pos h3]; exact ⟨S.h1, S.h2, S.h3, S.h4⟩
    rw [if_neg h3]
    by_cases h4 : a = 4
    · rw [if_pos h4]; exact ⟨S.h1, S.h2, S.h3, S.h4⟩
    rw [if_neg h4]
    by_cases h5 : a = 5
    · rw [if_pos h5]; exact ⟨S.h1, S.h2, S.h3, S.h4⟩
    rw [if_neg h5]
    by_cases h6 : a = 6
    · rw [if_pos h6]; exact ⟨S.h1, S.h2, S.h3, S.h4⟩
    rw [if_neg h6]
    exact qh6 S b c d
theorem qvw (acts : Acts) {w : Wd} (S : Sml w) : ∀ n, Sml (runN acts n w).1
  | 0 => S
  | n + 1 => qh0 (qvw acts S n) _ _ _ _
set_option maxHeartbeats 2000000 in
theorem qrk (k : Nat) (hk : 2000000 ≤ k) (fu : List (Nat × Nat)) (acts : Acts) (hl : acts.length ≤ 30) (zz : Bool) (w0 : Wd) (S : Sml w0) (z2 : Bool) (l3 : List Cell) (z4 : Bool) (l5 : List Int) (z6 : Bool) (l7 : List Int) (z8 : Bool) (l9 : List Int) (x10 x11 x12 x13 x14 x15 x16 x17 x18 x19 x20 x21 x22 x23 x24 x25 x26 : Int) : ∀ (N i : Nat) (w : Wd) (L : List Int), w = (runN acts i w0).1 → L = (runN acts i w0).2 → i ≤ acts.length → acts.length - i < N →
    lp (k + 14) impl_RunActs [] fu 6 (N) (qv8 (acts.length : Int) (i : Int) z2 l3 z4 l5 z6 l7 z8 l9 x10 x11 x12 x13 x14 x15 x16 x17 x18 x19 x20 x21 x22 x23 x24 x25 x26 false w.s.1 false w.s.2.1 false w.s.2.2 false w.b w.r w.p.bi w.p.bs w.p.bo w.p.rain w.p.loss w.p.dec w.p.high w.p.low w.p.every w.k w.ld.mi w.ld.mo w.ld.ti w.ld.ou w.f w.g false L zz acts) = some [wdO (runN acts acts.length w0).1, .arr true false (.ints .i64 (runN acts acts.length w0).2)]
  | 0, i, w, L, ew, eL, hi, hN => by omega
  | N + 1, i, w, L, ew, eL, hi, hN => by
    rw [qoy]
    by_cases g : i < acts.length
    · have T := qvw acts S i
      rw [← ew] at T
      have e1 : (runN acts (i + 1) w0).1 = (doW w (acts.getD i zz4).1 (acts.getD i zz4).2.1 (acts.getD i zz4).2.2.1 (acts.getD i zz4).2.2.2).1 := by rw [runN, ← ew]
      have e2 : (runN acts (i + 1) w0).2 = L ++ [(doW w (acts.getD i zz4).1 (acts.getD i zz4).2.1 (acts.getD i zz4).2.2.1 (acts.getD i zz4).2.2.2).2] := by rw [runN, ← ew, ← eL]
      have IH := qrk k hk fu acts hl zz w0 S z2 l3 z4 l5 z6 l7 z8 l9 x10 x11 x12 x13 x14 x15 x16 x17 x18 x19 x20 x21 x22 x23 x24 x25 x26 N (i + 1) _ _ e1.symm e2.symm (by omega) (by omega)
      have eD := qbu k (by omega) w (acts.getD i zz4).1 (acts.getD i zz4).2.1 (acts.getD i zz4).2.2.1 (acts.getD i zz4).2.2.2 T
      have ll := qvu acts (i + 1) w0
      rw [e2] at ll
      generalize doW w (acts.getD i zz4).1 (acts.getD i zz4).2.1 (acts.getD i zz4).2.2.1 (acts.getD i zz4).2.2.2 = X at *
      simp (disch := omega) only [dT, nI, Bool.and_true, Int.toNat_natCast, eD, big0, qgp, q0l, Bool.false_and, qa9, nth1, qzu, ll, nth0, qgs, qt3, quv, qg3, qob, qg5, qg6, qgr, qg7, qg8, qg9, qha, qhb, qgt, qgu, qgv, qgw, qgx, qgy, qgz, qg0, qg1, qg2, qg4, IH, qhl]
    · have : i = acts.length := by omega
      subst this
      subst ew; subst eL
      simp (disch := omega) only [dF, dT, nI, Bool.and_false, Int.toNat_natCast, big0, qgp, q0l, Bool.false_and, qhj]
def qvy (w : Wd) (acts : Acts) : Bool := wdOk w && decide ((acts.length : Int) ≤ 30)
def runW (w : Wd) (acts : Acts) : Wd × List Int := cond (qvy w acts) (runN acts acts.length w) (w, [])
theorem qcc (k : Nat) (hk : 2000000 ≤ k) (w : Wd) (z : Bool) (acts : Acts) (S : Sml w) (hl : (acts.length : Int) ≤ 1048576) : go (k + 15) impl_RunActs [wdR w, .arr false z (.r4 acts)] = some [wdO (runW w acts).1, .arr true (!(qvy w acts)) (.ints .i64 (runW w acts).2)] := by
  rw [qi7]
  have eC := qc2 (k + 10) (by omega) w S
  have eO := qcs (k + 5) (by omega) w S
  unfold runW qvy
  cases g : wdOk w
  · rw [g] at eO
    simp (disch := omega) only [eC, eO, bit, nI, qa9, nth0, qzt, Bool.not_false, qhl, qgr, qzu, qgs, qt3, quv, qg3, qob, qg5, qg6, qg7, qg8, qg9, qha, qhb, qgt, qgu, qgv, qgw, qgx, qgy, qgz, qg0, qg1, qg2, qg4, Bool.false_and, qhj]
  rw [g] at eO
  by_cases g2 : (acts.length : Int) ≤ 30
  case neg => simp (disch := omega) only [eC, eO, bit, nI, dT, qhl, qa9, nth0, qzt, Bool.not_true, qhj, qgr, qzu, qgs, qt3, quv, qg3, qob, qg5, qg6, qg7, qg8, qg9, qha, qhb, qgt, qgu, qgv, qgw, qgx, qgy, qgz, qg0, qg1, qg2, qg4, dF, Bool.and_false, Bool.not_false]
  have e := qrk k hk [] acts (by omega) z w S true [] true [] true [] true [] 0 0 0 0 0 0 0 0 0 0 0 0 0 0 0 0 0 (k + 14) 0 w [] rfl rfl (by omega) (by omega)
  rw [show ((0 : Nat) : Int) = 0 from rfl] at e
  simp (disch := omega) only [eC, eO, bit, nI, dF, qhj, qa9, nth0, qzt, Bool.not_true, qgs, qt3, quv, qg3, qob, qg5, qg6, qgr, qzu, qg7, qg8, qg9, qha, qhb, qgt, qgu, qgv, qgw, qgx, qgy, qgz, qg0, qg1, qg2, qg4, dT, Bool.and_true, qhl]
  exact e
end Go.Proofs.YtoldpdhhfmlckaaGreat
end
section
namespace Go.Proofs.YtoldpdhhfmlckaaGreat
open Go.Ev
theorem qm9 (k : Nat) (v0 : Bool) (v1 : List Int) (v2 v3 : Int) : go (k + 1) spec_l37Act [(.ptr true [(.arr false v0 (.ints IntKind.u8 v1)), (.int .i64 v2), (.int .i64 v3)])] =
 (go k spec_l01Below [(.ptr true [(.arr false v0 (.ints IntKind.u8 v1)), (.int .i64 v2), (.int .i64 v3)]), (.int .i64 ((8 : Int)))]).bind fun r0 =>
 cond (decide (D.toInt (nth r0 0) = (0 : Int)))
 ((go k spec_l01Below [(.ptr true [(.arr false v0 (.ints IntKind.u8 v1)), (.int .i64 (D.toInt (D.cell 1 (nth r0 1)))), (.int .i64 (D.toInt (D.cell 2 (nth r0 1))))]), (.int .i64 ((900 : Int)))]).bind fun r1 =>
 some [(.agg [(.int .i64 ((2 : Int))), (.int .i64 (D.toInt (nth r1 0))), (.int .i64 (0 : Int)), (.int .i64 (0 : Int))]), (.ptr true [(.arr false v0 (.ints IntKind.u8 v1)), (.int .i64 (D.toInt (D.cell 1 (nth r1 1)))), (.int .i64 (D.toInt (D.cell 2 (nth r1 1))))])])
 (cond (decide (D.toInt (nth r0 0) = (1 : Int)))
 ((go k spec_l01Below [(.ptr true [(.arr false v0 (.ints IntKind.u8 v1)), (.int .i64 (D.toInt (D.cell 1 (nth r0 1)))), (.int .i64 (D.toInt (D.cell 2 (nth r0 1))))]), (.int .i64 ((900 : Int)))]).bind fun r2 =>
 some [(.agg [(.int .i64 ((3 : Int))), (.int .i64 (D.toInt (nth r2 0))), (.int .i64 (0 : Int)), (.int .i64 (0 : Int))]), (.ptr true [(.arr false v0 (.ints IntKind.u8 v1)), (.int .i64 (D.toInt (D.cell 1 (nth r2 1)))), (.int .i64 (D.toInt (D.cell 2 (nth r2 1))))])])
 (cond (decide (D.toInt (nth r0 0) = (2 : Int)))
 ((go k spec_l01Below [(.ptr true [(.arr false v0 (.ints IntKind.u8 v1)), (.int .i64 (D.toInt (D.cell 1 (nth r0 1)))), (.int .i64 (D.toInt (D.cell 2 (nth r0 1))))]), (.int .i64 ((3000 : Int)))]).bind fun r3 =>
 (go k spec_l01Below [(.ptr true [(.arr false v0 (.ints IntKind.u8 v1)), (.int .i64 (D.toInt (D.cell 1 (nth r3 1)))), (.int .i64 (D.toInt (D.cell 2 (nth r3 1))))]), (.int .i64 ((1001 : Int)))]).bind fun r4 =>
 (go k spec_l01Below [(.ptr true [(.arr false v0 (.ints IntKind.u8 v1)), (.int .i64 (D.toInt (D.cell 1 (nth r4 1)))), (.int .i64 (D.toInt (D.cell 2 (nth r4 1))))]), (.int .i64 ((251 : Int)))]).bind fun r5 =>
 some [(.agg [(.int .i64 ((4 : Int))), (.int .i64 (D.toInt (nth r3 0))), (.int .i64 (D.toInt (nth r4 0))), (.int .i64 (D.toInt (nth r5 0)))]), (.ptr true [(.arr false v0 (.ints IntKind.u8 v1)), (.int .i64 (D.toInt (D.cell 1 (nth r5 1)))), (.int .i64 (D.toInt (D.cell 2 (nth r5 1))))])])
 (cond (decide (D.toInt (nth r0 0) = (3 : Int)))
 ((go k spec_l01Below [(.ptr true [(.arr false v0 (.ints IntKind.u8 v1)), (.int .i64 (D.toInt (D.cell 1 (nth r0 1)))), (.int .i64 (D.toInt (D.cell 2 (nth r0 1))))]), (.int .i64 ((300 : Int)))]).bind fun r6 =>
 some [(.agg [(.int .i64 ((5 : Int))), (.int .i64 (D.toInt (nth r6 0))), (.int .i64 (0 : Int)), (.int .i64 (0 : Int))]), (.ptr true [(.arr false v0 (.ints IntKind.u8 v1)), (.int .i64 (D.toInt (D.cell 1 (nth r6 1)))), (.int .i64 (D.toInt (D.cell 2 (nth r6 1))))])])
 (cond (decide (D.toInt (nth r0 0) = (4 : Int)))
 ((go k spec_l01Below [(.ptr true [(.arr false v0 (.ints IntKind.u8 v1)), (.int .i64 (D.toInt (D.cell 1 (nth r0 1)))), (.int .i64 (D.toInt (D.cell 2 (nth r0 1))))]), (.int .i64 ((3000 : Int)))]).bind fun r7 =>
 (go k spec_l01Below [(.ptr true [(.arr false v0 (.ints IntKind.u8 v1)), (.int .i64 (D.toInt (D.cell 1 (nth r7 1)))), (.int .i64 (D.toInt (D.cell 2 (nth r7 1))))]), (.int .i64 ((400 : Int)))]).bind fun r8 =>
 (go k spec_l01Below [(.ptr true [(.arr false v0 (.ints IntKind.u8 v1)), (.int .i64 (D.toInt (D.cell 1 (nth r8 1)))), (.int .i64 (D.toInt (D.cell 2 (nth r8 1))))]), (.int .i64 ((3 : Int)))]).bind fun r9 =>
 some [(.agg [(.int .i64 ((6 : Int))), (.int .i64 (IntKind.wrap .i64 ((100 : Int) + D.toInt (nth r7 0)))), (.int .i64 (D.toInt (nth r8 0))), (.int .i64 (D.toInt (nth r9 0)))]), (.ptr true [(.arr false v0 (.ints IntKind.u8 v1)), (.int .i64 (D.toInt (D.cell 1 (nth r9 1)))), (.int .i64 (D.toInt (D.cell 2 (nth r9 1))))])])
 (cond (decide (D.toInt (nth r0 0) = (5 : Int)))
 ((go k spec_l01Below [(.ptr true [(.arr false v0 (.ints IntKind.u8 v1)), (.int .i64 (D.toInt (D.cell 1 (nth r0 1)))), (.int .i64 (D.toInt (D.cell 2 (nth r0 1))))]), (.int .i64 ((40 : Int)))]).bind fun r10 =>
 (go k spec_l01Below [(.ptr true [(.arr false v0 (.ints IntKind.u8 v1)), (.int .i64 (D.toInt (D.cell 1 (nth r10 1)))), (.int .i64 (D.toInt (D.cell 2 (nth r10 1))))]), (.int .i64 ((5000 : Int)))]).bind fun r11 =>
 (go k spec_l01Below [(.ptr true [(.arr false v0 (.ints IntKind.u8 v1)), (.int .i64 (D.toInt (D.cell 1 (nth r11 1)))), (.int .i64 (D.toInt (D.cell 2 (nth r11 1))))]), (.int .i64 ((1001 : Int)))]).bind fun r12 =>
 some [(.agg [(.int .i64 ((7 : Int))), (.int .i64 (D.toInt (nth r10 0))), (.int .i64 (IntKind.wrap .i64 ((1 : Int) + D.toInt (nth r11 0)))), (.int .i64 (D.toInt (nth r12 0)))]), (.ptr true [(.arr false v0 (.ints IntKind.u8 v1)), (.int .i64 (D.toInt (D.cell 1 (nth r12 1)))), (.int .i64 (D.toInt (D.cell 2 (nth r12 1))))])])
 ((go k spec_l01Below [(.ptr true [(.arr false v0 (.ints IntKind.u8 v1)), (.int .i64 (D.toInt (D.cell 1 (nth r0 1)))), (.int .i64 (D.toInt (D.cell 2 (nth r0 1))))]), (.int .i64 ((3 : Int)))]).bind fun r13 =>
 some [(.agg [(.int .i64 ((1 : Int))), (.int .i64 (IntKind.wrap .i64 ((1 : Int) + D.toInt (nth r13 0)))), (.int .i64 (0 : Int)), (.int .i64 (0 : Int))]), (.ptr true [(.arr false v0 (.ints IntKind.u8 v1)), (.int .i64 (D.toInt (D.cell 1 (nth r13 1)))), (.int .i64 (D.toInt (D.cell 2 (nth r13 1))))])])))))) := by kernel_rfl
def qxy (x0 : Int) (z1 : Bool) (l2 : List Int) (x3 x4 : Int) (z5 : Bool) (l6 : List (Int × Int × Int × Int)) : St := ⟨fill 18 [(0, (.ptr 1 0 0)), (3, (.sl 2 none)), (4, (.int .i64 x0))], [(.ptr 1 0 0), (.sl 0 none)], [(.arr false z1 (.ints IntKind.u8 l2)), (.box true [(.sl 0 none), (.int .i64 x3), (.int .i64 x4)]), (.arr true z5 (.r4 l6))]⟩
theorem qna (k : Nat) (v0 : Bool) (v1 : List Int) (v2 v3 : Int) : go (k + 1) spec_l37Acts [(.ptr true [(.arr false v0 (.ints IntKind.u8 v1)), (.int .i64 v2), (.int .i64 v3)])] =
 lp k spec_l37Acts [(.ptr true [(.arr false v0 (.ints IntKind.u8 v1)), (.int .i64 v2), (.int .i64 v3)])] [] 3 k (qxy (0 : Int) v0 v1 v2 v3 false []) := by kernel_rfl
theorem qqo (k n : Nat) (fu : List (Nat × Nat)) (v0 : Bool) (v1 : List Int) (v2 v3 x0 : Int) (z1 : Bool) (l2 : List Int) (x3 x4 : Int) (z5 : Bool) (l6 : List (Int × Int × Int × Int)) : lp k spec_l37Acts [(.ptr true [(.arr false v0 (.ints IntKind.u8 v1)), (.int .i64 v2), (.int .i64 v3)])] fu 3 (n + 1) (qxy x0 z1 l2 x3 x4 z5 l6) =
 (go k spec_l01Below [(.ptr true [(.arr false z1 (.ints IntKind.u8 l2)), (.int .i64 x3), (.int .i64 x4)]), (.int .i64 ((7 : Int)))]).bind fun r0 =>
 cond (decide (x0 < D.toInt (nth r0 0)))
 ((go k spec_l37Act [(.ptr true [(.arr false z1 (.ints IntKind.u8 l2)), (.int .i64 (D.toInt (D.cell 1 (nth r0 1)))), (.int .i64 (D.toInt (D.cell 2 (nth r0 1))))])]).bind fun r1 =>
 cond (decide (List.length (l6 ++ [(D.toInt (D.cell 0 (nth r1 0)), D.toInt (D.cell 1 (nth r1 0)), D.toInt (D.cell 2 (nth r1 0)), D.toInt (D.cell 3 (nth r1 0)))]) ≤ bigLen))
 (lp k spec_l37Acts [(.ptr true [(.arr false v0 (.ints IntKind.u8 v1)), (.int .i64 v2), (.int .i64 v3)])] fu 3 n (qxy (IntKind.wrap .i64 (x0 + (1 : Int))) z1 l2 (D.toInt (D.cell 1 (nth r1 1))) (D.toInt (D.cell 2 (nth r1 1))) (z5 && decide (List.length (l6 ++ [(D.toInt (D.cell 0 (nth r1 0)), D.toInt (D.cell 1 (nth r1 0)), D.toInt (D.cell 2 (nth r1 0)), D.toInt (D.cell 3 (nth r1 0)))]) = 0)) (l6 ++ [(D.toInt (D.cell 0 (nth r1 0)), D.toInt (D.cell 1 (nth r1 0)), D.toInt (D.cell 2 (nth r1 0)), D.toInt (D.cell 3 (nth r1 0)))])))
 none)
 (some [(.arr true z5 (.r4 l6)), (.ptr true [(.arr false z1 (.ints IntKind.u8 l2)), (.int .i64 (D.toInt (D.cell 1 (nth r0 1)))), (.int .i64 (D.toInt (D.cell 2 (nth r0 1))))])]) := by kernel_rfl
def qw1 (x0 x1 : Int) (z2 : Bool) (l3 : List Int) (z4 : Bool) (l5 : List (Int × Int × Int)) (z6 : Bool) (l7 : List Int) (z8 : Bool) (l9 : List Int) (z10 : Bool) (l11 : List Int) (x12 x13 x14 x15 x16 x17 x18 x19 x20 x21 x22 x23 x24 x25 x26 x27 x28 : Int) (z29 : Bool) (l30 : List (Int × Int × Int × Int)) : St := ⟨fill 32 [(0, (.sl 0 none)), (3, (.int .i64 x0)), (4, (.int .i64 x1))], [(.sl 0 none), .un, (.ptr 5 0 0), (.sl 6 none), .un, .un, .un, (.sl 0 none), .un, .un, .un, .un, .un, .un, .un, .un, .un, .un, .un, .un], [(.arr false z2 (.ints IntKind.u8 l3)), (.arr true z4 (.r3 l5)), (.arr true z6 (.ints .i64 l7)), (.arr true z8 (.ints .i64 l9)), (.arr true z10 (.ints .i64 l11)), (.box true [(.int .i64 x12), (.sl 1 none), (.sl 2 none), (.sl 3 none), (.sl 4 none), (.int .i64 x13), (.int .i64 x14), (.int .i64 x15), (.int .i64 x16), (.int .i64 x17), (.int .i64 x18), (.int .i64 x19), (.int .i64 x20), (.int .i64 x21), (.int .i64 x22), (.int .i64 x23), (.int .i64 x24), (.int .i64 x25), (.int .i64 x26), (.int .i64 x27), (.int .i64 x28)]), (.arr true z29 (.r4 l30))]⟩
theorem qk8 (k : Nat) (az : Bool) (a : List Int) : go (k + 1) spec_DrawActs [(.arr false az (.ints IntKind.u8 a))] =
 lp k spec_DrawActs [] [] 7800003 k (qw1 (IntKind.wrap .i64 ((98231 : Int) + nI (List.length a))) (0 : Int) az a true [] true [] true [] true [] (0 : Int) (0 : Int) (0 : Int) (0 : Int) (0 : Int) (0 : Int) (0 : Int) (0 : Int) (0 : Int) (0 : Int) (0 : Int) (0 : Int) (0 : Int) (0 : Int) (0 : Int) (0 : Int) (0 : Int) true []) := by kernel_rfl
theorem qpr (k n : Nat) (fu : List (Nat × Nat)) (x0 x1 : Int) (z2 : Bool) (l3 : List Int) (z4 : Bool) (l5 : List (Int × Int × Int)) (z6 : Bool) (l7 : List Int) (z8 : Bool) (l9 : List Int) (z10 : Bool) (l11 : List Int) (x12 x13 x14 x15 x16 x17 x18 x19 x20 x21 x22 x23 x24 x25 x26 x27 x28 : Int) (z29 : Bool) (l30 : List (Int × Int × Int × Int)) : lp k spec_DrawActs [] fu 7800003 (n + 1) (qw1 x0 x1 z2 l3 z4 l5 z6 l7 z8 l9 z10 l11 x12 x13 x14 x15 x16 x17 x18 x19 x20 x21 x22 x23 x24 x25 x26 x27 x28 z29 l30) =
 cond (decide (x1 < nI (List.length l3)))
 (cond (decide (x1 < (4000 : Int)))
 (cond (decide ((0 : Int) ≤ x1) && decide (x1 < nI (List.length l3)))
 (lp k spec_DrawActs [] fu 7800003 n (qw1 (bitN BinOp.and .i64 (IntKind.wrap .i64 (IntKind.wrap .i64 (IntKind.wrap .i64 (x0 * (131 : Int)) + IntKind.wrap .i64 (List.getD l3 (Int.toNat x1) (0 : Int))) + (7 : Int))) (1073741823 : Int)) (IntKind.wrap .i64 (x1 + (1 : Int))) z2 l3 z4 l5 z6 l7 z8 l9 z10 l11 x12 x13 x14 x15 x16 x17 x18 x19 x20 x21 x22 x23 x24 x25 x26 x27 x28 z29 l30))
 none)
 ((go k spec_l07State [(.ptr true [(.arr false z2 (.ints IntKind.u8 l3)), (.int .i64 (0 : Int)), (.int .i64 x0)])]).bind fun r0 =>
 (go k spec_l18Plan [(.ptr true [(.arr false z2 (.ints IntKind.u8 l3)), (.int .i64 (D.toInt (D.cell 1 (nth r0 1)))), (.int .i64 (D.toInt (D.cell 2 (nth r0 1))))])]).bind fun r1 =>
 (go k spec_WorldNew [(.agg [(.int .i64 (D.toInt (D.cell 0 (nth r0 0)))), (.arr false (D.nil (D.cell 1 (nth r0 0))) (.r3 (D.r3 (D.cell 1 (nth r0 0))))), (.arr false (D.nil (D.cell 2 (nth r0 0))) (.ints .i64 (D.ints (D.cell 2 (nth r0 0))))), (.arr false (D.nil (D.cell 3 (nth r0 0))) (.ints .i64 (D.ints (D.cell 3 (nth r0 0))))), (.arr false (D.nil (D.cell 4 (nth r0 0))) (.ints .i64 (D.ints (D.cell 4 (nth r0 0)))))]), (.agg [(.int .i64 (D.toInt (D.cell 0 (nth r1 0)))), (.int .i64 (D.toInt (D.cell 1 (nth r1 0)))), (.int .i64 (D.toInt (D.cell 2 (nth r1 0)))), (.int .i64 (D.toInt (D.cell 3 (nth r1 0)))), (.int .i64 (D.toInt (D.cell 4 (nth r1 0)))), (.int .i64 (D.toInt (D.cell 5 (nth r1 0)))), (.int .i64 (D.toInt (D.cell 6 (nth r1 0)))), (.int .i64 (D.toInt (D.cell 7 (nth r1 0)))), (.int .i64 (D.toInt (D.cell 8 (nth r1 0))))])]).bind fun r2 =>
 (go k spec_l37Acts [(.ptr true [(.arr false z2 (.ints IntKind.u8 l3)), (.int .i64 (D.toInt (D.cell 1 (nth r1 1)))), (.int .i64 (D.toInt (D.cell 2 (nth r1 1))))])]).bind fun r3 =>
 some [(.agg [(.int .i64 (D.toInt (D.cell 0 (nth r2 0)))), (.arr true (D.nil (D.cell 1 (nth r2 0))) (.r3 (D.r3 (D.cell 1 (nth r2 0))))), (.arr true (D.nil (D.cell 2 (nth r2 0))) (.ints .i64 (D.ints (D.cell 2 (nth r2 0))))), (.arr true (D.nil (D.cell 3 (nth r2 0))) (.ints .i64 (D.ints (D.cell 3 (nth r2 0))))), (.arr true (D.nil (D.cell 4 (nth r2 0))) (.ints .i64 (D.ints (D.cell 4 (nth r2 0))))), (.int .i64 (D.toInt (D.cell 5 (nth r2 0)))), (.int .i64 (D.toInt (D.cell 6 (nth r2 0)))), (.int .i64 (D.toInt (D.cell 7 (nth r2 0)))), (.int .i64 (D.toInt (D.cell 8 (nth r2 0)))), (.int .i64 (D.toInt (D.cell 9 (nth r2 0)))), (.int .i64 (D.toInt (D.cell 10 (nth r2 0)))), (.int .i64 (D.toInt (D.cell 11 (nth r2 0)))), (.int .i64 (D.toInt (D.cell (12 : Nat) (nth r2 0)))), (.int .i64 (D.toInt (D.cell (13 : Nat) (nth r2 0)))), (.int .i64 (D.toInt (D.cell (14 : Nat) (nth r2 0)))), (.int .i64 (D.toInt (D.cell (15 : Nat) (nth r2 0)))), (.int .i64 (D.toInt (D.cell (16 : Nat) (nth r2 0)))), (.int .i64 (D.toInt (D.cell (17 : Nat) (nth r2 0)))), (.int .i64 (D.toInt (D.cell (18 : Nat) (nth r2 0)))), (.int .i64 (D.toInt (D.cell (19 : Nat) (nth r2 0)))), (.int .i64 (D.toInt (D.cell (20 : Nat) (nth r2 0))))]), (.arr true (D.nil (nth r3 0)) (.r4 (D.r4 (nth r3 0))))]))
 ((go k spec_l07State [(.ptr true [(.arr false z2 (.ints IntKind.u8 l3)), (.int .i64 (0 : Int)), (.int .i64 x0)])]).bind fun r4 =>
 (go k spec_l18Plan [(.ptr true [(.arr false z2 (.ints IntKind.u8 l3)), (.int .i64 (D.toInt (D.cell 1 (nth r4 1)))), (.int .i64 (D.toInt (D.cell 2 (nth r4 1))))])]).bind fun r5 =>
 (go k spec_WorldNew [(.agg [(.int .i64 (D.toInt (D.cell 0 (nth r4 0)))), (.arr false (D.nil (D.cell 1 (nth r4 0))) (.r3 (D.r3 (D.cell 1 (nth r4 0))))), (.arr false (D.nil (D.cell 2 (nth r4 0))) (.ints .i64 (D.ints (D.cell 2 (nth r4 0))))), (.arr false (D.nil (D.cell 3 (nth r4 0))) (.ints .i64 (D.ints (D.cell 3 (nth r4 0))))), (.arr false (D.nil (D.cell 4 (nth r4 0))) (.ints .i64 (D.ints (D.cell 4 (nth r4 0)))))]), (.agg [(.int .i64 (D.toInt (D.cell 0 (nth r5 0)))), (.int .i64 (D.toInt (D.cell 1 (nth r5 0)))), (.int .i64 (D.toInt (D.cell 2 (nth r5 0)))), (.int .i64 (D.toInt (D.cell 3 (nth r5 0)))), (.int .i64 (D.toInt (D.cell 4 (nth r5 0)))), (.int .i64 (D.toInt (D.cell 5 (nth r5 0)))), (.int .i64 (D.toInt (D.cell 6 (nth r5 0)))), (.int .i64 (D.toInt (D.cell 7 (nth r5 0)))), (.int .i64 (D.toInt (D.cell 8 (nth r5 0))))])]).bind fun r6 =>
 (go k spec_l37Acts [(.ptr true [(.arr false z2 (.ints IntKind.u8 l3)), (.int .i64 (D.toInt (D.cell 1 (nth r5 1)))), (.int .i64 (D.toInt (D.cell 2 (nth r5 1))))])]).bind fun r7 =>
 some [(.agg [(.int .i64 (D.toInt (D.cell 0 (nth r6 0)))), (.arr true (D.nil (D.cell 1 (nth r6 0))) (.r3 (D.r3 (D.cell 1 (nth r6 0))))), (.arr true (D.nil (D.cell 2 (nth r6 0))) (.ints .i64 (D.ints (D.cell 2 (nth r6 0))))), (.arr true (D.nil (D.cell 3 (nth r6 0))) (.ints .i64 (D.ints (D.cell 3 (nth r6 0))))), (.arr true (D.nil (D.cell 4 (nth r6 0))) (.ints .i64 (D.ints (D.cell 4 (nth r6 0))))), (.int .i64 (D.toInt (D.cell 5 (nth r6 0)))), (.int .i64 (D.toInt (D.cell 6 (nth r6 0)))), (.int .i64 (D.toInt (D.cell 7 (nth r6 0)))), (.int .i64 (D.toInt (D.cell 8 (nth r6 0)))), (.int .i64 (D.toInt (D.cell 9 (nth r6 0)))), (.int .i64 (D.toInt (D.cell 10 (nth r6 0)))), (.int .i64 (D.toInt (D.cell 11 (nth r6 0)))), (.int .i64 (D.toInt (D.cell (12 : Nat) (nth r6 0)))), (.int .i64 (D.toInt (D.cell (13 : Nat) (nth r6 0)))), (.int .i64 (D.toInt (D.cell (14 : Nat) (nth r6 0)))), (.int .i64 (D.toInt (D.cell (15 : Nat) (nth r6 0)))), (.int .i64 (D.toInt (D.cell (16 : Nat) (nth r6 0)))), (.int .i64 (D.toInt (D.cell (17 : Nat) (nth r6 0)))), (.int .i64 (D.toInt (D.cell (18 : Nat) (nth r6 0)))), (.int .i64 (D.toInt (D.cell (19 : Nat) (nth r6 0)))), (.int .i64 (D.toInt (D.cell (20 : Nat) (nth r6 0))))]), (.arr true (D.nil (nth r7 0)) (.r4 (D.r4 (nth r7 0))))]) := by kernel_rfl

end Go.Proofs.YtoldpdhhfmlckaaGreat
end
section
namespace Go.Proofs.YtoldpdhhfmlckaaGreat
open Go.Ev
set_option maxRecDepth 20000
theorem Good.next {w : Wd} {K : Nat} (G : Good w K) : Good w.next (K + 1) := by
  have h := qs9 (s := w.s) G.F (qun G.p) w.k
  have a := G.k; have l := G.L; have q := h.2
  have l1 := l.mi; have l2 := l.mo; have l3 := l.ti; have l4 := l.ou
  have q1 := q.mi; have q2 := q.mo; have q3 := q.ti; have q4 := q.ou
  have qm := q.m; have qt := q.t; have ef := G.f; have eg := G.g
  refine ⟨h.1, G.p, ?_, ⟨?_, ?_, ?_, ?_⟩, ?_, ?_⟩
  · show 0 ≤ w.k + 1 ∧ w.k + 1 ≤ _; omega
  · show 0 ≤ w.ld.mi + _ ∧ w.ld.mi + _ ≤ _; omega
  · show 0 ≤ w.ld.mo + _ ∧ w.ld.mo + _ ≤ _; omega
  · show 0 ≤ w.ld.ti + _ ∧ w.ld.ti + _ ≤ _; omega
  · show 0 ≤ w.ld.ou + _ ∧ w.ld.ou + _ ≤ _; omega
  · show isum (mac w.p w.b w.k w.s).1.2.1 - (w.ld.mi + (mac w.p w.b w.k w.s).2.mi) + (w.ld.mo + (mac w.p w.b w.k w.s).2.mo) = w.f
    omega
  · show isum (mac w.p w.b w.k w.s).1.2.2 - (w.ld.ti + (mac w.p w.b w.k w.s).2.ti) + (w.ld.ou + (mac w.p w.b w.k w.s).2.ou) = w.g
    omega
theorem qax : ∀ (n : Nat) (w : Wd) (K : Nat), Good w K → Good (advN n w) (K + n)
  | 0, w, K, G => G
  | n + 1, w, K, G => by have := qax n w.next (K + 1) G.next; rw [show K + 1 + n = K + (n + 1) by omega] at this; exact this
theorem Good.adv {w : Wd} {K : Nat} (G : Good w K) (n : Nat) (i : Int) (h : i ≤ n) : Good (adv w i) (K + n) := by
  unfold Go.Proofs.YtoldpdhhfmlckaaGreat.adv
  cases g : qaz w i
  · exact G.mono (by omega)
  · exact (qax i.toNat w K G).mono (by omega)
theorem Good.drp1 {w : Wd} {K : Nat} (G : Good w K) {p m h : Int} (g : qh4 w p m h = true) : Good (drp1 w p m h) (K + 1) := by
  unfold qh4 qh1 at g
  simp only [Bool.and_eq_true, decide_eq_true_eq, qn9] at g
  obtain ⟨g1, g2, g3, g4, g5⟩ := g
  have F := G.F
  have lf := qqq w.r w.s.1 p
  obtain ⟨i, hi⟩ : ∃ i : Nat, qqp w.r w.s.1 p = (i : Int) := ⟨(qqp w.r w.s.1 p).toNat, by omega⟩
  have fl := F.len; have ml := F.ml; have tl := F.tl
  have mm := qty g2.1 g2.2 g3.1 g3.2
  have mh := qoa (a := m) (c := h) (by omega) g3
  have im : i < w.s.2.1.length := by omega
  have it : i < w.s.2.2.length := by omega
  have fi := F.at i
  have e1 : isum (w.s.2.1.set i (w.s.2.1.getD i 0 + m)) = isum w.s.2.1 + m := by rw [qoj _ _ _ im]; omega
  have e2 : isum (w.s.2.2.set i (w.s.2.2.getD i 0 + m * h)) = isum w.s.2.2 + m * h := by rw [qoj _ _ _ it]; omega
  have a := G.k; have b1 := G.L.mi; have b2 := G.L.mo; have b3 := G.L.ti; have b4 := G.L.ou
  have ef := G.f; have eg := G.g
  unfold Go.Proofs.YtoldpdhhfmlckaaGreat.drp1
  rw [hi, Int.toNat_natCast]
  refine ⟨F.mk' (by rw [List.length_set]; exact ml) (by rw [List.length_set]; exact tl) ?_ ?_, G.p, by show 0 ≤ w.k ∧ w.k ≤ _; omega, ⟨?_, ?_, ?_, ?_⟩, ?_, ?_⟩
  · intro j hj
    have fj := F.at j
    show 0 ≤ (w.s.2.1.set i (w.s.2.1.getD i 0 + m)).getD j 0 ∧ 0 ≤ (w.s.2.2.set i (w.s.2.2.getD i 0 + m * h)).getD j 0 ∧ (w.s.2.2.set i (w.s.2.2.getD i 0 + m * h)).getD j 0 ≤ 1000 * (w.s.2.1.set i (w.s.2.1.getD i 0 + m)).getD j 0
    rw [qx4 im, qx4 it]
    by_cases q : i = j
    · rw [if_pos q, if_pos q]; omega
    · rw [if_neg q, if_neg q]; omega
  · show isum (w.s.2.1.set i (w.s.2.1.getD i 0 + m)) ≤ 10000000; omega
  · show 0 ≤ w.ld.mi + m ∧ w.ld.mi + m ≤ _; omega
  · show 0 ≤ w.ld.mo ∧ w.ld.mo ≤ _; omega
  · show 0 ≤ w.ld.ti + m * h ∧ w.ld.ti + m * h ≤ _; omega
  · show 0 ≤ w.ld.ou ∧ w.ld.ou ≤ _; omega
  · show isum (w.s.2.1.set i (w.s.2.1.getD i 0 + m)) - (w.ld.mi + m) + w.ld.mo = w.f; omega
  · show isum (w.s.2.2.set i (w.s.2.2.getD i 0 + m * h)) - (w.ld.ti + m * h) + w.ld.ou = w.g; omega
theorem Good.drp {w : Wd} {K : Nat} (G : Good w K) (p m h : Int) : Good (drp w p m h) (K + 1) := by
  unfold Go.Proofs.YtoldpdhhfmlckaaGreat.drp
  cases g : qh4 w p m h
  · exact G.mono (by omega)
  · exact G.drp1 g
theorem Good.act {w : Wd} {K : Nat} (G : Good w K) {a b c d : Int} (h : qas a b c d = true) : Good (actW w a b c d).1 (K + 20) ∧ 0 ≤ (actW w a b c d).2 := by
  have kd := qat h
  have p := G.p
  simp only [quq, qbf, Bool.and_eq_true, qn9] at p
  unfold qas sgl at h
  unfold actW
  have G20 : Good w (K + 20) := G.mono (by omega)
  by_cases h1 : a = 1
  · rw [dT h1, qhl] at h
    simp only [Bool.and_eq_true, qn9] at h
    rw [if_pos h1]
    have A := G.adv 20 b (by omega)
    exact ⟨A, qoi (fun x hx => ((A.F.mmem) x hx).1)⟩
  rw [dF h1, qhj] at h; rw [if_neg h1]
  by_cases h2 : a = 2
  · rw [dT h2, qhl] at h
    simp only [Bool.and_eq_true, qn9] at h
    rw [if_pos h2]
    exact ⟨⟨G20.F, by simp only [quq, qbf, Bool.and_eq_true, qn9]; omega, G20.k, G20.L, G20.f, G20.g⟩, by show (0 : Int) ≤ 1; decide⟩
  rw [dF h2, qhj] at h; rw [if_neg h2]
  by_cases h3 : a = 3
  · rw [dT h3, qhl] at h
    simp only [Bool.and_eq_true, qn9] at h
    rw [if_pos h3]
    exact ⟨⟨G20.F, by simp only [quq, qbf, Bool.and_eq_true, qn9]; omega, G20.k, G20.L, G20.f, G20.g⟩, by show (0 : Int) ≤ 1; decide⟩
  rw [dF h3, qhj] at h; rw [if_neg h3]
  by_cases h4 : a = 4
  · rw [dT h4, qhl] at h
    simp only [qbf, Bool.and_eq_true, qn9] at h
    rw [if_pos h4]
    exact ⟨⟨G20.F, by simp only [quq, qbf, Bool.and_eq_true, qn9]; omega, G20.k, G20.L, G20.f, G20.g⟩, by show (0 : Int) ≤ 1; decide⟩
  rw [dF h4, qhj] at h; rw [if_neg h4]
  by_cases h5 : a = 5
  · rw [dT h5, qhl] at h
    simp only [Bool.and_eq_true, qn9] at h
    rw [if_pos h5]
    exact ⟨⟨G20.F, by simp only [quq, qbf, Bool.and_eq_true, qn9]; omega, G20.k, G20.L, G20.f, G20.g⟩, by show (0 : Int) ≤ 1; decide⟩
  rw [dF h5, qhj] at h; rw [if_neg h5]
  by_cases h6 : a = 6
  · rw [dT h6, qhl] at h
    simp only [Bool.and_eq_true, qn9] at h
    rw [if_pos h6]
    exact ⟨⟨G20.F, by simp only [quq, qbf, Bool.and_eq_true, qn9]; omega, G20.k, G20.L, G20.f, G20.g⟩, by show (0 : Int) ≤ (w.s.1.length : Int); omega⟩
  rw [if_neg h6]
  exact ⟨(G.drp b c d).mono (by omega), by show 0 ≤ cond (qh4 w b c d) (1 : Int) 0; cases qh4 w b c d <;> decide⟩
def Act1 (x : Int × Int × Int × Int) : Prop := qas x.1 x.2.1 x.2.2.1 x.2.2.2 = true
theorem Good.do {w : Wd} {K : Nat} (G : Good w K) (hK : K ≤ 10000) {x : Int × Int × Int × Int} (h : Act1 x) : Good (doW w x.1 x.2.1 x.2.2.1 x.2.2.2).1 (K + 20) ∧ 0 ≤ (doW w x.1 x.2.1 x.2.2.1 x.2.2.2).2 := by
  unfold doW
  rw [G.ok hK, show qas x.1 x.2.1 x.2.2.1 x.2.2.2 = true from h]
  exact G.act h
theorem qvt {acts : Acts} (hA : ∀ x ∈ acts, Act1 x) {w : Wd} {K : Nat} (G : Good w K) : ∀ n, n ≤ acts.length → K + 20 * n ≤ 10000 → Good (runN acts n w).1 (K + 20 * n)
  | 0, _, _ => G
  | n + 1, h, hK => by
    have I := qvt hA G n (by omega) (by omega)
    have h1 : Act1 (acts.getD n zz4) := hA _ (qnw (by omega) zz4)
    have D := (I.do (by omega) h1).1
    exact D.mono (by omega)
structure Fit (w : Wd) (M : Int) : Prop where
  m : isum w.s.2.1 ≤ M
  bi : w.p.bi ≤ 3000
  rain : w.p.rain ≤ 900
theorem quj {a : Int} (ha : 0 ≤ a ∧ a ≤ 900) (l : List Cell) : ∀ n : Nat, qy4 (part a l) n ≤ 900 * n
  | 0 => by simp [qy4]
  | n + 1 => by
    have := quj ha l n
    have h := quk (a := a) (by omega) l n
    simp only [qy4]
    omega
theorem qnr {p : Pl} (P : PlF p) (h1 : p.bi ≤ 3000) (h2 : p.rain ≤ 900) (l : List Cell) (b : List Int) (s : S2) : (flow p l b s).2.mi ≤ 3000 + 900 * l.length := by
  have e1 : (boS p.bi p.bs p.bo s).2.mi ≤ 3000 := by
    have := P.bi
    unfold boS
    split
    · exact h1
    · show (0 : Int) ≤ 3000; decide
  have e2 : ∀ x : S2, (raS p.rain l x).2.mi ≤ 900 * l.length := fun x => by
    unfold raS
    split
    · exact quj ⟨P.rain.1, h2⟩ l l.length
    · show (0 : Int) ≤ _; omega
  have e2' := e2 (boS p.bi p.bs p.bo s).1
  show (boS p.bi p.bs p.bo s).2.mi + (raS p.rain l (boS p.bi p.bs p.bo s).1).2.mi + 0 + 0 ≤ _
  omega
theorem qta {p : Pl} (P : PlF p) (h1 : p.bi ≤ 3000) (h2 : p.rain ≤ 900) (b : List Int) (k : Int) (s : S3) : (mac p b k s).2.mi ≤ 3000 + 900 * s.1.length := qnr P h1 h2 s.1 b s.2
theorem Fit.next {w : Wd} {K : Nat} {M : Int} (G : Good w K) (T : Fit w M) : Fit w.next (M + 118200) := by
  have h := (qs9 (s := w.s) G.F (qun G.p) w.k).2
  have a := qta (qun G.p) T.bi T.rain w.b w.k w.s
  have l := G.F.len; have m := T.m
  have q1 := h.m; have q2 := h.mo
  exact ⟨by show isum (mac w.p w.b w.k w.s).1.2.1 ≤ _; omega, T.bi, T.rain⟩
end Go.Proofs.YtoldpdhhfmlckaaGreat
end
section
namespace Go.Proofs.YtoldpdhhfmlckaaGreat
open Go.Ev
set_option maxRecDepth 20000
def nwW (r : Int) (l : List Cell) (m t b : List Int) (p : Pl) : Wd := ⟨r, (l, m, t), b, p, 0, ⟨0, 0, 0, 0⟩, isum m, isum t⟩
theorem z0' : (0 : Int) ≤ 0 ∧ (0 : Int) ≤ 40000000000 * ((0 : Nat) : Int) := by decide
theorem qt4 {r : Int} {l : List Cell} {m t b : List Int} (F : StF r l m t b) {p : Pl} (P : PlD p) : Good (nwW r l m t b p) 0 :=
  ⟨F, P.ok, z0, ⟨z0', z0', z0', z0'⟩, by show isum m - 0 + 0 = isum m; omega, by show isum t - 0 + 0 = isum t; omega⟩
theorem qfc (k : Nat) (hk : 2000000 ≤ k) (r : Int) (l : List Cell) (m t b : List Int) (F : StF r l m t b) (p : Pl) (P : PlD p) :
    go (k + 8) spec_WorldNew [.agg [.int .i64 (r), .arr false (false) (.r3 (l)), .arr false (false) (.ints .i64 (m)), .arr false (false) (.ints .i64 (t)), .arr false (false) (.ints .i64 (b))], plD p] = some [wdO (nwW r l m t b p), .bool true] := by
  have := F.len; have := F.bl; have := F.rr
  have e := qfb k hk r l m t b p.bi p.bs p.bo p.rain p.loss p.dec p.high p.low p.every (by omega) (by omega)
  rw [stF.2 F, P.ok] at e
  exact e
set_option maxHeartbeats 1000000 in
theorem qgi (k : Nat) (hk : 2000000 ≤ k) (z : Bool) (l : List Int) (i h : Int) (hl : (l.length : Int) ≤ 1048576) (h0 : 0 ≤ i) (h1 : i ≤ l.length) :
    ∃ (a b c d i' h' : Int), go (k + 3) spec_l37Act [.ptr true [.arr false (z) (.ints .u8 (l)), .int .i64 (i), .int .i64 (h)]] = some [.agg [.int .i64 a, .int .i64 b, .int .i64 c, .int .i64 d], .ptr true [.arr false (z) (.ints .u8 (l)), .int .i64 (i'), .int .i64 (h')]] ∧ (0 ≤ i' ∧ i' ≤ l.length) ∧ Act1 (a, b, c, d) := by
  have e := qm9 (k + 2) z l i h
  obtain ⟨u1, i1, k1, e1, b1, q1, r1⟩ := qfh k (by omega) z l i h 8 hl h0 h1 (by omega) (by omega)
  have D := fun (i : Int) (h : Int) (B : Int) (p : 0 ≤ i) (q : i ≤ l.length) (p1 : 1 ≤ B) (p2 : B ≤ 5000) => qfh k (by omega) z l i h B hl p q (by omega) (by omega)
  by_cases g0 : u1 = 0
  · obtain ⟨u2, i2, k2, e2, b2, q2, r2⟩ := D i1 k1 900 q1 r1 (by omega) (by omega)
    simp (disch := omega) only [e1, g0, qa9, nth0, qzu, dTT, nth1, qut, quu, e2, dF, qhj, qhl] at e
    exact ⟨_, _, _, _, _, _, e, ⟨q2, r2⟩, by show qas _ _ _ _ = true; simp [qas, sgl, qbf, qn9]; omega⟩
  by_cases g1 : u1 = 1
  · obtain ⟨u2, i2, k2, e2, b2, q2, r2⟩ := D i1 k1 900 q1 r1 (by omega) (by omega)
    simp (disch := omega) only [e1, g1, qa9, nth0, qzu, dF, nth1, qut, quu, e2, dTT, qhj, qhl] at e
    exact ⟨_, _, _, _, _, _, e, ⟨q2, r2⟩, by show qas _ _ _ _ = true; simp [qas, sgl, qbf, qn9]; omega⟩
  by_cases g2 : u1 = 2
  · obtain ⟨u2, i2, k2, e2, b2, q2, r2⟩ := D i1 k1 3000 q1 r1 (by omega) (by omega)
    obtain ⟨u3, i3, k3, e3, b3, q3, r3⟩ := D i2 k2 1001 q2 r2 (by omega) (by omega)
    obtain ⟨u4, i4, k4, e4, b4, q4, r4⟩ := D i3 k3 251 q3 r3 (by omega) (by omega)
    simp (disch := omega) only [e1, g2, qa9, nth0, qzu, dF, nth1, qut, quu, dTT, e2, e3, e4, q0l, qhj, qhl] at e
    exact ⟨_, _, _, _, _, _, e, ⟨q4, r4⟩, by show qas _ _ _ _ = true; simp [qas, sgl, qbf, qn9]; omega⟩
  by_cases g3 : u1 = 3
  · obtain ⟨u2, i2, k2, e2, b2, q2, r2⟩ := D i1 k1 300 q1 r1 (by omega) (by omega)
    simp (disch := omega) only [e1, g3, qa9, nth0, qzu, dF, nth1, qut, quu, dTT, e2, qhj, qhl] at e
    exact ⟨_, _, _, _, _, _, e, ⟨q2, r2⟩, by show qas _ _ _ _ = true; simp [qas, sgl, qbf, qn9]; omega⟩
  by_cases g4 : u1 = 4
  · obtain ⟨u2, i2, k2, e2, b2, q2, r2⟩ := D i1 k1 3000 q1 r1 (by omega) (by omega)
    obtain ⟨u3, i3, k3, e3, b3, q3, r3⟩ := D i2 k2 400 q2 r2 (by omega) (by omega)
    obtain ⟨u4, i4, k4, e4, b4, q4, r4⟩ := D i3 k3 3 q3 r3 (by omega) (by omega)
    simp (disch := omega) only [e1, g4, qa9, nth0, qzu, dF, nth1, qut, quu, e2, dTT, e3, q0l, e4, qhj, qhl] at e
    exact ⟨_, _, _, _, _, _, e, ⟨q4, r4⟩, by show qas _ _ _ _ = true; simp [qas, sgl, qbf, qn9]; omega⟩
  by_cases g5 : u1 = 5
  · obtain ⟨u2, i2, k2, e2, b2, q2, r2⟩ := D i1 k1 40 q1 r1 (by omega) (by omega)
    obtain ⟨u3, i3, k3, e3, b3, q3, r3⟩ := D i2 k2 5000 q2 r2 (by omega) (by omega)
    obtain ⟨u4, i4, k4, e4, b4, q4, r4⟩ := D i3 k3 1001 q3 r3 (by omega) (by omega)
    simp (disch := omega) only [e1, g5, qa9, nth0, qzu, dF, nth1, qut, quu, dTT, e2, e3, e4, q0l, qhl, qhj] at e
    exact ⟨_, _, _, _, _, _, e, ⟨q4, r4⟩, by show qas _ _ _ _ = true; simp [qas, sgl, qbf, qn9]; omega⟩
  · obtain ⟨u2, i2, k2, e2, b2, q2, r2⟩ := D i1 k1 3 q1 r1 (by omega) (by omega)
    simp (disch := omega) only [e1, qa9, nth0, qzu, dF, nth1, qut, quu, e2, q0l, qhj] at e
    exact ⟨_, _, _, _, _, _, e, ⟨q2, r2⟩, by show qas _ _ _ _ = true; simp [qas, sgl, qbf, qn9]; omega⟩
theorem qs1 (k : Nat) (hk : 2000000 ≤ k) (fu : List (Nat × Nat)) (v0 : Bool) (v1 : List Int) (v2 v3 : Int) (z : Bool) (l : List Int) (hl : (l.length : Int) ≤ 1048576) :
    ∀ (n i : Nat) (j h : Int) (A : Acts), i ≤ 6 → 6 - i < n → 0 ≤ j → j ≤ l.length → A.length = i → (∀ x ∈ A, Act1 x) →
    ∃ (A' : Acts) (j' h' : Int), lp (k + 3) spec_l37Acts [(.ptr true [(.arr false (v0) (.ints IntKind.u8 (v1))), (.int .i64 (v2)), (.int .i64 (v3))])] fu 3 (n) (qxy (i : Int) z l j h false A) = some [.arr true false (.r4 A'), .ptr true [.arr false (z) (.ints .u8 (l)), .int .i64 (j'), .int .i64 (h')]] ∧ A'.length ≤ 6 ∧ (∀ x ∈ A', Act1 x)
  | 0, i, j, h, A, hi, hn, h0, h1, hA, ok => by omega
  | n + 1, i, j, h, A, hi, hn, h0, h1, hA, ok => by
    have e := qqo (k + 3) n fu v0 v1 v2 v3 (i : Int) z l j h false A
    obtain ⟨u1, i1, k1, e1, b1, q1, r1⟩ := qfh (k + 1) (by omega) z l j h 7 hl h0 h1 (by omega) (by omega)
    by_cases g : (i : Int) < u1
    · obtain ⟨a, b, c, d, i2, k2, e2, q2, o2⟩ := qgi k (by omega) z l i1 k1 hl q1 r1
      have la : (A ++ [(a, b, c, d)]).length = i + 1 := by rw [List.length_append, hA]; rfl
      obtain ⟨A', j', h', e5, p5⟩ := qs1 k hk fu v0 v1 v2 v3 z l hl n (i + 1) i2 k2 (A ++ [(a, b, c, d)]) (by omega) (by omega) q2.1 q2.2 la (fun x hx => by
        rcases List.mem_append.1 hx with hx | hx
        · exact ok x hx
        · rw [List.mem_singleton] at hx; rw [hx]; exact o2)
      simp (disch := omega) only [e1, big0, qgp, q0l, Bool.false_and, qa9, nth0, qzu, dT, nth1, qut, quu, e2, qgr, qgs, qg3, qg5, la, e5, qhl] at e
      exact ⟨A', j', h', e, p5⟩
    · simp (disch := omega) only [e1, big0, qgp, q0l, Bool.false_and, qa9, nth0, qzu, dF, nth1, qut, quu, qhj] at e
      exact ⟨A, _, _, e, by omega, ok⟩
theorem qgj (k : Nat) (hk : 2000000 ≤ k) (z : Bool) (l : List Int) (i h : Int) (hl : (l.length : Int) ≤ 1048576) (h0 : 0 ≤ i) (h1 : i ≤ l.length) :
    ∃ (A : Acts) (i' h' : Int), go (k + 4) spec_l37Acts [.ptr true [.arr false (z) (.ints .u8 (l)), .int .i64 (i), .int .i64 (h)]] = some [.arr true false (.r4 A), .ptr true [.arr false (z) (.ints .u8 (l)), .int .i64 (i'), .int .i64 (h')]] ∧ A.length ≤ 6 ∧ (∀ x ∈ A, Act1 x) := by
  have e := qna (k + 3) z l i h
  obtain ⟨A, j', h', e5, p5⟩ := qs1 k hk [] z l i h z l hl (k + 3) 0 i h [] (by omega) (by omega) h0 h1 rfl (fun x hx => by cases hx)
  rw [show ((0 : Nat) : Int) = 0 from rfl] at e5
  exact ⟨A, j', h', e.trans e5, p5⟩
theorem qsb (k : Nat) (hk : 2000000 ≤ k) (fu : List (Nat × Nat)) (z : Bool) (l : List Int) (hl : (l.length : Int) ≤ 1048576) (z4 : Bool) (l5 : List Cell) (z6 : Bool) (l7 : List Int) (z8 : Bool) (l9 : List Int) (z10 : Bool) (l11 : List Int) (x12 x13 x14 x15 x16 x17 x18 x19 x20 x21 x22 x23 x24 x25 x26 x27 x28 : Int) (z29 : Bool) (l30 : Acts) :
    ∀ (n t : Nat) (h : Int), t ≤ l.length → l.length - t < n →
    ∃ (w : Wd) (A : Acts), lp (k + 11) spec_DrawActs [] fu 7800003 (n) (qw1 h (t : Int) z l z4 l5 z6 l7 z8 l9 z10 l11 x12 x13 x14 x15 x16 x17 x18 x19 x20 x21 x22 x23 x24 x25 x26 x27 x28 z29 l30) = some [wdO w, .arr true false (.r4 A)] ∧ Good w 0 ∧ A.length ≤ 6 ∧ (∀ x ∈ A, Act1 x)
  | 0, t, h, ht, hn => by omega
  | n + 1, t, h, ht, hn => by
    have e := qpr (k + 11) n fu h (t : Int) z l z4 l5 z6 l7 z8 l9 z10 l11 x12 x13 x14 x15 x16 x17 x18 x19 x20 x21 x22 x23 x24 x25 x26 x27 x28 z29 l30
    obtain ⟨r, c, m, tr, b, i1, k1, e1, q1, F, r3, sm⟩ := qfx k (by omega) z l 0 h hl (by omega) (by omega)
    obtain ⟨p, i2, k2, e2, q2, P⟩ := qgc (k + 7) (by omega) z l i1 k1 hl q1.1 q1.2
    have eN := qfc (k + 3) (by omega) r c m tr b F p P
    obtain ⟨A, i4, k4, e4, p4⟩ := qgj (k + 7) (by omega) z l i2 k2 hl q2.1 q2.2
    by_cases g : t < l.length
    · by_cases g2 : (t : Int) < 4000
      · simp (disch := omega) only [nI, dT, Bool.and_true, Int.toNat_natCast, qgp, q0l, qhl] at e
        obtain ⟨w, A, e3, p3⟩ := qsb k hk fu z l hl z4 l5 z6 l7 z8 l9 z10 l11 x12 x13 x14 x15 x16 x17 x18 x19 x20 x21 x22 x23 x24 x25 x26 x27 x28 z29 l30 n (t + 1) _ (by omega) (by omega)
        exact ⟨w, A, e.trans e3, p3⟩
      · simp (disch := omega) only [nI, dT, dF, Bool.and_true, Int.toNat_natCast, qgp, q0l, qhl, e1, qa9, nth1, qut, qzu, quu, e2, nth0, qgr, qgs, qt3, quv, qg3, qob, qg5, qg6, qg7, qg8, qg9, qha, eN, e4, quw, qhb, qgt, qgu, qgv, qgw, qgx, qgy, qgz, qg0, qg1, qg2, qg4, qhj] at e
        exact ⟨nwW r c m tr b p, A, e, qt4 F P, p4⟩
    · simp (disch := omega) only [nI, dF, dT, Bool.and_false, Int.toNat_natCast, qgp, q0l, qhj, e1, qa9, nth1, qut, qzu, quu, e2, nth0, qgr, qgs, qt3, quv, qg3, qob, qg5, qg6, qg7, qg8, qg9, qha, eN, e4, quw, qhb, qgt, qgu, qgv, qgw, qgx, qgy, qgz, qg0, qg1, qg2, qg4] at e
      exact ⟨nwW r c m tr b p, A, e, qt4 F P, p4⟩
theorem qeh (k : Nat) (hk : 2000000 ≤ k) (z : Bool) (l : List Int) (hl : (l.length : Int) ≤ 1048576) :
    ∃ (w : Wd) (A : Acts), go (k + 12) spec_DrawActs [.arr false z (.ints .u8 l)] = some [wdO w, .arr true false (.r4 A)] ∧ Good w 0 ∧ A.length ≤ 6 ∧ (∀ x ∈ A, Act1 x) := by
  have e := qk8 (k + 11) z l
  obtain ⟨w, A, e3, p3⟩ := qsb k hk [] z l hl true [] true [] true [] true [] 0 0 0 0 0 0 0 0 0 0 0 0 0 0 0 0 0 true [] (k + 11) 0 (IntKind.wrap .i64 (98231 + nI l.length)) (by omega) (by omega)
  rw [show ((0 : Nat) : Int) = 0 from rfl] at e3
  exact ⟨w, A, e.trans e3, p3⟩
end Go.Proofs.YtoldpdhhfmlckaaGreat
end
section
namespace Go.Proofs.YtoldpdhhfmlckaaGreat
open Go.Ev
def qwt (x0 : Int) (z1 : Bool) (l2 : List (Int × Int × Int)) (z3 : Bool) (l4 : List Int) (z5 : Bool) (l6 : List Int) (z7 : Bool) (l8 : List Int) (x9 x10 x11 x12 x13 x14 x15 x16 x17 x18 x19 x20 x21 x22 x23 x24 x25 : Int) (z26 : Bool) (l27 : List (Int × Int × Int × Int)) (z28 : Bool) (l29 : List (Int × Int × Int)) (z30 : Bool) (l31 : List Int) (z32 : Bool) (l33 : List Int) (z34 : Bool) (l35 : List Int) (x36 x37 x38 x39 x40 x41 x42 x43 x44 x45 x46 x47 x48 x49 x50 x51 x52 : Int) (z53 : Bool) (l54 : List Int) : St := ⟨fill 80 [(3, (.ptr 4 0 0)), (4, (.sl 5 none)), (7, (.ptr 10 0 0)), (8, (.sl 11 none)), (9, (.int .i64 x0))], [], [(.arr true z1 (.r3 l2)), (.arr true z3 (.ints .i64 l4)), (.arr true z5 (.ints .i64 l6)), (.arr true z7 (.ints .i64 l8)), (.box true [(.int .i64 x9), (.sl 0 none), (.sl 1 none), (.sl 2 none), (.sl 3 none), (.int .i64 x10), (.int .i64 x11), (.int .i64 x12), (.int .i64 x13), (.int .i64 x14), (.int .i64 x15), (.int .i64 x16), (.int .i64 x17), (.int .i64 x18), (.int .i64 x19), (.int .i64 x20), (.int .i64 x21), (.int .i64 x22), (.int .i64 x23), (.int .i64 x24), (.int .i64 x25)]), (.arr true z26 (.r4 l27)), (.arr true z28 (.r3 l29)), (.arr true z30 (.ints .i64 l31)), (.arr true z32 (.ints .i64 l33)), (.arr true z34 (.ints .i64 l35)), (.box true [(.int .i64 x36), (.sl 6 none), (.sl 7 none), (.sl 8 none), (.sl 9 none), (.int .i64 x37), (.int .i64 x38), (.int .i64 x39), (.int .i64 x40), (.int .i64 x41), (.int .i64 x42), (.int .i64 x43), (.int .i64 x44), (.int .i64 x45), (.int .i64 x46), (.int .i64 x47), (.int .i64 x48), (.int .i64 x49), (.int .i64 x50), (.int .i64 x51), (.int .i64 x52)]), (.arr true z53 (.ints .i64 l54))]⟩
theorem qko (k : Nat) (az : Bool) (a : List Int) : go (k + 1) laws_FnPrefixes [(.arr false az (.ints IntKind.u8 a))] =
 (go k laws_big [(.arr false az (.ints IntKind.u8 a))]).bind fun r0 =>
 cond (bit (nth r0 0))
 (some [(.bool true)])
 ((go k spec_DrawActs [(.arr false az (.ints IntKind.u8 a))]).bind fun r1 =>
 (go k spec_DrawPlaces [(.arr false az (.ints IntKind.u8 a))]).bind fun r2 =>
 cond (decide ((0 : Int) ≤ (0 : Int)) && decide ((0 : Int) < nI (List.length (D.ints (nth r2 0)))))
 (cond (!decide (IntKind.wrap .i64 (nI (List.length (D.r4 (nth r1 1))) + (1 : Int)) = (0 : Int)))
 (cond (decide ((0 : Int) ≤ (0 : Int)) && decide ((0 : Int) ≤ Int.tmod (List.getD (D.ints (nth r2 0)) (Int.toNat (0 : Int)) (0 : Int)) (IntKind.wrap .i64 (nI (List.length (D.r4 (nth r1 1))) + (1 : Int)))) && decide (Int.tmod (List.getD (D.ints (nth r2 0)) (Int.toNat (0 : Int)) (0 : Int)) (IntKind.wrap .i64 (nI (List.length (D.r4 (nth r1 1))) + (1 : Int))) ≤ nI (List.length (D.r4 (nth r1 1)))))
 ((go k impl_RunActs [(.agg [(.int .i64 (D.toInt (D.cell 0 (nth r1 0)))), (.arr false (D.nil (D.cell 1 (nth r1 0))) (.r3 (D.r3 (D.cell 1 (nth r1 0))))), (.arr false (D.nil (D.cell 2 (nth r1 0))) (.ints .i64 (D.ints (D.cell 2 (nth r1 0))))), (.arr false (D.nil (D.cell 3 (nth r1 0))) (.ints .i64 (D.ints (D.cell 3 (nth r1 0))))), (.arr false (D.nil (D.cell 4 (nth r1 0))) (.ints .i64 (D.ints (D.cell 4 (nth r1 0))))), (.int .i64 (D.toInt (D.cell 5 (nth r1 0)))), (.int .i64 (D.toInt (D.cell 6 (nth r1 0)))), (.int .i64 (D.toInt (D.cell 7 (nth r1 0)))), (.int .i64 (D.toInt (D.cell 8 (nth r1 0)))), (.int .i64 (D.toInt (D.cell 9 (nth r1 0)))), (.int .i64 (D.toInt (D.cell 10 (nth r1 0)))), (.int .i64 (D.toInt (D.cell 11 (nth r1 0)))), (.int .i64 (D.toInt (D.cell (12 : Nat) (nth r1 0)))), (.int .i64 (D.toInt (D.cell (13 : Nat) (nth r1 0)))), (.int .i64 (D.toInt (D.cell (14 : Nat) (nth r1 0)))), (.int .i64 (D.toInt (D.cell (15 : Nat) (nth r1 0)))), (.int .i64 (D.toInt (D.cell (16 : Nat) (nth r1 0)))), (.int .i64 (D.toInt (D.cell (17 : Nat) (nth r1 0)))), (.int .i64 (D.toInt (D.cell (18 : Nat) (nth r1 0)))), (.int .i64 (D.toInt (D.cell (19 : Nat) (nth r1 0)))), (.int .i64 (D.toInt (D.cell (20 : Nat) (nth r1 0))))]), (.arr false (D.nil (nth r1 1)) (.r4 (List.take (Int.toNat (Int.tmod (List.getD (D.ints (nth r2 0)) (Int.toNat (0 : Int)) (0 : Int)) (IntKind.wrap .i64 (nI (List.length (D.r4 (nth r1 1))) + (1 : Int)))) - Int.toNat (0 : Int)) (List.drop (0 + Int.toNat (0 : Int)) (D.r4 (nth r1 1))))))]).bind fun r3 =>
 lp k laws_FnPrefixes [] [] 8 k (qwt (Int.tmod (List.getD (D.ints (nth r2 0)) (Int.toNat (0 : Int)) (0 : Int)) (IntKind.wrap .i64 (nI (List.length (D.r4 (nth r1 1))) + (1 : Int)))) (D.nil (D.cell 1 (nth r1 0))) (D.r3 (D.cell 1 (nth r1 0))) (D.nil (D.cell 2 (nth r1 0))) (D.ints (D.cell 2 (nth r1 0))) (D.nil (D.cell 3 (nth r1 0))) (D.ints (D.cell 3 (nth r1 0))) (D.nil (D.cell 4 (nth r1 0))) (D.ints (D.cell 4 (nth r1 0))) (D.toInt (D.cell 0 (nth r1 0))) (D.toInt (D.cell 5 (nth r1 0))) (D.toInt (D.cell 6 (nth r1 0))) (D.toInt (D.cell 7 (nth r1 0))) (D.toInt (D.cell 8 (nth r1 0))) (D.toInt (D.cell 9 (nth r1 0))) (D.toInt (D.cell 10 (nth r1 0))) (D.toInt (D.cell 11 (nth r1 0))) (D.toInt (D.cell (12 : Nat) (nth r1 0))) (D.toInt (D.cell (13 : Nat) (nth r1 0))) (D.toInt (D.cell (14 : Nat) (nth r1 0))) (D.toInt (D.cell (15 : Nat) (nth r1 0))) (D.toInt (D.cell (16 : Nat) (nth r1 0))) (D.toInt (D.cell (17 : Nat) (nth r1 0))) (D.toInt (D.cell (18 : Nat) (nth r1 0))) (D.toInt (D.cell (19 : Nat) (nth r1 0))) (D.toInt (D.cell (20 : Nat) (nth r1 0))) (D.nil (nth r1 1)) (D.r4 (nth r1 1)) (D.nil (D.cell 1 (nth r3 0))) (D.r3 (D.cell 1 (nth r3 0))) (D.nil (D.cell 2 (nth r3 0))) (D.ints (D.cell 2 (nth r3 0))) (D.nil (D.cell 3 (nth r3 0))) (D.ints (D.cell 3 (nth r3 0))) (D.nil (D.cell 4 (nth r3 0))) (D.ints (D.cell 4 (nth r3 0))) (D.toInt (D.cell 0 (nth r3 0))) (D.toInt (D.cell 5 (nth r3 0))) (D.toInt (D.cell 6 (nth r3 0))) (D.toInt (D.cell 7 (nth r3 0))) (D.toInt (D.cell 8 (nth r3 0))) (D.toInt (D.cell 9 (nth r3 0))) (D.toInt (D.cell 10 (nth r3 0))) (D.toInt (D.cell 11 (nth r3 0))) (D.toInt (D.cell (12 : Nat) (nth r3 0))) (D.toInt (D.cell (13 : Nat) (nth r3 0))) (D.toInt (D.cell (14 : Nat) (nth r3 0))) (D.toInt (D.cell (15 : Nat) (nth r3 0))) (D.toInt (D.cell (16 : Nat) (nth r3 0))) (D.toInt (D.cell (17 : Nat) (nth r3 0))) (D.toInt (D.cell (18 : Nat) (nth r3 0))) (D.toInt (D.cell (19 : Nat) (nth r3 0))) (D.toInt (D.cell (20 : Nat) (nth r3 0))) (D.nil (nth r3 1)) (D.ints (nth r3 1))))
 none)
 none)
 none) := by kernel_rfl
theorem qpj (k n : Nat) (fu : List (Nat × Nat)) (x0 : Int) (z1 : Bool) (l2 : List (Int × Int × Int)) (z3 : Bool) (l4 : List Int) (z5 : Bool) (l6 : List Int) (z7 : Bool) (l8 : List Int) (x9 x10 x11 x12 x13 x14 x15 x16 x17 x18 x19 x20 x21 x22 x23 x24 x25 : Int) (z26 : Bool) (l27 : List (Int × Int × Int × Int)) (z28 : Bool) (l29 : List (Int × Int × Int)) (z30 : Bool) (l31 : List Int) (z32 : Bool) (l33 : List Int) (z34 : Bool) (l35 : List Int) (x36 x37 x38 x39 x40 x41 x42 x43 x44 x45 x46 x47 x48 x49 x50 x51 x52 : Int) (z53 : Bool) (l54 : List Int) : lp k laws_FnPrefixes [] fu 8 (n + 1) (qwt x0 z1 l2 z3 l4 z5 l6 z7 l8 x9 x10 x11 x12 x13 x14 x15 x16 x17 x18 x19 x20 x21 x22 x23 x24 x25 z26 l27 z28 l29 z30 l31 z32 l33 z34 l35 x36 x37 x38 x39 x40 x41 x42 x43 x44 x45 x46 x47 x48 x49 x50 x51 x52 z53 l54) =
 cond (decide (x0 < nI (List.length l27)))
 (cond (decide ((0 : Int) ≤ x0) && decide (x0 < nI (List.length l27)))
 ((go k impl_DoAct [(.agg [(.int .i64 x36), (.arr false z28 (.r3 l29)), (.arr false z30 (.ints .i64 l31)), (.arr false z32 (.ints .i64 l33)), (.arr false z34 (.ints .i64 l35)), (.int .i64 x37), (.int .i64 x38), (.int .i64 x39), (.int .i64 x40), (.int .i64 x41), (.int .i64 x42), (.int .i64 x43), (.int .i64 x44), (.int .i64 x45), (.int .i64 x46), (.int .i64 x47), (.int .i64 x48), (.int .i64 x49), (.int .i64 x50), (.int .i64 x51), (.int .i64 x52)]), (.agg [(.int .i64 (Prod.fst (List.getD l27 (Int.toNat x0) zz4))), (.int .i64 (Prod.fst (Prod.snd (List.getD l27 (Int.toNat x0) zz4)))), (.int .i64 (Prod.fst (Prod.snd (Prod.snd (List.getD l27 (Int.toNat x0) zz4))))), (.int .i64 (Prod.snd (Prod.snd (Prod.snd (List.getD l27 (Int.toNat x0) zz4)))))])]).bind fun r0 =>
 cond (decide (List.length (l54 ++ [D.toInt (nth r0 1)]) ≤ bigLen))
 (cond (decide (D.toInt (nth r0 1) < (0 : Int)))
 (some [(.bool false)])
 ((go k spec_WorldOk [(.agg [(.int .i64 (D.toInt (D.cell 0 (nth r0 0)))), (.arr false (D.nil (D.cell 1 (nth r0 0))) (.r3 (D.r3 (D.cell 1 (nth r0 0))))), (.arr false (D.nil (D.cell 2 (nth r0 0))) (.ints .i64 (D.ints (D.cell 2 (nth r0 0))))), (.arr false (D.nil (D.cell 3 (nth r0 0))) (.ints .i64 (D.ints (D.cell 3 (nth r0 0))))), (.arr false (D.nil (D.cell 4 (nth r0 0))) (.ints .i64 (D.ints (D.cell 4 (nth r0 0))))), (.int .i64 (D.toInt (D.cell 5 (nth r0 0)))), (.int .i64 (D.toInt (D.cell 6 (nth r0 0)))), (.int .i64 (D.toInt (D.cell 7 (nth r0 0)))), (.int .i64 (D.toInt (D.cell 8 (nth r0 0)))), (.int .i64 (D.toInt (D.cell 9 (nth r0 0)))), (.int .i64 (D.toInt (D.cell 10 (nth r0 0)))), (.int .i64 (D.toInt (D.cell 11 (nth r0 0)))), (.int .i64 (D.toInt (D.cell (12 : Nat) (nth r0 0)))), (.int .i64 (D.toInt (D.cell (13 : Nat) (nth r0 0)))), (.int .i64 (D.toInt (D.cell (14 : Nat) (nth r0 0)))), (.int .i64 (D.toInt (D.cell (15 : Nat) (nth r0 0)))), (.int .i64 (D.toInt (D.cell (16 : Nat) (nth r0 0)))), (.int .i64 (D.toInt (D.cell (17 : Nat) (nth r0 0)))), (.int .i64 (D.toInt (D.cell (18 : Nat) (nth r0 0)))), (.int .i64 (D.toInt (D.cell (19 : Nat) (nth r0 0)))), (.int .i64 (D.toInt (D.cell (20 : Nat) (nth r0 0))))])]).bind fun r1 =>
 cond (!bit (nth r1 0))
 (some [(.bool false)])
 (lp k laws_FnPrefixes [] fu 8 n (qwt (IntKind.wrap .i64 (x0 + (1 : Int))) z1 l2 z3 l4 z5 l6 z7 l8 x9 x10 x11 x12 x13 x14 x15 x16 x17 x18 x19 x20 x21 x22 x23 x24 x25 z26 l27 (D.nil (D.cell 1 (nth r0 0))) (D.r3 (D.cell 1 (nth r0 0))) (D.nil (D.cell 2 (nth r0 0))) (D.ints (D.cell 2 (nth r0 0))) (D.nil (D.cell 3 (nth r0 0))) (D.ints (D.cell 3 (nth r0 0))) (D.nil (D.cell 4 (nth r0 0))) (D.ints (D.cell 4 (nth r0 0))) (D.toInt (D.cell 0 (nth r0 0))) (D.toInt (D.cell 5 (nth r0 0))) (D.toInt (D.cell 6 (nth r0 0))) (D.toInt (D.cell 7 (nth r0 0))) (D.toInt (D.cell 8 (nth r0 0))) (D.toInt (D.cell 9 (nth r0 0))) (D.toInt (D.cell 10 (nth r0 0))) (D.toInt (D.cell 11 (nth r0 0))) (D.toInt (D.cell (12 : Nat) (nth r0 0))) (D.toInt (D.cell (13 : Nat) (nth r0 0))) (D.toInt (D.cell (14 : Nat) (nth r0 0))) (D.toInt (D.cell (15 : Nat) (nth r0 0))) (D.toInt (D.cell (16 : Nat) (nth r0 0))) (D.toInt (D.cell (17 : Nat) (nth r0 0))) (D.toInt (D.cell (18 : Nat) (nth r0 0))) (D.toInt (D.cell (19 : Nat) (nth r0 0))) (D.toInt (D.cell (20 : Nat) (nth r0 0))) (z53 && decide (List.length (l54 ++ [D.toInt (nth r0 1)]) = 0)) (l54 ++ [D.toInt (nth r0 1)])))))
 none)
 none)
 ((go k impl_RunActs [(.agg [(.int .i64 x9), (.arr false z1 (.r3 l2)), (.arr false z3 (.ints .i64 l4)), (.arr false z5 (.ints .i64 l6)), (.arr false z7 (.ints .i64 l8)), (.int .i64 x10), (.int .i64 x11), (.int .i64 x12), (.int .i64 x13), (.int .i64 x14), (.int .i64 x15), (.int .i64 x16), (.int .i64 x17), (.int .i64 x18), (.int .i64 x19), (.int .i64 x20), (.int .i64 x21), (.int .i64 x22), (.int .i64 x23), (.int .i64 x24), (.int .i64 x25)]), (.arr false z26 (.r4 l27))]).bind fun r2 =>
 (go k laws_sameInts [(.arr false z53 (.ints .i64 l54)), (.arr false (D.nil (nth r2 1)) (.ints .i64 (D.ints (nth r2 1))))]).bind fun r3 =>
 cond (bit (nth r3 0))
 ((go k spec_SameWorld [(.agg [(.int .i64 x36), (.arr false z28 (.r3 l29)), (.arr false z30 (.ints .i64 l31)), (.arr false z32 (.ints .i64 l33)), (.arr false z34 (.ints .i64 l35)), (.int .i64 x37), (.int .i64 x38), (.int .i64 x39), (.int .i64 x40), (.int .i64 x41), (.int .i64 x42), (.int .i64 x43), (.int .i64 x44), (.int .i64 x45), (.int .i64 x46), (.int .i64 x47), (.int .i64 x48), (.int .i64 x49), (.int .i64 x50), (.int .i64 x51), (.int .i64 x52)]), (.agg [(.int .i64 (D.toInt (D.cell 0 (nth r2 0)))), (.arr false (D.nil (D.cell 1 (nth r2 0))) (.r3 (D.r3 (D.cell 1 (nth r2 0))))), (.arr false (D.nil (D.cell 2 (nth r2 0))) (.ints .i64 (D.ints (D.cell 2 (nth r2 0))))), (.arr false (D.nil (D.cell 3 (nth r2 0))) (.ints .i64 (D.ints (D.cell 3 (nth r2 0))))), (.arr false (D.nil (D.cell 4 (nth r2 0))) (.ints .i64 (D.ints (D.cell 4 (nth r2 0))))), (.int .i64 (D.toInt (D.cell 5 (nth r2 0)))), (.int .i64 (D.toInt (D.cell 6 (nth r2 0)))), (.int .i64 (D.toInt (D.cell 7 (nth r2 0)))), (.int .i64 (D.toInt (D.cell 8 (nth r2 0)))), (.int .i64 (D.toInt (D.cell 9 (nth r2 0)))), (.int .i64 (D.toInt (D.cell 10 (nth r2 0)))), (.int .i64 (D.toInt (D.cell 11 (nth r2 0)))), (.int .i64 (D.toInt (D.cell (12 : Nat) (nth r2 0)))), (.int .i64 (D.toInt (D.cell (13 : Nat) (nth r2 0)))), (.int .i64 (D.toInt (D.cell (14 : Nat) (nth r2 0)))), (.int .i64 (D.toInt (D.cell (15 : Nat) (nth r2 0)))), (.int .i64 (D.toInt (D.cell (16 : Nat) (nth r2 0)))), (.int .i64 (D.toInt (D.cell (17 : Nat) (nth r2 0)))), (.int .i64 (D.toInt (D.cell (18 : Nat) (nth r2 0)))), (.int .i64 (D.toInt (D.cell (19 : Nat) (nth r2 0)))), (.int .i64 (D.toInt (D.cell (20 : Nat) (nth r2 0))))])]).bind fun r4 =>
 some [(.bool (bit (nth r4 0)))])
 (some [(.bool false)])) := by kernel_rfl
def qwu (x0 : Int) (z1 : Bool) (l2 : List Int) (z3 : Bool) (l4 : List Int) : St := ⟨fill 26 [(0, (.sl 0 none)), (1, (.sl 1 none)), (5, (.int .i64 x0))], [], [(.arr false z1 (.ints .i64 l2)), (.arr false z3 (.ints .i64 l4))]⟩
theorem qks (k : Nat) (az : Bool) (a : List Int) (bz : Bool) (b : List Int) : go (k + 1) laws_sameInts [(.arr false az (.ints .i64 a)), (.arr false bz (.ints .i64 b))] =
 cond (!decide (nI (List.length a) = nI (List.length b)))
 (some [(.bool false)])
 (lp k laws_sameInts [] [] 4 k (qwu (0 : Int) az a bz b)) := by kernel_rfl
theorem qpk (k n : Nat) (fu : List (Nat × Nat)) (x0 : Int) (z1 : Bool) (l2 : List Int) (z3 : Bool) (l4 : List Int) : lp k laws_sameInts [] fu 4 (n + 1) (qwu x0 z1 l2 z3 l4) =
 cond (decide (x0 < nI (List.length l2)))
 (cond (decide ((0 : Int) ≤ x0) && decide (x0 < nI (List.length l2)))
 (cond (decide ((0 : Int) ≤ x0) && decide (x0 < nI (List.length l4)))
 (cond (!decide (List.getD l2 (Int.toNat x0) (0 : Int) = List.getD l4 (Int.toNat x0) (0 : Int)))
 (some [(.bool false)])
 (lp k laws_sameInts [] fu 4 n (qwu (IntKind.wrap .i64 (x0 + (1 : Int))) z1 l2 z3 l4)))
 none)
 none)
 (some [(.bool true)]) := by kernel_rfl
end Go.Proofs.YtoldpdhhfmlckaaGreat
end
section
namespace Go.Proofs.YtoldpdhhfmlckaaGreat
open Go.Ev
set_option maxRecDepth 20000
def samD (a b : Wd) : Bool := qx3 a.r b.r a.s.1 b.s.1 a.s.2.1 a.s.2.2 a.b b.s.2.1 b.s.2.2 b.b && qx2 a.p.bi a.p.bs a.p.bo a.p.rain a.p.loss a.p.dec a.p.high a.p.low a.p.every a.k a.ld.mi a.ld.mo a.ld.ti a.ld.ou a.f a.g b.p.bi b.p.bs b.p.bo b.p.rain b.p.loss b.p.dec b.p.high b.p.low b.p.every b.k b.ld.mi b.ld.mo b.ld.ti b.ld.ou b.f b.g
theorem qe3 (k : Nat) (hk : 2000000 ≤ k) (a b : Wd) (S : Sml a) : go (k + 3) spec_SameWorld [wdR a, wdR b] = some [.bool (samD a b)] :=
  qe2 k hk _ _ _ _ _ _ _ _ _ _ _ _ _ _ _ _ _ _ _ _ _ _ _ _ _ _ _ _ _ _ _ _ _ _ _ _ _ _ _ _ _ _ _ _ _ _ _ _ _ _ S.h1 S.h2 S.h3 S.h4
theorem qxz (w : Wd) : samD w w = true := by simp [samD, qx3, qx1, qx2]
end Go.Proofs.YtoldpdhhfmlckaaGreat
end
section
namespace Go.Proofs.YtoldpdhhfmlckaaGreat
open Go.Ev
set_option maxRecDepth 20000
theorem qr2 (k : Nat) (hk : 2000000 ≤ k) (fu : List (Nat × Nat)) (z z' : Bool) (l : List Int) (hl : (l.length : Int) ≤ 1048576) : ∀ (n i : Nat), i ≤ l.length → l.length - i < n →
    lp k laws_sameInts [] fu 4 (n) (qwu (i : Int) z l z' l) = some [.bool true]
  | 0, i, hi, hn => by omega
  | n + 1, i, hi, hn => by
    rw [qpk]
    by_cases g : i < l.length
    · have IH := qr2 k hk fu z z' l hl n (i + 1) (by omega) (by omega)
      simp (disch := omega) only [nI, dT, Bool.and_true, Int.toNat_natCast, dTT, Bool.not_true, qgp, q0l, IH, qhj, qhl]
    · simp (disch := omega) only [nI, dF, dT, Bool.and_false, Int.toNat_natCast, dTT, Bool.not_true, qgp, q0l, qhj]
theorem qd0 (k : Nat) (hk : 2000000 ≤ k) (z z' : Bool) (l : List Int) (hl : (l.length : Int) ≤ 1048576) : go (k + 1) laws_sameInts [.arr false z (.ints .i64 l), .arr false z' (.ints .i64 l)] = some [.bool true] := by
  rw [qks]
  have e := qr2 k hk [] z z' l hl (k + 0) 0 (by omega) (by omega)
  rw [show ((0 : Nat) : Int) = 0 from rfl] at e
  simp (disch := omega) only [nI, dTT, Bool.not_true, qhj]
  exact e
theorem qvv (A B : Acts) (w : Wd) : ∀ n, (∀ i, i < n → A.getD i zz4 = B.getD i zz4) → runN A n w = runN B n w
  | 0, _ => rfl
  | n + 1, h => by
    unfold runN
    rw [qvv A B w n (fun i hi => h i (by omega)), h n (by omega)]
theorem qvx (A : Acts) (w : Wd) (n : Nat) (h : n ≤ A.length) : runN (A.take n) (A.take n).length w = runN A n w := by
  rw [List.length_take, Nat.min_eq_left h]
  refine qvv _ _ w n (fun i hi => ?_)
  rw [List.getD_eq_getElem?_getD, List.getD_eq_getElem?_getD, List.getElem?_take, if_pos hi]
theorem qr1 (k : Nat) (hk : 2000000 ≤ k) (fu : List (Nat × Nat)) (w : Wd) (G : Good w 0) (A : Acts) (hA : A.length ≤ 6) (oA : ∀ x ∈ A, Act1 x) : ∀ (n i : Nat) (x : Wd) (c : List Int), x = (runN A i w).1 → c = (runN A i w).2 → i ≤ A.length → A.length - i < n →
    lp (k + 15) laws_FnPrefixes [] fu 8 (n) (qwt (i : Int) false w.s.1 false w.s.2.1 false w.s.2.2 false w.b w.r w.p.bi w.p.bs w.p.bo w.p.rain w.p.loss w.p.dec w.p.high w.p.low w.p.every w.k w.ld.mi w.ld.mo w.ld.ti w.ld.ou w.f w.g false A false x.s.1 false x.s.2.1 false x.s.2.2 false x.b x.r x.p.bi x.p.bs x.p.bo x.p.rain x.p.loss x.p.dec x.p.high x.p.low x.p.every x.k x.ld.mi x.ld.mo x.ld.ti x.ld.ou x.f x.g false c) = some [.bool true]
  | 0, i, x, c, hx, hc, hi, hn => by omega
  | n + 1, i, x, c, hx, hc, hi, hn => by
    rw [qpj]
    have Gx : Good x (0 + 20 * i) := by rw [hx]; exact qvt oA G i hi (by omega)
    have cl : c.length = i := by rw [hc]; exact qvu A i w
    have S := Gx.F.sml
    by_cases g : i < A.length
    · have o := oA _ (qnw g zz4)
      have eD := qbu (k + 1) (by omega) x (A.getD i zz4).1 (A.getD i zz4).2.1 (A.getD i zz4).2.2.1 (A.getD i zz4).2.2.2 S
      have D := Gx.do (by omega) o
      have e1 : (runN A (i + 1) w).1 = (doW x (A.getD i zz4).1 (A.getD i zz4).2.1 (A.getD i zz4).2.2.1 (A.getD i zz4).2.2.2).1 := by rw [hx]; rfl
      have e2 : (runN A (i + 1) w).2 = c ++ [(doW x (A.getD i zz4).1 (A.getD i zz4).2.1 (A.getD i zz4).2.2.1 (A.getD i zz4).2.2.2).2] := by rw [hx, hc]; rfl
      obtain ⟨y, hy⟩ : ∃ y, y = doW x (A.getD i zz4).1 (A.getD i zz4).2.1 (A.getD i zz4).2.2.1 (A.getD i zz4).2.2.2 := ⟨_, rfl⟩
      rw [← hy] at eD D e1 e2
      have eW := qfe (k + 7) (by omega) y.1 D.1.F.sml
      rw [D.1.ok (by omega)] at eW
      have IH := qr1 k hk fu w G A hA oA n (i + 1) y.1 (c ++ [y.2]) e1.symm e2.symm (by omega) (by omega)
      have la : (c ++ [y.2]).length = i + 1 := by rw [List.length_append, cl]; rfl
      have y2 := D.2
      simp (disch := omega) only [nI, dT, Bool.and_true, Int.toNat_natCast, eD, big0, bit, qgp, q0l, Bool.false_and, qa9, nth1, qzu, la, dF, nth0, qgr, qgs, qt3, quv, qg3, qob, qg5, qg6, qg7, qg8, qg9, qha, qhb, qgt, qgu, qgv, qgw, qgx, qgy, qgz, qg0, qg1, qg2, qg4, eW, IH, qzt, Bool.not_true, qhj, qhl]
    · have hi' : i = A.length := by omega
      have W0 := G.F.sml
      have ro : qvy w A = true := by unfold qvy; rw [G.ok (by omega), dT (by omega)]; rfl
      have rw' : runW w A = runN A A.length w := by unfold runW; rw [ro]; rfl
      have eR := qcc k (by omega) w false A W0 (by omega)
      rw [ro, rw', ← hi', ← hx, ← hc] at eR
      have eI := qd0 (k + 14) (by omega) false false c (by omega)
      have eS := qe3 (k + 12) (by omega) x x S
      rw [qxz] at eS
      simp (disch := omega) only [nI, dF, dT, Bool.and_false, Int.toNat_natCast, big0, bit, qgp, q0l, Bool.false_and, qhj, eR, Bool.not_true, qa9, nth1, qt3, qob, eI, nth0, qgr, qzu, qgs, quv, qg3, qg5, qg6, qg7, qg8, qg9, qha, qhb, qgt, qgu, qgv, qgw, qgx, qgy, qgz, qg0, qg1, qg2, qg4, eS, qzt, qhl]
theorem law_FnPrefixes (k : Nat) (hk : 2000000 ≤ k) (az : Bool) (a : List Int) : go (k + 16) laws_FnPrefixes [(.arr false (az) (.ints IntKind.u8 (a)))] = some [.bool true] := by
  by_cases h : 1048576 < (a.length : Int)
  · rw [qko]; simp (disch := omega) only [qdz, dT, bit, nI, Bool.true_and, qgp, qa9, nth0, qzt, qhl]
  have h : (a.length : Int) ≤ 1048576 := by omega
  obtain ⟨w, A, eD, G, hA, oA⟩ := qeh (k + 3) (by omega) az a h
  obtain ⟨P, eP, hP, pP⟩ := qei (k + 12) (by omega) az a h
  have S := G.F.sml
  have p0 := pP _ (qnw (show 0 < P.length by omega) 0)
  have t0 : Int.tmod (P.getD 0 0) ((A.length + 1 : Nat) : Int) = P.getD 0 0 % ((A.length + 1 : Nat) : Int) := Int.tmod_eq_emod_of_nonneg p0.1
  have t1 := Int.emod_nonneg (P.getD 0 0) (show ((A.length + 1 : Nat) : Int) ≠ 0 by omega)
  have t2 := Int.emod_lt_of_pos (P.getD 0 0) (show 0 < ((A.length + 1 : Nat) : Int) by omega)
  obtain ⟨i, hi⟩ : ∃ i : Nat, P.getD 0 0 % ((A.length + 1 : Nat) : Int) = (i : Int) := ⟨(P.getD 0 0 % ((A.length + 1 : Nat) : Int)).toNat, by omega⟩
  have iA : i ≤ A.length := by omega
  have ro : qvy w (A.take i) = true := by unfold qvy; rw [G.ok (by omega), dT (by rw [List.length_take]; omega)]; rfl
  have rw' : runW w (A.take i) = runN A i w := by unfold runW; rw [ro]; exact qvx A w i iA
  have eR := qcc k (by omega) w false (A.take i) S (by rw [List.length_take]; omega)
  rw [ro, rw'] at eR
  have IH := qr1 k hk [] w G A hA oA (k + 15) i _ _ rfl rfl iA (by omega)
  rw [qko]
  simp (disch := omega) only [qdz, dF, bit, eD, eP, dT, nI, Bool.true_and, qgp, show Int.toNat 0 = 0 from rfl, Nat.sub_zero, Nat.zero_add, List.drop_zero, qa9, nth0, qob, hP, qhl, nth1, quw, q0l, Bool.not_false, t0, hi, Bool.and_true, qgr, qzu, qgs, qt3, quv, qg3, qg5, qg6, qg7, qg8, qg9, qha, qhb, qgt, qgu, qgv, qgw, qgx, qgy, qgz, qg0, qg1, qg2, qg4, Int.toNat_natCast, eR, Bool.not_true, IH, qzt, qhj]
end Go.Proofs.YtoldpdhhfmlckaaGreat
end
