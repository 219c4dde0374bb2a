/- What the program's functions compute, and plain facts of it (part 1). No condition beyond those that each theorem states. -/
import Derived.Test.YtoldpdhhfmlckaaGreatQD3
set_option linter.unusedVariables false
set_option linter.unusedSimpArgs false
section
namespace Go.Proofs.YtoldpdhhfmlckaaGreat
open Go.Ev
theorem qhb (d0 d1 d2 d3 d4 d5 d6 d7 d8 d9 : D) (l : List D) : (D.agg (d0 :: d1 :: d2 :: d3 :: d4 :: d5 :: d6 :: d7 :: d8 :: d9 :: l)).cell 9 = d9 := Eq.trans rfl rfl
theorem qgt (d0 d1 d2 d3 d4 d5 d6 d7 d8 d9 d10 : D) (l : List D) : (D.agg (d0 :: d1 :: d2 :: d3 :: d4 :: d5 :: d6 :: d7 :: d8 :: d9 :: d10 :: l)).cell 10 = d10 := Eq.trans rfl rfl
theorem qgu (d0 d1 d2 d3 d4 d5 d6 d7 d8 d9 d10 d11 : D) (l : List D) : (D.agg (d0 :: d1 :: d2 :: d3 :: d4 :: d5 :: d6 :: d7 :: d8 :: d9 :: d10 :: d11 :: l)).cell 11 = d11 := Eq.trans rfl rfl
theorem qgv (d0 d1 d2 d3 d4 d5 d6 d7 d8 d9 d10 d11 d12 : D) (l : List D) : (D.agg (d0 :: d1 :: d2 :: d3 :: d4 :: d5 :: d6 :: d7 :: d8 :: d9 :: d10 :: d11 :: d12 :: l)).cell 12 = d12 := Eq.trans rfl rfl
theorem qgw (d0 d1 d2 d3 d4 d5 d6 d7 d8 d9 d10 d11 d12 d13 : D) (l : List D) : (D.agg (d0 :: d1 :: d2 :: d3 :: d4 :: d5 :: d6 :: d7 :: d8 :: d9 :: d10 :: d11 :: d12 :: d13 :: l)).cell 13 = d13 := Eq.trans rfl rfl
theorem qgx (d0 d1 d2 d3 d4 d5 d6 d7 d8 d9 d10 d11 d12 d13 d14 : D) (l : List D) : (D.agg (d0 :: d1 :: d2 :: d3 :: d4 :: d5 :: d6 :: d7 :: d8 :: d9 :: d10 :: d11 :: d12 :: d13 :: d14 :: l)).cell 14 = d14 := Eq.trans rfl rfl
theorem qgy (d0 d1 d2 d3 d4 d5 d6 d7 d8 d9 d10 d11 d12 d13 d14 d15 : D) (l : List D) : (D.agg (d0 :: d1 :: d2 :: d3 :: d4 :: d5 :: d6 :: d7 :: d8 :: d9 :: d10 :: d11 :: d12 :: d13 :: d14 :: d15 :: l)).cell 15 = d15 := Eq.trans rfl rfl
theorem qgz (d0 d1 d2 d3 d4 d5 d6 d7 d8 d9 d10 d11 d12 d13 d14 d15 d16 : D) (l : List D) : (D.agg (d0 :: d1 :: d2 :: d3 :: d4 :: d5 :: d6 :: d7 :: d8 :: d9 :: d10 :: d11 :: d12 :: d13 :: d14 :: d15 :: d16 :: l)).cell 16 = d16 := Eq.trans rfl rfl
theorem qg0 (d0 d1 d2 d3 d4 d5 d6 d7 d8 d9 d10 d11 d12 d13 d14 d15 d16 d17 : D) (l : List D) : (D.agg (d0 :: d1 :: d2 :: d3 :: d4 :: d5 :: d6 :: d7 :: d8 :: d9 :: d10 :: d11 :: d12 :: d13 :: d14 :: d15 :: d16 :: d17 :: l)).cell 17 = d17 := Eq.trans rfl rfl
theorem qg1 (d0 d1 d2 d3 d4 d5 d6 d7 d8 d9 d10 d11 d12 d13 d14 d15 d16 d17 d18 : D) (l : List D) : (D.agg (d0 :: d1 :: d2 :: d3 :: d4 :: d5 :: d6 :: d7 :: d8 :: d9 :: d10 :: d11 :: d12 :: d13 :: d14 :: d15 :: d16 :: d17 :: d18 :: l)).cell 18 = d18 := Eq.trans rfl rfl
theorem qg2 (d0 d1 d2 d3 d4 d5 d6 d7 d8 d9 d10 d11 d12 d13 d14 d15 d16 d17 d18 d19 : D) (l : List D) : (D.agg (d0 :: d1 :: d2 :: d3 :: d4 :: d5 :: d6 :: d7 :: d8 :: d9 :: d10 :: d11 :: d12 :: d13 :: d14 :: d15 :: d16 :: d17 :: d18 :: d19 :: l)).cell 19 = d19 := Eq.trans rfl rfl
theorem qg4 (d0 d1 d2 d3 d4 d5 d6 d7 d8 d9 d10 d11 d12 d13 d14 d15 d16 d17 d18 d19 d20 : D) (l : List D) : (D.agg (d0 :: d1 :: d2 :: d3 :: d4 :: d5 :: d6 :: d7 :: d8 :: d9 :: d10 :: d11 :: d12 :: d13 :: d14 :: d15 :: d16 :: d17 :: d18 :: d19 :: d20 :: l)).cell 20 = d20 := Eq.trans rfl rfl
theorem niF {α : Type} {a b : Nat} {i : Decidable (a = b)} {x y : α} (h : ¬ a = b) : @ite α (a = b) i x y = y := by cases i with | isTrue e => exact absurd e h | isFalse _ => rfl
theorem dFF {i : Decidable False} : @decide False i = false := by cases i with | isTrue h => exact h.elim | isFalse _ => rfl
end Go.Proofs.YtoldpdhhfmlckaaGreat
end
section
namespace Go.Proofs.YtoldpdhhfmlckaaGreat
open Go.Ev
theorem qmc (k : Nat) (a0 : Int) (a1z : Bool) (a1 : List (Int × Int × Int)) (b : Int) : go (k + 1) spec_l05Face [(.agg [(.int .i64 a0), (.arr false a1z (.r3 a1))]), (.int .i64 b)] =
 cond (decide ((0 : Int) ≤ b) && decide (b < nI (List.length a1)))
 (cond (decide ((0 : Int) ≤ IntKind.wrap .i64 (b + (1 : Int))) && decide (IntKind.wrap .i64 (b + (1 : Int)) < nI (List.length a1)))
 (some [(.int .i64 (if Prod.fst (Prod.snd (List.getD a1 (Int.toNat (IntKind.wrap .i64 (b + (1 : Int)))) zz3)) > Prod.fst (Prod.snd (List.getD a1 (Int.toNat b) zz3)) then Prod.fst (Prod.snd (List.getD a1 (Int.toNat (IntKind.wrap .i64 (b + (1 : Int)))) zz3)) else Prod.fst (Prod.snd (List.getD a1 (Int.toNat b) zz3))))])
 none)
 none := by kernel_rfl
theorem qlf (k : Nat) (a b : Int) : go (k + 1) spec_IsActive [(.int .i64 a), (.int .i64 b)] =
 (go k spec_WidthOf [(.int .i64 b)]).bind fun r0 =>
 cond (decide ((0 : Int) ≤ a))
 (cond (decide ((0 : Int) < D.toInt (nth r0 0)))
 (cond (!decide (D.toInt (nth r0 0) = (0 : Int)))
 (some [(.bool (decide (Int.tmod a (D.toInt (nth r0 0)) = (0 : Int))))])
 none)
 (some [(.bool false)]))
 (some [(.bool false)]) := by kernel_rfl
end Go.Proofs.YtoldpdhhfmlckaaGreat
end
section
namespace Go.Proofs.YtoldpdhhfmlckaaGreat
open Go.Ev
theorem qlz (k : Nat) (a0 : Int) (a1z : Bool) (a1 : List (Int × Int × Int)) (a2z : Bool) (a2 : List Int) (a3z : Bool) (a3 : List Int) (a4z : Bool) (a4 : List Int) : go (k + 1) spec_TotalMass [(.agg [(.int .i64 a0), (.arr false a1z (.r3 a1)), (.arr false a2z (.ints .i64 a2)), (.arr false a3z (.ints .i64 a3)), (.arr false a4z (.ints .i64 a4))])] =
 (go k spec_StateOk [(.agg [(.int .i64 a0), (.arr false a1z (.r3 a1)), (.arr false a2z (.ints .i64 a2)), (.arr false a3z (.ints .i64 a3)), (.arr false a4z (.ints .i64 a4))])]).bind fun r0 =>
 cond (!bit (nth r0 0))
 (some [(.int .i64 (0 : Int))])
 ((go k spec_l07Sum [(.arr false a2z (.ints .i64 a2))]).bind fun r1 =>
 some [(.int .i64 (D.toInt (nth r1 0)))]) := by kernel_rfl
end Go.Proofs.YtoldpdhhfmlckaaGreat
end
section
namespace Go.Proofs.YtoldpdhhfmlckaaGreat
open Go.Ev
theorem qmr (k : Nat) (a0 : Int) (a1z : Bool) (a1 : List (Int × Int × Int)) (a2z : Bool) (a2 : List Int) (a3z : Bool) (a3 : List Int) (a4z : Bool) (a4 : List Int) (b : Int) : go (k + 1) spec_l09Surface [(.agg [(.int .i64 a0), (.arr false a1z (.r3 a1)), (.arr false a2z (.ints .i64 a2)), (.arr false a3z (.ints .i64 a3)), (.arr false a4z (.ints .i64 a4))]), (.int .i64 b)] =
 cond (decide ((0 : Int) ≤ b) && decide (b < nI (List.length a1)))
 (cond (decide ((0 : Int) ≤ Prod.fst (List.getD a1 (Int.toNat b) zz3)) && decide (Prod.fst (List.getD a1 (Int.toNat b) zz3) < nI (List.length a4)))
 (cond (decide ((0 : Int) ≤ b) && decide (b < nI (List.length a2)))
 (cond (decide ((0 : Int) ≤ IntKind.wrap IntKind.u64 (Prod.fst (Prod.snd (List.getD a1 (Int.toNat b) zz3)))))
 (some [(.int .i64 (IntKind.wrap .i64 (List.getD a4 (Int.toNat (Prod.fst (List.getD a1 (Int.toNat b) zz3))) (0 : Int) + IntKind.wrap .i64 (List.getD a2 (Int.toNat b) (0 : Int) * (2 : Int) ^ shiftN .i64 (IntKind.wrap IntKind.u64 (Prod.fst (Prod.snd (List.getD a1 (Int.toNat b) zz3))))))))])
 none)
 none)
 none)
 none := by kernel_rfl
theorem qmp (k : Nat) (a b : Int) : go (k + 1) spec_l09Gap [(.int .i64 a), (.int .i64 b)] =
 cond (decide (b < a))
 (some [(.int .i64 (IntKind.wrap .i64 (a - b)))])
 (some [(.int .i64 (IntKind.wrap .i64 (b - a)))]) := by kernel_rfl

end Go.Proofs.YtoldpdhhfmlckaaGreat
end
section
namespace Go.Proofs.YtoldpdhhfmlckaaGreat
open Go.Ev
section
variable {r : Int} {l : List Cell} {m t b : List Int}
end
theorem qf4 (k : Nat) (hk : 2000000 ≤ k) (r : Int) (z1 z2 z3 z4 : Bool) (l : List Cell) (m t b : List Int) (F : StF r l m t b) (i : Nat) (hi : i < l.length) :
    go (k + 1) spec_l09Surface [.agg [.int .i64 r, .arr false z1 (.r3 l), .arr false z2 (.ints .i64 m), .arr false z3 (.ints .i64 t), .arr false z4 (.ints .i64 b)], .int .i64 (i : Int)] = some [.int .i64 (surf l m b i)] := by
  rw [qmr]
  have h1 := F.root hi; have h2 := F.ml; have h3 := F.bl; have h4 := F.lev i; have h5 := lev0 h4; have h6 := F.at i; have h7 := qza F i; have h8 := mulp h4 h6.1; have h9 := F.len
  unfold surf at h7 ⊢
  simp (disch := omega) only [dT, nI, Bool.and_true, Int.toNat_natCast, q0m, shp h4, q0l, qhl]
theorem qf2 (k : Nat) (hk : 2000000 ≤ k) (a : Int) (b : Int) (ha : -1000000000000 ≤ a ∧ a ≤ 1000000000000) (hb : -1000000000000 ≤ b ∧ b ≤ 1000000000000) : go (k + 1) spec_l09Gap [(.int .i64 (a)), (.int .i64 (b))] = some [.int .i64 (gap a b)] := by
  rw [qmp]
  unfold gap
  by_cases h : b < a
  · simp (disch := omega) only [dT, q0l, qhl]; rw [if_pos h]
  · simp (disch := omega) only [dF, q0l, qhj]; rw [if_neg h]
end Go.Proofs.YtoldpdhhfmlckaaGreat
end
section
namespace Go.Proofs.YtoldpdhhfmlckaaGreat
open Go.Ev
theorem q0g {l : Int} (h : inR l 0 4 = false) : q0d l = 0 := by simp [q0d, h]
theorem qep (k : Nat) (hk : 2000000 ≤ k) (a : Int) (b : Int) : go (k + 3) spec_IsActive [(.int .i64 (a)), (.int .i64 (b))] = some [.bool (qoc a b)] := by
  rw [qlf]
  simp (disch := omega) only [qe9, qa9, nth0, qzu]
  unfold qoc
  cases h : inR b 0 4
  · rw [q0g h]; cases decide ((0 : Int) ≤ a) <;> simp
  · have := q0h h
    simp (disch := omega) only [dT, dF, Bool.not_false, qhl, Bool.true_and]
    cases decide ((0 : Int) ≤ a) <;> simp
theorem qfq (k : Nat) (hk : 2000000 ≤ k) (a0 : Int) (a1z : Bool) (a1 : List Cell) (i : Nat) (hi : i + 1 < a1.length) (hl : (a1.length : Int) ≤ 1048576) : go (k + 1) spec_l05Face [.agg [.int .i64 a0, .arr false a1z (.r3 a1)], .int .i64 (i : Int)] = some [.int .i64 (qnh a1 i)] := by
  rw [qmc]
  simp (disch := omega) only [dT, nI, Bool.and_true, qgp, q0l, Int.toNat_natCast, imax, qhl]
  rfl
end Go.Proofs.YtoldpdhhfmlckaaGreat
end
section
namespace Go.Proofs.YtoldpdhhfmlckaaGreat
open Go.Ev
theorem qm6 (k : Nat) (a : Int) : go (k + 1) spec_l36Amount [(.int .i64 a)] =
 (go k spec_l01In [(.int .i64 a), (.int .i64 (0 : Int)), (.int .i64 ((1000000000000000 : Int)))]).bind fun r0 =>
 some [(.bool (bit (nth r0 0)))] := by kernel_rfl
theorem qkh (k : Nat) (a0 a1 a2 a3 : Int) : go (k + 1) impl_ledgerOk [(.agg [(.int .i64 a0), (.int .i64 a1), (.int .i64 a2), (.int .i64 a3)])] =
 (go k impl_within [(.int .i64 a0), (.int .i64 (0 : Int)), (.int .i64 ((1000000000000000 : Int)))]).bind fun r0 =>
 cond (bit (nth r0 0))
 ((go k impl_within [(.int .i64 a1), (.int .i64 (0 : Int)), (.int .i64 ((1000000000000000 : Int)))]).bind fun r1 =>
 cond (bit (nth r1 0))
 ((go k impl_within [(.int .i64 a2), (.int .i64 (0 : Int)), (.int .i64 ((1000000000000000 : Int)))]).bind fun r2 =>
 cond (bit (nth r2 0))
 ((go k impl_within [(.int .i64 a3), (.int .i64 (0 : Int)), (.int .i64 ((1000000000000000 : Int)))]).bind fun r3 =>
 some [(.bool (bit (nth r3 0)))])
 (some [(.bool false)]))
 (some [(.bool false)]))
 (some [(.bool false)]) := by kernel_rfl
theorem ql1 (k : Nat) (a0 : Int) (a1z : Bool) (a1 : List (Int × Int × Int)) (a2z : Bool) (a2 : List Int) (a3z : Bool) (a3 : List Int) (a4z : Bool) (a4 : List Int) (b0 b1 b2 b3 b4 b5 b6 b7 b8 : Int) : go (k + 1) spec_WorldNew [(.agg [(.int .i64 a0), (.arr false a1z (.r3 a1)), (.arr false a2z (.ints .i64 a2)), (.arr false a3z (.ints .i64 a3)), (.arr false a4z (.ints .i64 a4))]), (.agg [(.int .i64 b0), (.int .i64 b1), (.int .i64 b2), (.int .i64 b3), (.int .i64 b4), (.int .i64 b5), (.int .i64 b6), (.int .i64 b7), (.int .i64 b8)])] =
 (go k spec_StateOk [(.agg [(.int .i64 a0), (.arr false a1z (.r3 a1)), (.arr false a2z (.ints .i64 a2)), (.arr false a3z (.ints .i64 a3)), (.arr false a4z (.ints .i64 a4))])]).bind fun r0 =>
 cond (!bit (nth r0 0))
 (some [(.agg [(.int .i64 (0 : Int)), (.arr true true (.r3 [])), (.arr true true (.ints .i64 [])), (.arr true true (.ints .i64 [])), (.arr true true (.ints .i64 [])), (.int .i64 (0 : Int)), (.int .i64 (0 : Int)), (.int .i64 (0 : Int)), (.int .i64 (0 : Int)), (.int .i64 (0 : Int)), (.int .i64 (0 : Int)), (.int .i64 (0 : Int)), (.int .i64 (0 : Int)), (.int .i64 (0 : Int)), (.int .i64 (0 : Int)), (.int .i64 (0 : Int)), (.int .i64 (0 : Int)), (.int .i64 (0 : Int)), (.int .i64 (0 : Int)), (.int .i64 (0 : Int)), (.int .i64 (0 : Int))]), (.bool false)])
 ((go k spec_PlanOk [(.agg [(.int .i64 b0), (.int .i64 b1), (.int .i64 b2), (.int .i64 b3), (.int .i64 b4), (.int .i64 b5), (.int .i64 b6), (.int .i64 b7), (.int .i64 b8)])]).bind fun r1 =>
 cond (!bit (nth r1 0))
 (some [(.agg [(.int .i64 (0 : Int)), (.arr true true (.r3 [])), (.arr true true (.ints .i64 [])), (.arr true true (.ints .i64 [])), (.arr true true (.ints .i64 [])), (.int .i64 (0 : Int)), (.int .i64 (0 : Int)), (.int .i64 (0 : Int)), (.int .i64 (0 : Int)), (.int .i64 (0 : Int)), (.int .i64 (0 : Int)), (.int .i64 (0 : Int)), (.int .i64 (0 : Int)), (.int .i64 (0 : Int)), (.int .i64 (0 : Int)), (.int .i64 (0 : Int)), (.int .i64 (0 : Int)), (.int .i64 (0 : Int)), (.int .i64 (0 : Int)), (.int .i64 (0 : Int)), (.int .i64 (0 : Int))]), (.bool false)])
 ((go k spec_l07Copy [(.agg [(.int .i64 a0), (.arr false a1z (.r3 a1)), (.arr false a2z (.ints .i64 a2)), (.arr false a3z (.ints .i64 a3)), (.arr false a4z (.ints .i64 a4))])]).bind fun r2 =>
 (go k spec_l07Sum [(.arr false a2z (.ints .i64 a2))]).bind fun r3 =>
 (go k spec_l07Sum [(.arr false a3z (.ints .i64 a3))]).bind fun r4 =>
 some [(.agg [(.int .i64 (D.toInt (D.cell 0 (nth r2 0)))), (.arr true (D.nil (D.cell 1 (nth r2 0))) (.r3 (D.r3 (D.cell 1 (nth r2 0))))), (.arr true (D.nil (D.cell 2 (nth r2 0))) (.ints .i64 (D.ints (D.cell 2 (nth r2 0))))), (.arr true (D.nil (D.cell 3 (nth r2 0))) (.ints .i64 (D.ints (D.cell 3 (nth r2 0))))), (.arr true (D.nil (D.cell 4 (nth r2 0))) (.ints .i64 (D.ints (D.cell 4 (nth r2 0))))), (.int .i64 b0), (.int .i64 b1), (.int .i64 b2), (.int .i64 b3), (.int .i64 b4), (.int .i64 b5), (.int .i64 b6), (.int .i64 b7), (.int .i64 b8), (.int .i64 (0 : Int)), (.int .i64 (0 : Int)), (.int .i64 (0 : Int)), (.int .i64 (0 : Int)), (.int .i64 (0 : Int)), (.int .i64 (D.toInt (nth r3 0))), (.int .i64 (D.toInt (nth r4 0)))]), (.bool true)])) := by kernel_rfl

end Go.Proofs.YtoldpdhhfmlckaaGreat
end
section
namespace Go.Proofs.YtoldpdhhfmlckaaGreat
open Go.Ev
def qnd : D := .agg [.int .i64 0, .arr true true (.r3 []), .arr true true (.ints .i64 []), .arr true true (.ints .i64 []), .arr true true (.ints .i64 []), .int .i64 0, .int .i64 0, .int .i64 0, .int .i64 0, .int .i64 0, .int .i64 0, .int .i64 0, .int .i64 0, .int .i64 0, .int .i64 0, .int .i64 0, .int .i64 0, .int .i64 0, .int .i64 0, .int .i64 0, .int .i64 0]
def newW (r : Int) (l : List Cell) (m t b : List Int) (b0 b1 b2 b3 b4 b5 b6 b7 b8 : Int) : D := .agg [.int .i64 r, .arr true false (.r3 l), .arr true false (.ints .i64 m), .arr true false (.ints .i64 t), .arr true false (.ints .i64 b), .int .i64 b0, .int .i64 b1, .int .i64 b2, .int .i64 b3, .int .i64 b4, .int .i64 b5, .int .i64 b6, .int .i64 b7, .int .i64 b8, .int .i64 0, .int .i64 0, .int .i64 0, .int .i64 0, .int .i64 0, .int .i64 (isum m), .int .i64 (isum t)]
theorem qfb (k : Nat) (hk : 2000000 ≤ k) (a0 : Int) (a1 : List Cell) (a2 a3 a4 : List Int) (b0 b1 b2 b3 b4 b5 b6 b7 b8 : Int) (h1 : (a1.length : Int) ≤ 1048576) (h4 : (a4.length : Int) ≤ 1048576) :
    go (k + 8) spec_WorldNew [.agg [.int .i64 a0, .arr false false (.r3 a1), .arr false false (.ints .i64 a2), .arr false false (.ints .i64 a3), .arr false false (.ints .i64 a4)], .agg [.int .i64 b0, .int .i64 b1, .int .i64 b2, .int .i64 b3, .int .i64 b4, .int .i64 b5, .int .i64 b6, .int .i64 b7, .int .i64 b8]] =
    cond (stOk a0 a1 a2 a3 a4 && quq b0 b1 b2 b3 b4 b5 b6 b7 b8) (some [newW a0 a1 a2 a3 a4 b0 b1 b2 b3 b4 b5 b6 b7 b8, .bool true]) (some [qnd, .bool false]) := by
  rw [ql1]
  simp (disch := omega) only [qe7, bit, qew, qa9, nth0, qzt]
  cases g : stOk a0 a1 a2 a3 a4
  · rfl
  cases g2 : quq b0 b1 b2 b3 b4 b5 b6 b7 b8
  · rfl
  have F := stF.1 g
  have := F.len; have := F.ml; have := F.tl; have := F.bl; have := F.rr
  simp only [Bool.not_true, qhj]
  rw [qfy _ (by omega) _ _ (by omega) F.mmem, qfy _ (by omega) _ _ (by omega) F.tmem]
  simp (disch := omega) only [qfw, qa9, nth0, qzu, qgr, qgs, qt3, quv, qg3, qob, qg5, qg6, Bool.and_true, qhl]
  rfl
end Go.Proofs.YtoldpdhhfmlckaaGreat
end
section
namespace Go.Proofs.YtoldpdhhfmlckaaGreat
open Go.Ev
theorem ql2 (k : Nat) (a0 : Int) (a1z : Bool) (a1 : List (Int × Int × Int)) (a2z : Bool) (a2 : List Int) (a3z : Bool) (a3 : List Int) (a4z : Bool) (a4 : List Int) (a5 a6 a7 a8 a9 a10 a11 a12 a13 a14 a15 a16 a17 a18 a19 a20 : Int) : go (k + 1) spec_WorldOk [(.agg [(.int .i64 a0), (.arr false a1z (.r3 a1)), (.arr false a2z (.ints .i64 a2)), (.arr false a3z (.ints .i64 a3)), (.arr false a4z (.ints .i64 a4)), (.int .i64 a5), (.int .i64 a6), (.int .i64 a7), (.int .i64 a8), (.int .i64 a9), (.int .i64 a10), (.int .i64 a11), (.int .i64 a12), (.int .i64 a13), (.int .i64 a14), (.int .i64 a15), (.int .i64 a16), (.int .i64 a17), (.int .i64 a18), (.int .i64 a19), (.int .i64 a20)])] =
 (go k spec_StateOk [(.agg [(.int .i64 a0), (.arr false a1z (.r3 a1)), (.arr false a2z (.ints .i64 a2)), (.arr false a3z (.ints .i64 a3)), (.arr false a4z (.ints .i64 a4))])]).bind fun r0 =>
 cond (!bit (nth r0 0))
 (some [(.bool false)])
 ((go k spec_PlanOk [(.agg [(.int .i64 a5), (.int .i64 a6), (.int .i64 a7), (.int .i64 a8), (.int .i64 a9), (.int .i64 a10), (.int .i64 a11), (.int .i64 a12), (.int .i64 a13)])]).bind fun r1 =>
 cond (!bit (nth r1 0))
 (some [(.bool false)])
 ((go k spec_l01In [(.int .i64 a14), (.int .i64 (0 : Int)), (.int .i64 ((100000 : Int)))]).bind fun r2 =>
 cond (!bit (nth r2 0))
 (some [(.bool false)])
 ((go k spec_l36Amount [(.int .i64 a15)]).bind fun r3 =>
 cond (!bit (nth r3 0))
 (some [(.bool false)])
 ((go k spec_l36Amount [(.int .i64 a16)]).bind fun r4 =>
 cond (!bit (nth r4 0))
 (some [(.bool false)])
 ((go k spec_l36Amount [(.int .i64 a17)]).bind fun r5 =>
 cond (!bit (nth r5 0))
 (some [(.bool false)])
 ((go k spec_l36Amount [(.int .i64 a18)]).bind fun r6 =>
 cond (!bit (nth r6 0))
 (some [(.bool false)])
 ((go k spec_l07Sum [(.arr false a2z (.ints .i64 a2))]).bind fun r7 =>
 cond (decide (IntKind.wrap .i64 (IntKind.wrap .i64 (D.toInt (nth r7 0) - a15) + a16) = a19))
 ((go k spec_l07Sum [(.arr false a3z (.ints .i64 a3))]).bind fun r8 =>
 some [(.bool (decide (IntKind.wrap .i64 (IntKind.wrap .i64 (D.toInt (nth r8 0) - a17) + a18) = a20)))])
 (some [(.bool false)])))))))) := by kernel_rfl
theorem qj4 (k : Nat) (a0 : Int) (a1z : Bool) (a1 : List (Int × Int × Int)) (a2z : Bool) (a2 : List Int) (a3z : Bool) (a3 : List Int) (a4z : Bool) (a4 : List Int) (a5 a6 a7 a8 a9 a10 a11 a12 a13 a14 a15 a16 a17 a18 a19 a20 : Int) : go (k + 1) impl_WorldOk [(.agg [(.int .i64 a0), (.arr false a1z (.r3 a1)), (.arr false a2z (.ints .i64 a2)), (.arr false a3z (.ints .i64 a3)), (.arr false a4z (.ints .i64 a4)), (.int .i64 a5), (.int .i64 a6), (.int .i64 a7), (.int .i64 a8), (.int .i64 a9), (.int .i64 a10), (.int .i64 a11), (.int .i64 a12), (.int .i64 a13), (.int .i64 a14), (.int .i64 a15), (.int .i64 a16), (.int .i64 a17), (.int .i64 a18), (.int .i64 a19), (.int .i64 a20)])] =
 (go k impl_StateOk [(.agg [(.int .i64 a0), (.arr false a1z (.r3 a1)), (.arr false a2z (.ints .i64 a2)), (.arr false a3z (.ints .i64 a3)), (.arr false a4z (.ints .i64 a4))])]).bind fun r0 =>
 cond (bit (nth r0 0))
 ((go k impl_PlanOk [(.agg [(.int .i64 a5), (.int .i64 a6), (.int .i64 a7), (.int .i64 a8), (.int .i64 a9), (.int .i64 a10), (.int .i64 a11), (.int .i64 a12), (.int .i64 a13)])]).bind fun r1 =>
 cond (bit (nth r1 0))
 ((go k impl_within [(.int .i64 a14), (.int .i64 (0 : Int)), (.int .i64 ((100000 : Int)))]).bind fun r2 =>
 cond (bit (nth r2 0))
 ((go k impl_ledgerOk [(.agg [(.int .i64 a15), (.int .i64 a16), (.int .i64 a17), (.int .i64 a18)])]).bind fun r3 =>
 cond (bit (nth r3 0))
 ((go k impl_sum [(.arr false a2z (.ints .i64 a2))]).bind fun r4 =>
 cond (decide (a19 = IntKind.wrap .i64 (IntKind.wrap .i64 (D.toInt (nth r4 0) - a15) + a16)))
 ((go k impl_sum [(.arr false a3z (.ints .i64 a3))]).bind fun r5 =>
 some [(.bool (decide (a20 = IntKind.wrap .i64 (IntKind.wrap .i64 (D.toInt (nth r5 0) - a17) + a18))))])
 (some [(.bool false)]))
 (some [(.bool false)]))
 (some [(.bool false)]))
 (some [(.bool false)]))
 (some [(.bool false)]) := by kernel_rfl

end Go.Proofs.YtoldpdhhfmlckaaGreat
end
section
namespace Go.Proofs.YtoldpdhhfmlckaaGreat
open Go.Ev
theorem qge (k : Nat) (hk : 2000000 ≤ k) (a : Int) : go (k + 2) spec_l36Amount [(.int .i64 (a))] = some [.bool (inR a 0 1000000000000000)] := by
  rw [qm6]
  simp (disch := omega) only [qfj, bit, qa9, nth0, qzt]
theorem qdg (k : Nat) (hk : 2000000 ≤ k) (a0 : Int) (a1 : Int) (a2 : Int) (a3 : Int) : go (k + 2) impl_ledgerOk [(.agg [(.int .i64 (a0)), (.int .i64 (a1)), (.int .i64 (a2)), (.int .i64 (a3))])] = some [.bool (qqv a0 a1 a2 a3)] := by
  rw [qkh]
  simp (disch := omega) only [qdy, bit, qa9, nth0, qzt, qhn]
  rfl
theorem qn8 {a m : Int} (h : inR a 0 m = true) : 0 ≤ a ∧ a ≤ m := by
  simp only [inR, Bool.and_eq_true, decide_eq_true_eq] at h
  omega
theorem qhz (a b : Int) : decide (a = b) = decide (b = a) := decide_eq_decide.2 eq_comm
theorem qfd (k : Nat) (hk : 2000000 ≤ k) (a0 : Int) (a1z : Bool) (a1 : List (Int × Int × Int)) (a2z : Bool) (a2 : List Int) (a3z : Bool) (a3 : List Int) (a4z : Bool) (a4 : List Int) (a5 : Int) (a6 : Int) (a7 : Int) (a8 : Int) (a9 : Int) (a10 : Int) (a11 : Int) (a12 : Int) (a13 : Int) (a14 : Int) (a15 : Int) (a16 : Int) (a17 : Int) (a18 : Int) (a19 : Int) (a20 : Int) (h1 : (a1.length : Int) ≤ 1048576) (h4 : (a4.length : Int) ≤ 1048576) :
    go (k + 8) spec_WorldOk [(.agg [(.int .i64 (a0)), (.arr false (a1z) (.r3 (a1))), (.arr false (a2z) (.ints .i64 (a2))), (.arr false (a3z) (.ints .i64 (a3))), (.arr false (a4z) (.ints .i64 (a4))), (.int .i64 (a5)), (.int .i64 (a6)), (.int .i64 (a7)), (.int .i64 (a8)), (.int .i64 (a9)), (.int .i64 (a10)), (.int .i64 (a11)), (.int .i64 (a12)), (.int .i64 (a13)), (.int .i64 (a14)), (.int .i64 (a15)), (.int .i64 (a16)), (.int .i64 (a17)), (.int .i64 (a18)), (.int .i64 (a19)), (.int .i64 (a20))])] = some [.bool (q0j a0 a1 a2 a3 a4 a5 a6 a7 a8 a9 a10 a11 a12 a13 a14 a15 a16 a17 a18 a19 a20)] := by
  rw [ql2]
  simp (disch := omega) only [qe7, bit, qew, qfj, qge, qa9, nth0, qzt]
  simp only [q0j, qqv]
  cases g : stOk a0 a1 a2 a3 a4
  · rfl
  cases g2 : quq a5 a6 a7 a8 a9 a10 a11 a12 a13
  · rfl
  cases g3 : inR a14 0 100000
  · rfl
  cases g4 : inR a15 0 1000000000000000
  · rfl
  cases g5 : inR a16 0 1000000000000000
  · rfl
  cases g6 : inR a17 0 1000000000000000
  · rfl
  cases g7 : inR a18 0 1000000000000000
  · rfl
  have F := stF.1 g
  have := F.len; have := F.ml; have := F.tl; have := F.bl; have := F.rr
  have b4 := qn8 g4; have b5 := qn8 g5; have b6 := qn8 g6; have b7 := qn8 g7
  have s1 := qoh _ F.mmem; have s2 := qoh _ F.tmem
  simp only [Bool.not_true, qhj, Bool.true_and]
  rw [qfy _ (by omega) _ _ (by omega) F.mmem, qfy _ (by omega) _ _ (by omega) F.tmem]
  simp (disch := omega) only [qa9, nth0, qzu, q0l, qhn]
theorem qcr (k : Nat) (hk : 2000000 ≤ k) (a0 : Int) (a1z : Bool) (a1 : List (Int × Int × Int)) (a2z : Bool) (a2 : List Int) (a3z : Bool) (a3 : List Int) (a4z : Bool) (a4 : List Int) (a5 : Int) (a6 : Int) (a7 : Int) (a8 : Int) (a9 : Int) (a10 : Int) (a11 : Int) (a12 : Int) (a13 : Int) (a14 : Int) (a15 : Int) (a16 : Int) (a17 : Int) (a18 : Int) (a19 : Int) (a20 : Int) (h1 : (a1.length : Int) ≤ 1048576) (h4 : (a4.length : Int) ≤ 1048576) :
    go (k + 9) impl_WorldOk [(.agg [(.int .i64 (a0)), (.arr false (a1z) (.r3 (a1))), (.arr false (a2z) (.ints .i64 (a2))), (.arr false (a3z) (.ints .i64 (a3))), (.arr false (a4z) (.ints .i64 (a4))), (.int .i64 (a5)), (.int .i64 (a6)), (.int .i64 (a7)), (.int .i64 (a8)), (.int .i64 (a9)), (.int .i64 (a10)), (.int .i64 (a11)), (.int .i64 (a12)), (.int .i64 (a13)), (.int .i64 (a14)), (.int .i64 (a15)), (.int .i64 (a16)), (.int .i64 (a17)), (.int .i64 (a18)), (.int .i64 (a19)), (.int .i64 (a20))])] = some [.bool (q0j a0 a1 a2 a3 a4 a5 a6 a7 a8 a9 a10 a11 a12 a13 a14 a15 a16 a17 a18 a19 a20)] := by
  rw [qj4]
  simp (disch := omega) only [qck, bit, qca, qdy, qdg, qa9, nth0, qzt]
  simp only [q0j]
  cases g : stOk a0 a1 a2 a3 a4
  · rfl
  cases g2 : quq a5 a6 a7 a8 a9 a10 a11 a12 a13
  · rfl
  cases g3 : inR a14 0 100000
  · rfl
  cases g4 : qqv a15 a16 a17 a18
  · rfl
  have F := stF.1 g
  have := F.len; have := F.ml; have := F.tl; have := F.bl; have := F.rr
  have g4' := g4
  simp only [qqv, Bool.and_eq_true] at g4'
  obtain ⟨i1, i2, i3, i4⟩ := g4'
  have b4 := qn8 i1; have b5 := qn8 i2; have b6 := qn8 i3; have b7 := qn8 i4
  have s1 := qoh _ F.mmem; have s2 := qoh _ F.tmem
  simp only [qhl, Bool.true_and]
  rw [qdu _ (by omega) _ _ (by omega) F.mmem, qdu _ (by omega) _ _ (by omega) F.tmem]
  simp (disch := omega) only [qa9, nth0, qzu, q0l, qhn]
  rw [qhz a19, qhz a20]
end Go.Proofs.YtoldpdhhfmlckaaGreat
end
section
namespace Go.Proofs.YtoldpdhhfmlckaaGreat
open Go.Ev
theorem qip (k : Nat) (a0 : Int) (a1z : Bool) (a1 : List (Int × Int × Int)) (b : Int) : go (k + 1) impl_LeafAt [(.agg [(.int .i64 a0), (.arr false a1z (.r3 a1))]), (.int .i64 b)] =
 (go k impl_MeshOk [(.agg [(.int .i64 a0), (.arr false a1z (.r3 a1))])]).bind fun r0 =>
 cond (!bit (nth r0 0))
 (some [(.int .i64 ((-1 : Int)))])
 ((go k slices_IndexFunc_impl_Id_impl_Id [(.arr false a1z (.r3 a1)), (.fn impl_LeafAt_1 [(.ptr false [(.int .i64 b)])])]).bind fun r1 =>
 some [(.int .i64 (D.toInt (nth r1 0)))]) := by kernel_rfl
theorem qiq (k : Nat) (v0 v1 v2 v3 : Int) : go (k + 1) impl_LeafAt_1 [(.agg [(.int .i64 v0), (.int .i64 v1), (.int .i64 v2)]), (.ptr false [(.int .i64 v3)])] =
 (go k impl_StartOf [(.agg [(.int .i64 v0), (.int .i64 v1), (.int .i64 v2)])]).bind fun r0 =>
 cond (decide (D.toInt (nth r0 0) ≤ v3))
 ((go k impl_endOf [(.agg [(.int .i64 v0), (.int .i64 v1), (.int .i64 v2)])]).bind fun r1 =>
 some [(.bool (decide (v3 < D.toInt (nth r1 0))))])
 (some [(.bool false)]) := by kernel_rfl
def qwx (x0 x1 : Int) (z2 : Bool) (l3 : List (Int × Int × Int)) (x4 : Int) : St := ⟨fill 19 [(0, (.sl 0 none)), (1, (.fn impl_LeafAt_1 [(.ptr 1 0 0)])), (7, (.int .i64 x0)), (8, (.int .i64 x1))], [], [(.arr false z2 (.r3 l3)), (.box false [(.int .i64 x4)])]⟩
theorem qky (k : Nat) (v0 : Bool) (v1 : List (Int × Int × Int)) (v2 : Int) : go (k + 1) slices_IndexFunc_impl_Id_impl_Id [(.arr false v0 (.r3 v1)), (.fn impl_LeafAt_1 [(.ptr false [(.int .i64 v2)])])] =
 lp k slices_IndexFunc_impl_Id_impl_Id [] [] 2 k (qwx (nI (List.length v1)) (0 : Int) v0 v1 v2) := by kernel_rfl
theorem qpn (k n : Nat) (fu : List (Nat × Nat)) (x0 x1 : Int) (z2 : Bool) (l3 : List (Int × Int × Int)) (x4 : Int) : lp k slices_IndexFunc_impl_Id_impl_Id [] fu 2 (n + 1) (qwx x0 x1 z2 l3 x4) =
 cond (decide (x1 < x0))
 (cond (decide ((0 : Int) ≤ x1) && decide (x1 < nI (List.length l3)))
 ((go k impl_LeafAt_1 [(.agg [(.int .i64 (Prod.fst (List.getD l3 (Int.toNat x1) zz3))), (.int .i64 (Prod.fst (Prod.snd (List.getD l3 (Int.toNat x1) zz3)))), (.int .i64 (Prod.snd (Prod.snd (List.getD l3 (Int.toNat x1) zz3))))]), (.ptr false [(.int .i64 x4)])]).bind fun r0 =>
 cond (bit (nth r0 0))
 (some [(.int .i64 x1)])
 (lp k slices_IndexFunc_impl_Id_impl_Id [] fu 2 n (qwx x0 (IntKind.wrap .i64 (x1 + (1 : Int))) z2 l3 x4)))
 none)
 (some [(.int .i64 ((-1 : Int)))]) := by kernel_rfl
def qw7 (x0 x1 : Int) (z2 : Bool) (l3 : List (Int × Int × Int)) (x4 : Int) : St := ⟨fill 36 [(1, (.int .i64 x0)), (2, (.ptr 1 0 0)), (5, (.int .i64 x1))], [], [(.arr false z2 (.r3 l3)), (.box true [(.int .i64 x4), (.sl 0 none)])]⟩
theorem qli (k : Nat) (a0 : Int) (a1z : Bool) (a1 : List (Int × Int × Int)) (b : Int) : go (k + 1) spec_LeafAt [(.agg [(.int .i64 a0), (.arr false a1z (.r3 a1))]), (.int .i64 b)] =
 lp k spec_LeafAt [] [] 2 k (qw7 b (0 : Int) a1z a1 a0) := by kernel_rfl
theorem qpx (k n : Nat) (fu : List (Nat × Nat)) (x0 x1 : Int) (z2 : Bool) (l3 : List (Int × Int × Int)) (x4 : Int) : lp k spec_LeafAt [] fu 2 (n + 1) (qw7 x0 x1 z2 l3 x4) =
 cond (decide (x1 < nI (List.length l3)))
 ((go k spec_MeshOk [(.agg [(.int .i64 x4), (.arr false z2 (.r3 l3))])]).bind fun r0 =>
 cond (bit (nth r0 0))
 (cond (decide ((0 : Int) ≤ x1) && decide (x1 < nI (List.length l3)))
 ((go k spec_StartOf [(.agg [(.int .i64 (Prod.fst (List.getD l3 (Int.toNat x1) zz3))), (.int .i64 (Prod.fst (Prod.snd (List.getD l3 (Int.toNat x1) zz3)))), (.int .i64 (Prod.snd (Prod.snd (List.getD l3 (Int.toNat x1) zz3))))])]).bind fun r1 =>
 cond (decide (D.toInt (nth r1 0) ≤ x0))
 (cond (decide ((0 : Int) ≤ x1) && decide (x1 < nI (List.length l3)))
 ((go k spec_l04End [(.agg [(.int .i64 (Prod.fst (List.getD l3 (Int.toNat x1) zz3))), (.int .i64 (Prod.fst (Prod.snd (List.getD l3 (Int.toNat x1) zz3)))), (.int .i64 (Prod.snd (Prod.snd (List.getD l3 (Int.toNat x1) zz3))))])]).bind fun r2 =>
 cond (decide (x0 < D.toInt (nth r2 0)))
 (some [(.int .i64 x1)])
 (lp k spec_LeafAt [] fu 2 n (qw7 x0 (IntKind.wrap .i64 (x1 + (1 : Int))) z2 l3 x4)))
 none)
 (lp k spec_LeafAt [] fu 2 n (qw7 x0 (IntKind.wrap .i64 (x1 + (1 : Int))) z2 l3 x4)))
 none)
 (some [(.int .i64 ((-1 : Int)))]))
 (some [(.int .i64 ((-1 : Int)))]) := by kernel_rfl
end Go.Proofs.YtoldpdhhfmlckaaGreat
end
section
namespace Go.Proofs.YtoldpdhhfmlckaaGreat
open Go.Ev
abbrev cst (x : Cell) : Int := qyv x.1 x.2.1 x.2.2
def qqs (pos : Int) (l : List Cell) : Nat → Nat → Int
  | 0, _ => -1
  | n + 1, i => cond (decide (cst (l.getD i zz3) ≤ pos) && decide (pos < cst (l.getD i zz3) + q0d (l.getD i zz3).2.1)) (i : Int) (qqs pos l n (i + 1))
theorem qqt (pos : Int) (l : List Cell) : ∀ (n i : Nat), -1 ≤ qqs pos l n i ∧ qqs pos l n i < ((i + n : Nat) : Int) ∧ (0 ≤ qqs pos l n i → (i : Int) ≤ qqs pos l n i)
  | 0, i => by simp [qqs]; omega
  | n + 1, i => by
    have := qqt pos l n (i + 1)
    unfold qqs
    cases (decide (cst (l.getD i zz3) ≤ pos) && decide (pos < cst (l.getD i zz3) + q0d (l.getD i zz3).2.1))
    · simp only [qhj]; omega
    · simp only [qhl]; omega
def qqp (r : Int) (l : List Cell) (pos : Int) : Int := cond (qtl r 0 l) (qqs pos l l.length 0) (-1)
theorem qqq (r : Int) (l : List Cell) (pos : Int) : -1 ≤ qqp r l pos ∧ qqp r l pos < l.length := by
  unfold qqp
  cases qtl r 0 l
  · simp; omega
  · have := qqt pos l l.length 0; simp only [qhl]; omega
theorem qbh (k : Nat) (hk : 2000000 ≤ k) (a b c pos : Int) : go (k + 6) impl_LeafAt_1 [.agg [.int .i64 a, .int .i64 b, .int .i64 c], .ptr false [.int .i64 pos]] = some [.bool (decide (qyv a b c ≤ pos) && decide (pos < qyv a b c + q0d b))] := by
  rw [qiq]
  simp (disch := omega) only [qcj, qc5, qa9, nth0, qzu, qhn]
theorem qrh (k : Nat) (hk : 2000000 ≤ k) (fu : List (Nat × Nat)) (z : Bool) (l : List Cell) (pos : Int) (hl : (l.length : Int) ≤ 1048576) : ∀ (n i : Nat), i ≤ l.length → l.length - i < n →
    lp (k + 6) slices_IndexFunc_impl_Id_impl_Id [] fu 2 (n) (qwx (l.length : Int) (i : Int) z l pos) = some [.int .i64 (qqs pos l (l.length - i) i)]
  | 0, i, hi, hn => by omega
  | n + 1, i, hi, hn => by
    rw [qpn]
    by_cases h : i < l.length
    · have e := qrh k hk fu z l pos hl n (i + 1) (by omega) (by omega)
      rw [show l.length - i = (l.length - (i + 1)) + 1 by omega, qqs]
      simp (disch := omega) only [dT, nI, Bool.and_true, Int.toNat_natCast, qbh, bit, qgp, q0l, e, qa9, nth0, qzt, qhl, cst]
      cases (decide (qyv (l.getD i zz3).1 (l.getD i zz3).2.1 (l.getD i zz3).2.2 ≤ pos) && decide (pos < qyv (l.getD i zz3).1 (l.getD i zz3).2.1 (l.getD i zz3).2.2 + q0d (l.getD i zz3).2.1)) <;> rfl
    · simp (disch := omega) only [dF, dT, nI, Bool.and_false, Int.toNat_natCast, bit, qgp, q0l, qhj]
      rw [show l.length - i = 0 by omega]; rfl
theorem qb3 (k : Nat) (hk : 2000000 ≤ k) (a0 : Int) (a1z : Bool) (a1 : List (Int × Int × Int)) (b : Int) (hl : (a1.length : Int) ≤ 1048576) : go (k + 8) impl_LeafAt [(.agg [(.int .i64 (a0)), (.arr false (a1z) (.r3 (a1)))]), (.int .i64 (b))] = some [.int .i64 (qqp a0 a1 b)] := by
  rw [qip]
  simp (disch := omega) only [qb6, bit, qa9, nth0, qzt]
  unfold qqp
  cases qtl a0 0 a1
  · rfl
  rw [Bool.not_true, qhj, qky]
  have e := qrh k hk [] a1z a1 b hl (k + 6) 0 (by omega) (by omega)
  rw [show ((0 : Nat) : Int) = 0 from rfl] at e
  simp (disch := omega) only [nI, e, qa9, nth0, qzu, qhl]
  rfl
theorem qsh (k : Nat) (hk : 2000000 ≤ k) (fu : List (Nat × Nat)) (z : Bool) (r : Int) (l : List Cell) (pos : Int) (hl : (l.length : Int) ≤ 1048576) (hm : qtl r 0 l = true) : ∀ (n i : Nat), i ≤ l.length → l.length - i < n →
    lp (k + 5) spec_LeafAt [] fu 2 (n) (qw7 pos (i : Int) z l r) = some [.int .i64 (qqs pos l (l.length - i) i)]
  | 0, i, hi, hn => by omega
  | n + 1, i, hi, hn => by
    rw [qpx]
    by_cases h : i < l.length
    · have e := qsh k hk fu z r l pos hl hm n (i + 1) (by omega) (by omega)
      rw [show l.length - i = (l.length - (i + 1)) + 1 by omega, qqs]
      simp (disch := omega) only [nI, dT, qev, hm, bit, Bool.and_true, Int.toNat_natCast, qe6, qfm, qgp, q0l, e, qa9, nth0, qzu, qhl, qzt, cst]
      cases decide (qyv (l.getD i zz3).1 (l.getD i zz3).2.1 (l.getD i zz3).2.2 ≤ pos) <;> cases decide (pos < qyv (l.getD i zz3).1 (l.getD i zz3).2.1 (l.getD i zz3).2.2 + q0d (l.getD i zz3).2.1) <;> rfl
    · simp (disch := omega) only [nI, dF, bit, dT, Bool.and_false, Int.toNat_natCast, qgp, q0l, qhj]
      rw [show l.length - i = 0 by omega]; rfl
theorem qer (k : Nat) (hk : 2000000 ≤ k) (a0 : Int) (a1z : Bool) (a1 : List (Int × Int × Int)) (b : Int) (hl : (a1.length : Int) ≤ 1048576) : go (k + 6) spec_LeafAt [(.agg [(.int .i64 (a0)), (.arr false (a1z) (.r3 (a1)))]), (.int .i64 (b))] = some [.int .i64 (qqp a0 a1 b)] := by
  rw [qli]
  unfold qqp
  cases hm : qtl a0 0 a1
  · rw [show k + 5 = (k + 5 - 1) + 1 by omega]
    rw [show lp (k + 5 - 1 + 1) = lp (k + 5) by rw [show k + 5 - 1 + 1 = k + 5 by omega], qpx]
    by_cases h0 : 0 < a1.length
    · simp (disch := omega) only [nI, dT, qev, hm, bit, Bool.and_true, q0l, qhl, qa9, nth0, qzt, qhj]
    · simp (disch := omega) only [nI, dF, bit, dT, Bool.and_false, q0l, qhj]
  exact qsh k hk [] a1z a0 a1 b hl hm _ 0 (by omega) (by omega)
end Go.Proofs.YtoldpdhhfmlckaaGreat
end
section
namespace Go.Proofs.YtoldpdhhfmlckaaGreat
open Go.Ev
theorem qm7 (k : Nat) (a0 : Int) (a1z : Bool) (a1 : List (Int × Int × Int)) (a2z : Bool) (a2 : List Int) (a3z : Bool) (a3 : List Int) (a4z : Bool) (a4 : List Int) (a5 a6 a7 a8 a9 a10 a11 a12 a13 a14 a15 a16 a17 a18 a19 a20 : Int) : go (k + 1) spec_l36Copy [(.agg [(.int .i64 a0), (.arr false a1z (.r3 a1)), (.arr false a2z (.ints .i64 a2)), (.arr false a3z (.ints .i64 a3)), (.arr false a4z (.ints .i64 a4)), (.int .i64 a5), (.int .i64 a6), (.int .i64 a7), (.int .i64 a8), (.int .i64 a9), (.int .i64 a10), (.int .i64 a11), (.int .i64 a12), (.int .i64 a13), (.int .i64 a14), (.int .i64 a15), (.int .i64 a16), (.int .i64 a17), (.int .i64 a18), (.int .i64 a19), (.int .i64 a20)])] =
 (go k spec_l07Copy [(.agg [(.int .i64 a0), (.arr false a1z (.r3 a1)), (.arr false a2z (.ints .i64 a2)), (.arr false a3z (.ints .i64 a3)), (.arr false a4z (.ints .i64 a4))])]).bind fun r0 =>
 some [(.agg [(.int .i64 (D.toInt (D.cell 0 (nth r0 0)))), (.arr true (D.nil (D.cell 1 (nth r0 0))) (.r3 (D.r3 (D.cell 1 (nth r0 0))))), (.arr true (D.nil (D.cell 2 (nth r0 0))) (.ints .i64 (D.ints (D.cell 2 (nth r0 0))))), (.arr true (D.nil (D.cell 3 (nth r0 0))) (.ints .i64 (D.ints (D.cell 3 (nth r0 0))))), (.arr true (D.nil (D.cell 4 (nth r0 0))) (.ints .i64 (D.ints (D.cell 4 (nth r0 0))))), (.int .i64 a5), (.int .i64 a6), (.int .i64 a7), (.int .i64 a8), (.int .i64 a9), (.int .i64 a10), (.int .i64 a11), (.int .i64 a12), (.int .i64 a13), (.int .i64 a14), (.int .i64 a15), (.int .i64 a16), (.int .i64 a17), (.int .i64 a18), (.int .i64 a19), (.int .i64 a20)])] := by kernel_rfl
theorem qka (k : Nat) (a0 : Int) (a1z : Bool) (a1 : List (Int × Int × Int)) (a2z : Bool) (a2 : List Int) (a3z : Bool) (a3 : List Int) (a4z : Bool) (a4 : List Int) (a5 a6 a7 a8 a9 a10 a11 a12 a13 a14 a15 a16 a17 a18 a19 a20 : Int) : go (k + 1) impl_copyWorld [(.agg [(.int .i64 a0), (.arr false a1z (.r3 a1)), (.arr false a2z (.ints .i64 a2)), (.arr false a3z (.ints .i64 a3)), (.arr false a4z (.ints .i64 a4)), (.int .i64 a5), (.int .i64 a6), (.int .i64 a7), (.int .i64 a8), (.int .i64 a9), (.int .i64 a10), (.int .i64 a11), (.int .i64 a12), (.int .i64 a13), (.int .i64 a14), (.int .i64 a15), (.int .i64 a16), (.int .i64 a17), (.int .i64 a18), (.int .i64 a19), (.int .i64 a20)])] =
 (go k impl_copyState [(.agg [(.int .i64 a0), (.arr false a1z (.r3 a1)), (.arr false a2z (.ints .i64 a2)), (.arr false a3z (.ints .i64 a3)), (.arr false a4z (.ints .i64 a4))])]).bind fun r0 =>
 some [(.agg [(.int .i64 (D.toInt (D.cell 0 (nth r0 0)))), (.arr true (D.nil (D.cell 1 (nth r0 0))) (.r3 (D.r3 (D.cell 1 (nth r0 0))))), (.arr true (D.nil (D.cell 2 (nth r0 0))) (.ints .i64 (D.ints (D.cell 2 (nth r0 0))))), (.arr true (D.nil (D.cell 3 (nth r0 0))) (.ints .i64 (D.ints (D.cell 3 (nth r0 0))))), (.arr true (D.nil (D.cell 4 (nth r0 0))) (.ints .i64 (D.ints (D.cell 4 (nth r0 0))))), (.int .i64 a5), (.int .i64 a6), (.int .i64 a7), (.int .i64 a8), (.int .i64 a9), (.int .i64 a10), (.int .i64 a11), (.int .i64 a12), (.int .i64 a13), (.int .i64 a14), (.int .i64 a15), (.int .i64 a16), (.int .i64 a17), (.int .i64 a18), (.int .i64 a19), (.int .i64 a20)])] := by kernel_rfl
theorem qll (k : Nat) (a0 a1 a2 a3 b0 b1 b2 b3 : Int) : go (k + 1) spec_LedgerAdd [(.agg [(.int .i64 a0), (.int .i64 a1), (.int .i64 a2), (.int .i64 a3)]), (.agg [(.int .i64 b0), (.int .i64 b1), (.int .i64 b2), (.int .i64 b3)])] =
 some [(.agg [(.int .i64 (IntKind.wrap .i64 (a0 + b0))), (.int .i64 (IntKind.wrap .i64 (a1 + b1))), (.int .i64 (IntKind.wrap .i64 (a2 + b2))), (.int .i64 (IntKind.wrap .i64 (a3 + b3)))])] := by kernel_rfl
theorem qld (k : Nat) (a0 : Int) (a1z : Bool) (a1 : List (Int × Int × Int)) (a2z : Bool) (a2 : List Int) (a3z : Bool) (a3 : List Int) (a4z : Bool) (a4 : List Int) (a5 a6 a7 a8 a9 a10 a11 a12 a13 a14 a15 a16 a17 a18 a19 a20 b c d : Int) : go (k + 1) spec_Drop [(.agg [(.int .i64 a0), (.arr false a1z (.r3 a1)), (.arr false a2z (.ints .i64 a2)), (.arr false a3z (.ints .i64 a3)), (.arr false a4z (.ints .i64 a4)), (.int .i64 a5), (.int .i64 a6), (.int .i64 a7), (.int .i64 a8), (.int .i64 a9), (.int .i64 a10), (.int .i64 a11), (.int .i64 a12), (.int .i64 a13), (.int .i64 a14), (.int .i64 a15), (.int .i64 a16), (.int .i64 a17), (.int .i64 a18), (.int .i64 a19), (.int .i64 a20)]), (.int .i64 b), (.int .i64 c), (.int .i64 d)] =
 (go k spec_l36Copy [(.agg [(.int .i64 a0), (.arr false a1z (.r3 a1)), (.arr false a2z (.ints .i64 a2)), (.arr false a3z (.ints .i64 a3)), (.arr false a4z (.ints .i64 a4)), (.int .i64 a5), (.int .i64 a6), (.int .i64 a7), (.int .i64 a8), (.int .i64 a9), (.int .i64 a10), (.int .i64 a11), (.int .i64 a12), (.int .i64 a13), (.int .i64 a14), (.int .i64 a15), (.int .i64 a16), (.int .i64 a17), (.int .i64 a18), (.int .i64 a19), (.int .i64 a20)])]).bind fun r0 =>
 (go k spec_WorldOk [(.agg [(.int .i64 a0), (.arr false a1z (.r3 a1)), (.arr false a2z (.ints .i64 a2)), (.arr false a3z (.ints .i64 a3)), (.arr false a4z (.ints .i64 a4)), (.int .i64 a5), (.int .i64 a6), (.int .i64 a7), (.int .i64 a8), (.int .i64 a9), (.int .i64 a10), (.int .i64 a11), (.int .i64 a12), (.int .i64 a13), (.int .i64 a14), (.int .i64 a15), (.int .i64 a16), (.int .i64 a17), (.int .i64 a18), (.int .i64 a19), (.int .i64 a20)])]).bind fun r1 =>
 cond (!bit (nth r1 0))
 (some [(.agg [(.int .i64 (D.toInt (D.cell 0 (nth r0 0)))), (.arr true (D.nil (D.cell 1 (nth r0 0))) (.r3 (D.r3 (D.cell 1 (nth r0 0))))), (.arr true (D.nil (D.cell 2 (nth r0 0))) (.ints .i64 (D.ints (D.cell 2 (nth r0 0))))), (.arr true (D.nil (D.cell 3 (nth r0 0))) (.ints .i64 (D.ints (D.cell 3 (nth r0 0))))), (.arr true (D.nil (D.cell 4 (nth r0 0))) (.ints .i64 (D.ints (D.cell 4 (nth r0 0))))), (.int .i64 (D.toInt (D.cell 5 (nth r0 0)))), (.int .i64 (D.toInt (D.cell 6 (nth r0 0)))), (.int .i64 (D.toInt (D.cell 7 (nth r0 0)))), (.int .i64 (D.toInt (D.cell 8 (nth r0 0)))), (.int .i64 (D.toInt (D.cell 9 (nth r0 0)))), (.int .i64 (D.toInt (D.cell 10 (nth r0 0)))), (.int .i64 (D.toInt (D.cell 11 (nth r0 0)))), (.int .i64 (D.toInt (D.cell (12 : Nat) (nth r0 0)))), (.int .i64 (D.toInt (D.cell (13 : Nat) (nth r0 0)))), (.int .i64 (D.toInt (D.cell (14 : Nat) (nth r0 0)))), (.int .i64 (D.toInt (D.cell (15 : Nat) (nth r0 0)))), (.int .i64 (D.toInt (D.cell (16 : Nat) (nth r0 0)))), (.int .i64 (D.toInt (D.cell (17 : Nat) (nth r0 0)))), (.int .i64 (D.toInt (D.cell (18 : Nat) (nth r0 0)))), (.int .i64 (D.toInt (D.cell (19 : Nat) (nth r0 0)))), (.int .i64 (D.toInt (D.cell (20 : Nat) (nth r0 0))))]), (.bool false)])
 ((go k spec_l01In [(.int .i64 c), (.int .i64 ((1 : Int))), (.int .i64 ((10000 : Int)))]).bind fun r2 =>
 cond (!bit (nth r2 0))
 (some [(.agg [(.int .i64 (D.toInt (D.cell 0 (nth r0 0)))), (.arr true (D.nil (D.cell 1 (nth r0 0))) (.r3 (D.r3 (D.cell 1 (nth r0 0))))), (.arr true (D.nil (D.cell 2 (nth r0 0))) (.ints .i64 (D.ints (D.cell 2 (nth r0 0))))), (.arr true (D.nil (D.cell 3 (nth r0 0))) (.ints .i64 (D.ints (D.cell 3 (nth r0 0))))), (.arr true (D.nil (D.cell 4 (nth r0 0))) (.ints .i64 (D.ints (D.cell 4 (nth r0 0))))), (.int .i64 (D.toInt (D.cell 5 (nth r0 0)))), (.int .i64 (D.toInt (D.cell 6 (nth r0 0)))), (.int .i64 (D.toInt (D.cell 7 (nth r0 0)))), (.int .i64 (D.toInt (D.cell 8 (nth r0 0)))), (.int .i64 (D.toInt (D.cell 9 (nth r0 0)))), (.int .i64 (D.toInt (D.cell 10 (nth r0 0)))), (.int .i64 (D.toInt (D.cell 11 (nth r0 0)))), (.int .i64 (D.toInt (D.cell (12 : Nat) (nth r0 0)))), (.int .i64 (D.toInt (D.cell (13 : Nat) (nth r0 0)))), (.int .i64 (D.toInt (D.cell (14 : Nat) (nth r0 0)))), (.int .i64 (D.toInt (D.cell (15 : Nat) (nth r0 0)))), (.int .i64 (D.toInt (D.cell (16 : Nat) (nth r0 0)))), (.int .i64 (D.toInt (D.cell (17 : Nat) (nth r0 0)))), (.int .i64 (D.toInt (D.cell (18 : Nat) (nth r0 0)))), (.int .i64 (D.toInt (D.cell (19 : Nat) (nth r0 0)))), (.int .i64 (D.toInt (D.cell (20 : Nat) (nth r0 0))))]), (.bool false)])
 ((go k spec_l01In [(.int .i64 d), (.int .i64 (0 : Int)), (.int .i64 ((1000 : Int)))]).bind fun r3 =>
 cond (!bit (nth r3 0))
 (some [(.agg [(.int .i64 (D.toInt (D.cell 0 (nth r0 0)))), (.arr true (D.nil (D.cell 1 (nth r0 0))) (.r3 (D.r3 (D.cell 1 (nth r0 0))))), (.arr true (D.nil (D.cell 2 (nth r0 0))) (.ints .i64 (D.ints (D.cell 2 (nth r0 0))))), (.arr true (D.nil (D.cell 3 (nth r0 0))) (.ints .i64 (D.ints (D.cell 3 (nth r0 0))))), (.arr true (D.nil (D.cell 4 (nth r0 0))) (.ints .i64 (D.ints (D.cell 4 (nth r0 0))))), (.int .i64 (D.toInt (D.cell 5 (nth r0 0)))), (.int .i64 (D.toInt (D.cell 6 (nth r0 0)))), (.int .i64 (D.toInt (D.cell 7 (nth r0 0)))), (.int .i64 (D.toInt (D.cell 8 (nth r0 0)))), (.int .i64 (D.toInt (D.cell 9 (nth r0 0)))), (.int .i64 (D.toInt (D.cell 10 (nth r0 0)))), (.int .i64 (D.toInt (D.cell 11 (nth r0 0)))), (.int .i64 (D.toInt (D.cell (12 : Nat) (nth r0 0)))), (.int .i64 (D.toInt (D.cell (13 : Nat) (nth r0 0)))), (.int .i64 (D.toInt (D.cell (14 : Nat) (nth r0 0)))), (.int .i64 (D.toInt (D.cell (15 : Nat) (nth r0 0)))), (.int .i64 (D.toInt (D.cell (16 : Nat) (nth r0 0)))), (.int .i64 (D.toInt (D.cell (17 : Nat) (nth r0 0)))), (.int .i64 (D.toInt (D.cell (18 : Nat) (nth r0 0)))), (.int .i64 (D.toInt (D.cell (19 : Nat) (nth r0 0)))), (.int .i64 (D.toInt (D.cell (20 : Nat) (nth r0 0))))]), (.bool false)])
 ((go k spec_l07Sum [(.arr false a2z (.ints .i64 a2))]).bind fun r4 =>
 cond (decide ((10000000 : Int) < IntKind.wrap .i64 (D.toInt (nth r4 0) + c)))
 (some [(.agg [(.int .i64 (D.toInt (D.cell 0 (nth r0 0)))), (.arr true (D.nil (D.cell 1 (nth r0 0))) (.r3 (D.r3 (D.cell 1 (nth r0 0))))), (.arr true (D.nil (D.cell 2 (nth r0 0))) (.ints .i64 (D.ints (D.cell 2 (nth r0 0))))), (.arr true (D.nil (D.cell 3 (nth r0 0))) (.ints .i64 (D.ints (D.cell 3 (nth r0 0))))), (.arr true (D.nil (D.cell 4 (nth r0 0))) (.ints .i64 (D.ints (D.cell 4 (nth r0 0))))), (.int .i64 (D.toInt (D.cell 5 (nth r0 0)))), (.int .i64 (D.toInt (D.cell 6 (nth r0 0)))), (.int .i64 (D.toInt (D.cell 7 (nth r0 0)))), (.int .i64 (D.toInt (D.cell 8 (nth r0 0)))), (.int .i64 (D.toInt (D.cell 9 (nth r0 0)))), (.int .i64 (D.toInt (D.cell 10 (nth r0 0)))), (.int .i64 (D.toInt (D.cell 11 (nth r0 0)))), (.int .i64 (D.toInt (D.cell (12 : Nat) (nth r0 0)))), (.int .i64 (D.toInt (D.cell (13 : Nat) (nth r0 0)))), (.int .i64 (D.toInt (D.cell (14 : Nat) (nth r0 0)))), (.int .i64 (D.toInt (D.cell (15 : Nat) (nth r0 0)))), (.int .i64 (D.toInt (D.cell (16 : Nat) (nth r0 0)))), (.int .i64 (D.toInt (D.cell (17 : Nat) (nth r0 0)))), (.int .i64 (D.toInt (D.cell (18 : Nat) (nth r0 0)))), (.int .i64 (D.toInt (D.cell (19 : Nat) (nth r0 0)))), (.int .i64 (D.toInt (D.cell (20 : Nat) (nth r0 0))))]), (.bool false)])
 ((go k spec_LeafAt [(.agg [(.int .i64 a0), (.arr false a1z (.r3 a1))]), (.int .i64 b)]).bind fun r5 =>
 cond (decide (D.toInt (nth r5 0) < (0 : Int)))
 (some [(.agg [(.int .i64 (D.toInt (D.cell 0 (nth r0 0)))), (.arr true (D.nil (D.cell 1 (nth r0 0))) (.r3 (D.r3 (D.cell 1 (nth r0 0))))), (.arr true (D.nil (D.cell 2 (nth r0 0))) (.ints .i64 (D.ints (D.cell 2 (nth r0 0))))), (.arr true (D.nil (D.cell 3 (nth r0 0))) (.ints .i64 (D.ints (D.cell 3 (nth r0 0))))), (.arr true (D.nil (D.cell 4 (nth r0 0))) (.ints .i64 (D.ints (D.cell 4 (nth r0 0))))), (.int .i64 (D.toInt (D.cell 5 (nth r0 0)))), (.int .i64 (D.toInt (D.cell 6 (nth r0 0)))), (.int .i64 (D.toInt (D.cell 7 (nth r0 0)))), (.int .i64 (D.toInt (D.cell 8 (nth r0 0)))), (.int .i64 (D.toInt (D.cell 9 (nth r0 0)))), (.int .i64 (D.toInt (D.cell 10 (nth r0 0)))), (.int .i64 (D.toInt (D.cell 11 (nth r0 0)))), (.int .i64 (D.toInt (D.cell (12 : Nat) (nth r0 0)))), (.int .i64 (D.toInt (D.cell (13 : Nat) (nth r0 0)))), (.int .i64 (D.toInt (D.cell (14 : Nat) (nth r0 0)))), (.int .i64 (D.toInt (D.cell (15 : Nat) (nth r0 0)))), (.int .i64 (D.toInt (D.cell (16 : Nat) (nth r0 0)))), (.int .i64 (D.toInt (D.cell (17 : Nat) (nth r0 0)))), (.int .i64 (D.toInt (D.cell (18 : Nat) (nth r0 0)))), (.int .i64 (D.toInt (D.cell (19 : Nat) (nth r0 0)))), (.int .i64 (D.toInt (D.cell (20 : Nat) (nth r0 0))))]), (.bool false)])
 (cond (decide ((0 : Int) ≤ D.toInt (nth r5 0)) && decide (D.toInt (nth r5 0) < nI (List.length (D.ints (D.cell 2 (nth r0 0))))))
 (cond (decide ((0 : Int) ≤ D.toInt (nth r5 0)) && decide (D.toInt (nth r5 0) < nI (List.length (D.ints (D.cell 2 (nth r0 0))))))
 (cond (decide ((0 : Int) ≤ D.toInt (nth r5 0)) && decide (D.toInt (nth r5 0) < nI (List.length (D.ints (D.cell 3 (nth r0 0))))))
 (cond (decide ((0 : Int) ≤ D.toInt (nth r5 0)) && decide (D.toInt (nth r5 0) < nI (List.length (D.ints (D.cell 3 (nth r0 0))))))
 ((go k spec_LedgerAdd [(.agg [(.int .i64 (D.toInt (D.cell (15 : Nat) (nth r0 0)))), (.int .i64 (D.toInt (D.cell (16 : Nat) (nth r0 0)))), (.int .i64 (D.toInt (D.cell (17 : Nat) (nth r0 0)))), (.int .i64 (D.toInt (D.cell (18 : Nat) (nth r0 0))))]), (.agg [(.int .i64 c), (.int .i64 (0 : Int)), (.int .i64 (IntKind.wrap .i64 (c * d))), (.int .i64 (0 : Int))])]).bind fun r6 =>
 some [(.agg [(.int .i64 (D.toInt (D.cell 0 (nth r0 0)))), (.arr true (D.nil (D.cell 1 (nth r0 0))) (.r3 (D.r3 (D.cell 1 (nth r0 0))))), (.arr true (D.nil (D.cell 2 (nth r0 0))) (.ints .i64 (List.set (D.ints (D.cell 2 (nth r0 0))) (Int.toNat (D.toInt (nth r5 0))) (IntKind.wrap .i64 (List.getD (D.ints (D.cell 2 (nth r0 0))) (Int.toNat (D.toInt (nth r5 0))) (0 : Int) + c))))), (.arr true (D.nil (D.cell 3 (nth r0 0))) (.ints .i64 (List.set (D.ints (D.cell 3 (nth r0 0))) (Int.toNat (D.toInt (nth r5 0))) (IntKind.wrap .i64 (List.getD (D.ints (D.cell 3 (nth r0 0))) (Int.toNat (D.toInt (nth r5 0))) (0 : Int) + IntKind.wrap .i64 (c * d)))))), (.arr true (D.nil (D.cell 4 (nth r0 0))) (.ints .i64 (D.ints (D.cell 4 (nth r0 0))))), (.int .i64 (D.toInt (D.cell 5 (nth r0 0)))), (.int .i64 (D.toInt (D.cell 6 (nth r0 0)))), (.int .i64 (D.toInt (D.cell 7 (nth r0 0)))), (.int .i64 (D.toInt (D.cell 8 (nth r0 0)))), (.int .i64 (D.toInt (D.cell 9 (nth r0 0)))), (.int .i64 (D.toInt (D.cell 10 (nth r0 0)))), (.int .i64 (D.toInt (D.cell 11 (nth r0 0)))), (.int .i64 (D.toInt (D.cell (12 : Nat) (nth r0 0)))), (.int .i64 (D.toInt (D.cell (13 : Nat) (nth r0 0)))), (.int .i64 (D.toInt (D.cell (14 : Nat) (nth r0 0)))), (.int .i64 (D.toInt (D.cell 0 (nth r6 0)))), (.int .i64 (D.toInt (D.cell 1 (nth r6 0)))), (.int .i64 (D.toInt (D.cell 2 (nth r6 0)))), (.int .i64 (D.toInt (D.cell 3 (nth r6 0)))), (.int .i64 (D.toInt (D.cell (19 : Nat) (nth r0 0)))), (.int .i64 (D.toInt (D.cell (20 : Nat) (nth r0 0))))]), (.bool true)])
 none)
 none)
 none)
 none))))) := by kernel_rfl
theorem qih (k : Nat) (a0 : Int) (a1z : Bool) (a1 : List (Int × Int × Int)) (a2z : Bool) (a2 : List Int) (a3z : Bool) (a3 : List Int) (a4z : Bool) (a4 : List Int) (a5 a6 a7 a8 a9 a10 a11 a12 a13 a14 a15 a16 a17 a18 a19 a20 b c d : Int) : go (k + 1) impl_Drop [(.agg [(.int .i64 a0), (.arr false a1z (.r3 a1)), (.arr false a2z (.ints .i64 a2)), (.arr false a3z (.ints .i64 a3)), (.arr false a4z (.ints .i64 a4)), (.int .i64 a5), (.int .i64 a6), (.int .i64 a7), (.int .i64 a8), (.int .i64 a9), (.int .i64 a10), (.int .i64 a11), (.int .i64 a12), (.int .i64 a13), (.int .i64 a14), (.int .i64 a15), (.int .i64 a16), (.int .i64 a17), (.int .i64 a18), (.int .i64 a19), (.int .i64 a20)]), (.int .i64 b), (.int .i64 c), (.int .i64 d)] =
 (go k impl_copyWorld [(.agg [(.int .i64 a0), (.arr false a1z (.r3 a1)), (.arr false a2z (.ints .i64 a2)), (.arr false a3z (.ints .i64 a3)), (.arr false a4z (.ints .i64 a4)), (.int .i64 a5), (.int .i64 a6), (.int .i64 a7), (.int .i64 a8), (.int .i64 a9), (.int .i64 a10), (.int .i64 a11), (.int .i64 a12), (.int .i64 a13), (.int .i64 a14), (.int .i64 a15), (.int .i64 a16), (.int .i64 a17), (.int .i64 a18), (.int .i64 a19), (.int .i64 a20)])]).bind fun r0 =>
 (go k impl_LeafAt [(.agg [(.int .i64 a0), (.arr false a1z (.r3 a1))]), (.int .i64 b)]).bind fun r1 =>
 (go k impl_WorldOk [(.agg [(.int .i64 a0), (.arr false a1z (.r3 a1)), (.arr false a2z (.ints .i64 a2)), (.arr false a3z (.ints .i64 a3)), (.arr false a4z (.ints .i64 a4)), (.int .i64 a5), (.int .i64 a6), (.int .i64 a7), (.int .i64 a8), (.int .i64 a9), (.int .i64 a10), (.int .i64 a11), (.int .i64 a12), (.int .i64 a13), (.int .i64 a14), (.int .i64 a15), (.int .i64 a16), (.int .i64 a17), (.int .i64 a18), (.int .i64 a19), (.int .i64 a20)])]).bind fun r2 =>
 cond (!bit (nth r2 0))
 (some [(.agg [(.int .i64 (D.toInt (D.cell 0 (nth r0 0)))), (.arr true (D.nil (D.cell 1 (nth r0 0))) (.r3 (D.r3 (D.cell 1 (nth r0 0))))), (.arr true (D.nil (D.cell 2 (nth r0 0))) (.ints .i64 (D.ints (D.cell 2 (nth r0 0))))), (.arr true (D.nil (D.cell 3 (nth r0 0))) (.ints .i64 (D.ints (D.cell 3 (nth r0 0))))), (.arr true (D.nil (D.cell 4 (nth r0 0))) (.ints .i64 (D.ints (D.cell 4 (nth r0 0))))), (.int .i64 (D.toInt (D.cell 5 (nth r0 0)))), (.int .i64 (D.toInt (D.cell 6 (nth r0 0)))), (.int .i64 (D.toInt (D.cell 7 (nth r0 0)))), (.int .i64 (D.toInt (D.cell 8 (nth r0 0)))), (.int .i64 (D.toInt (D.cell 9 (nth r0 0)))), (.int .i64 (D.toInt (D.cell 10 (nth r0 0)))), (.int .i64 (D.toInt (D.cell 11 (nth r0 0)))), (.int .i64 (D.toInt (D.cell (12 : Nat) (nth r0 0)))), (.int .i64 (D.toInt (D.cell (13 : Nat) (nth r0 0)))), (.int .i64 (D.toInt (D.cell (14 : Nat) (nth r0 0)))), (.int .i64 (D.toInt (D.cell (15 : Nat) (nth r0 0)))), (.int .i64 (D.toInt (D.cell (16 : Nat) (nth r0 0)))), (.int .i64 (D.toInt (D.cell (17 : Nat) (nth r0 0)))), (.int .i64 (D.toInt (D.cell (18 : Nat) (nth r0 0)))), (.int .i64 (D.toInt (D.cell (19 : Nat) (nth r0 0)))), (.int .i64 (D.toInt (D.cell (20 : Nat) (nth r0 0))))]), (.bool false)])
 (cond (decide (D.toInt (nth r1 0) < (0 : Int)))
 (some [(.agg [(.int .i64 (D.toInt (D.cell 0 (nth r0 0)))), (.arr true (D.nil (D.cell 1 (nth r0 0))) (.r3 (D.r3 (D.cell 1 (nth r0 0))))), (.arr true (D.nil (D.cell 2 (nth r0 0))) (.ints .i64 (D.ints (D.cell 2 (nth r0 0))))), (.arr true (D.nil (D.cell 3 (nth r0 0))) (.ints .i64 (D.ints (D.cell 3 (nth r0 0))))), (.arr true (D.nil (D.cell 4 (nth r0 0))) (.ints .i64 (D.ints (D.cell 4 (nth r0 0))))), (.int .i64 (D.toInt (D.cell 5 (nth r0 0)))), (.int .i64 (D.toInt (D.cell 6 (nth r0 0)))), (.int .i64 (D.toInt (D.cell 7 (nth r0 0)))), (.int .i64 (D.toInt (D.cell 8 (nth r0 0)))), (.int .i64 (D.toInt (D.cell 9 (nth r0 0)))), (.int .i64 (D.toInt (D.cell 10 (nth r0 0)))), (.int .i64 (D.toInt (D.cell 11 (nth r0 0)))), (.int .i64 (D.toInt (D.cell (12 : Nat) (nth r0 0)))), (.int .i64 (D.toInt (D.cell (13 : Nat) (nth r0 0)))), (.int .i64 (D.toInt (D.cell (14 : Nat) (nth r0 0)))), (.int .i64 (D.toInt (D.cell (15 : Nat) (nth r0 0)))), (.int .i64 (D.toInt (D.cell (16 : Nat) (nth r0 0)))), (.int .i64 (D.toInt (D.cell (17 : Nat) (nth r0 0)))), (.int .i64 (D.toInt (D.cell (18 : Nat) (nth r0 0)))), (.int .i64 (D.toInt (D.cell (19 : Nat) (nth r0 0)))), (.int .i64 (D.toInt (D.cell (20 : Nat) (nth r0 0))))]), (.bool false)])
 ((go k impl_within [(.int .i64 c), (.int .i64 ((1 : Int))), (.int .i64 ((10000 : Int)))]).bind fun r3 =>
 cond (!bit (nth r3 0))
 (some [(.agg [(.int .i64 (D.toInt (D.cell 0 (nth r0 0)))), (.arr true (D.nil (D.cell 1 (nth r0 0))) (.r3 (D.r3 (D.cell 1 (nth r0 0))))), (.arr true (D.nil (D.cell 2 (nth r0 0))) (.ints .i64 (D.ints (D.cell 2 (nth r0 0))))), (.arr true (D.nil (D.cell 3 (nth r0 0))) (.ints .i64 (D.ints (D.cell 3 (nth r0 0))))), (.arr true (D.nil (D.cell 4 (nth r0 0))) (.ints .i64 (D.ints (D.cell 4 (nth r0 0))))), (.int .i64 (D.toInt (D.cell 5 (nth r0 0)))), (.int .i64 (D.toInt (D.cell 6 (nth r0 0)))), (.int .i64 (D.toInt (D.cell 7 (nth r0 0)))), (.int .i64 (D.toInt (D.cell 8 (nth r0 0)))), (.int .i64 (D.toInt (D.cell 9 (nth r0 0)))), (.int .i64 (D.toInt (D.cell 10 (nth r0 0)))), (.int .i64 (D.toInt (D.cell 11 (nth r0 0)))), (.int .i64 (D.toInt (D.cell (12 : Nat) (nth r0 0)))), (.int .i64 (D.toInt (D.cell (13 : Nat) (nth r0 0)))), (.int .i64 (D.toInt (D.cell (14 : Nat) (nth r0 0)))), (.int .i64 (D.toInt (D.cell (15 : Nat) (nth r0 0)))), (.int .i64 (D.toInt (D.cell (16 : Nat) (nth r0 0)))), (.int .i64 (D.toInt (D.cell (17 : Nat) (nth r0 0)))), (.int .i64 (D.toInt (D.cell (18 : Nat) (nth r0 0)))), (.int .i64 (D.toInt (D.cell (19 : Nat) (nth r0 0)))), (.int .i64 (D.toInt (D.cell (20 : Nat) (nth r0 0))))]), (.bool false)])
 ((go k impl_within [(.int .i64 d), (.int .i64 (0 : Int)), (.int .i64 ((1000 : Int)))]).bind fun r4 =>
 cond (!bit (nth r4 0))
 (some [(.agg [(.int .i64 (D.toInt (D.cell 0 (nth r0 0)))), (.arr true (D.nil (D.cell 1 (nth r0 0))) (.r3 (D.r3 (D.cell 1 (nth r0 0))))), (.arr true (D.nil (D.cell 2 (nth r0 0))) (.ints .i64 (D.ints (D.cell 2 (nth r0 0))))), (.arr true (D.nil (D.cell 3 (nth r0 0))) (.ints .i64 (D.ints (D.cell 3 (nth r0 0))))), (.arr true (D.nil (D.cell 4 (nth r0 0))) (.ints .i64 (D.ints (D.cell 4 (nth r0 0))))), (.int .i64 (D.toInt (D.cell 5 (nth r0 0)))), (.int .i64 (D.toInt (D.cell 6 (nth r0 0)))), (.int .i64 (D.toInt (D.cell 7 (nth r0 0)))), (.int .i64 (D.toInt (D.cell 8 (nth r0 0)))), (.int .i64 (D.toInt (D.cell 9 (nth r0 0)))), (.int .i64 (D.toInt (D.cell 10 (nth r0 0)))), (.int .i64 (D.toInt (D.cell 11 (nth r0 0)))), (.int .i64 (D.toInt (D.cell (12 : Nat) (nth r0 0)))), (.int .i64 (D.toInt (D.cell (13 : Nat) (nth r0 0)))), (.int .i64 (D.toInt (D.cell (14 : Nat) (nth r0 0)))), (.int .i64 (D.toInt (D.cell (15 : Nat) (nth r0 0)))), (.int .i64 (D.toInt (D.cell (16 : Nat) (nth r0 0)))), (.int .i64 (D.toInt (D.cell (17 : Nat) (nth r0 0)))), (.int .i64 (D.toInt (D.cell (18 : Nat) (nth r0 0)))), (.int .i64 (D.toInt (D.cell (19 : Nat) (nth r0 0)))), (.int .i64 (D.toInt (D.cell (20 : Nat) (nth r0 0))))]), (.bool false)])
 ((go k impl_sum [(.arr false a2z (.ints .i64 a2))]).bind fun r5 =>
 cond (decide ((10000000 : Int) < IntKind.wrap .i64 (D.toInt (nth r5 0) + c)))
 (some [(.agg [(.int .i64 (D.toInt (D.cell 0 (nth r0 0)))), (.arr true (D.nil (D.cell 1 (nth r0 0))) (.r3 (D.r3 (D.cell 1 (nth r0 0))))), (.arr true (D.nil (D.cell 2 (nth r0 0))) (.ints .i64 (D.ints (D.cell 2 (nth r0 0))))), (.arr true (D.nil (D.cell 3 (nth r0 0))) (.ints .i64 (D.ints (D.cell 3 (nth r0 0))))), (.arr true (D.nil (D.cell 4 (nth r0 0))) (.ints .i64 (D.ints (D.cell 4 (nth r0 0))))), (.int .i64 (D.toInt (D.cell 5 (nth r0 0)))), (.int .i64 (D.toInt (D.cell 6 (nth r0 0)))), (.int .i64 (D.toInt (D.cell 7 (nth r0 0)))), (.int .i64 (D.toInt (D.cell 8 (nth r0 0)))), (.int .i64 (D.toInt (D.cell 9 (nth r0 0)))), (.int .i64 (D.toInt (D.cell 10 (nth r0 0)))), (.int .i64 (D.toInt (D.cell 11 (nth r0 0)))), (.int .i64 (D.toInt (D.cell (12 : Nat) (nth r0 0)))), (.int .i64 (D.toInt (D.cell (13 : Nat) (nth r0 0)))), (.int .i64 (D.toInt (D.cell (14 : Nat) (nth r0 0)))), (.int .i64 (D.toInt (D.cell (15 : Nat) (nth r0 0)))), (.int .i64 (D.toInt (D.cell (16 : Nat) (nth r0 0)))), (.int .i64 (D.toInt (D.cell (17 : Nat) (nth r0 0)))), (.int .i64 (D.toInt (D.cell (18 : Nat) (nth r0 0)))), (.int .i64 (D.toInt (D.cell (19 : Nat) (nth r0 0)))), (.int .i64 (D.toInt (D.cell (20 : Nat) (nth r0 0))))]), (.bool false)])
 (cond (decide ((0 : Int) ≤ D.toInt (nth r1 0)) && decide (D.toInt (nth r1 0) < nI (List.length (D.ints (D.cell 2 (nth r0 0))))))
 (cond (decide ((0 : Int) ≤ D.toInt (nth r1 0)) && decide (D.toInt (nth r1 0) < nI (List.length (D.ints (D.cell 2 (nth r0 0))))))
 (cond (decide ((0 : Int) ≤ D.toInt (nth r1 0)) && decide (D.toInt (nth r1 0) < nI (List.length (D.ints (D.cell 3 (nth r0 0))))))
 (cond (decide ((0 : Int) ≤ D.toInt (nth r1 0)) && decide (D.toInt (nth r1 0) < nI (List.length (D.ints (D.cell 3 (nth r0 0))))))
 (some [(.agg [(.int .i64 (D.toInt (D.cell 0 (nth r0 0)))), (.arr true (D.nil (D.cell 1 (nth r0 0))) (.r3 (D.r3 (D.cell 1 (nth r0 0))))), (.arr true (D.nil (D.cell 2 (nth r0 0))) (.ints .i64 (List.set (D.ints (D.cell 2 (nth r0 0))) (Int.toNat (D.toInt (nth r1 0))) (IntKind.wrap .i64 (List.getD (D.ints (D.cell 2 (nth r0 0))) (Int.toNat (D.toInt (nth r1 0))) (0 : Int) + c))))), (.arr true (D.nil (D.cell 3 (nth r0 0))) (.ints .i64 (List.set (D.ints (D.cell 3 (nth r0 0))) (Int.toNat (D.toInt (nth r1 0))) (IntKind.wrap .i64 (List.getD (D.ints (D.cell 3 (nth r0 0))) (Int.toNat (D.toInt (nth r1 0))) (0 : Int) + IntKind.wrap .i64 (c * d)))))), (.arr true (D.nil (D.cell 4 (nth r0 0))) (.ints .i64 (D.ints (D.cell 4 (nth r0 0))))), (.int .i64 (D.toInt (D.cell 5 (nth r0 0)))), (.int .i64 (D.toInt (D.cell 6 (nth r0 0)))), (.int .i64 (D.toInt (D.cell 7 (nth r0 0)))), (.int .i64 (D.toInt (D.cell 8 (nth r0 0)))), (.int .i64 (D.toInt (D.cell 9 (nth r0 0)))), (.int .i64 (D.toInt (D.cell 10 (nth r0 0)))), (.int .i64 (D.toInt (D.cell 11 (nth r0 0)))), (.int .i64 (D.toInt (D.cell (12 : Nat) (nth r0 0)))), (.int .i64 (D.toInt (D.cell (13 : Nat) (nth r0 0)))), (.int .i64 (D.toInt (D.cell (14 : Nat) (nth r0 0)))), (.int .i64 (IntKind.wrap .i64 (D.toInt (D.cell (15 : Nat) (nth r0 0)) + c))), (.int .i64 (D.toInt (D.cell (16 : Nat) (nth r0 0)))), (.int .i64 (IntKind.wrap .i64 (D.toInt (D.cell (17 : Nat) (nth r0 0)) + IntKind.wrap .i64 (c * d)))), (.int .i64 (D.toInt (D.cell (18 : Nat) (nth r0 0)))), (.int .i64 (D.toInt (D.cell (19 : Nat) (nth r0 0)))), (.int .i64 (D.toInt (D.cell (20 : Nat) (nth r0 0))))]), (.bool true)])
 none)
 none)
 none)
 none))))) := by kernel_rfl

end Go.Proofs.YtoldpdhhfmlckaaGreat
end
section
namespace Go.Proofs.YtoldpdhhfmlckaaGreat
open Go.Ev
set_option maxRecDepth 20000
theorem qgf (k : Nat) (hk : 2000000 ≤ k) (a0 : Int) (a1z : Bool) (a1 : List (Int × Int × Int)) (a2z : Bool) (a2 : List Int) (a3z : Bool) (a3 : List Int) (a4z : Bool) (a4 : List Int) (a5 : Int) (a6 : Int) (a7 : Int) (a8 : Int) (a9 : Int) (a10 : Int) (a11 : Int) (a12 : Int) (a13 : Int) (a14 : Int) (a15 : Int) (a16 : Int) (a17 : Int) (a18 : Int) (a19 : Int) (a20 : Int) (h1 : (a1.length : Int) ≤ 1048576) (h2 : (a2.length : Int) ≤ 1048576) (h3 : (a3.length : Int) ≤ 1048576) (h4 : (a4.length : Int) ≤ 1048576) : go (k + 3) spec_l36Copy [(.agg [(.int .i64 (a0)), (.arr false (a1z) (.r3 (a1))), (.arr false (a2z) (.ints .i64 (a2))), (.arr false (a3z) (.ints .i64 (a3))), (.arr false (a4z) (.ints .i64 (a4))), (.int .i64 (a5)), (.int .i64 (a6)), (.int .i64 (a7)), (.int .i64 (a8)), (.int .i64 (a9)), (.int .i64 (a10)), (.int .i64 (a11)), (.int .i64 (a12)), (.int .i64 (a13)), (.int .i64 (a14)), (.int .i64 (a15)), (.int .i64 (a16)), (.int .i64 (a17)), (.int .i64 (a18)), (.int .i64 (a19)), (.int .i64 (a20))])] = some [.agg [.int .i64 (a0), .arr true false (.r3 (a1)), .arr true false (.ints .i64 (a2)), .arr true false (.ints .i64 (a3)), .arr true false (.ints .i64 (a4)), .int .i64 (a5), .int .i64 (a6), .int .i64 (a7), .int .i64 (a8), .int .i64 (a9), .int .i64 (a10), .int .i64 (a11), .int .i64 (a12), .int .i64 (a13), .int .i64 (a14), .int .i64 (a15), .int .i64 (a16), .int .i64 (a17), .int .i64 (a18), .int .i64 (a19), .int .i64 (a20)]] := by
  rw [qm7]
  simp (disch := omega) only [qfw, qa9, nth0, qgr, qzu, qgs, qt3, quv, qg3, qob, qg5, qg6]
theorem qc1 (k : Nat) (hk : 2000000 ≤ k) (a0 : Int) (a1 : List Cell) (a2 a3 a4 : List Int) (a5 a6 a7 a8 a9 a10 a11 a12 a13 a14 a15 a16 a17 a18 a19 a20 : Int) (h1 : (a1.length : Int) ≤ 1048576) (h2 : (a2.length : Int) ≤ 1048576) (h3 : (a3.length : Int) ≤ 1048576) (h4 : (a4.length : Int) ≤ 1048576) : go (k + 4) impl_copyWorld [.agg [.int .i64 (a0), .arr false false (.r3 (a1)), .arr false false (.ints .i64 (a2)), .arr false false (.ints .i64 (a3)), .arr false false (.ints .i64 (a4)), .int .i64 (a5), .int .i64 (a6), .int .i64 (a7), .int .i64 (a8), .int .i64 (a9), .int .i64 (a10), .int .i64 (a11), .int .i64 (a12), .int .i64 (a13), .int .i64 (a14), .int .i64 (a15), .int .i64 (a16), .int .i64 (a17), .int .i64 (a18), .int .i64 (a19), .int .i64 (a20)]] = some [.agg [.int .i64 (a0), .arr true false (.r3 (a1)), .arr true false (.ints .i64 (a2)), .arr true false (.ints .i64 (a3)), .arr true false (.ints .i64 (a4)), .int .i64 (a5), .int .i64 (a6), .int .i64 (a7), .int .i64 (a8), .int .i64 (a9), .int .i64 (a10), .int .i64 (a11), .int .i64 (a12), .int .i64 (a13), .int .i64 (a14), .int .i64 (a15), .int .i64 (a16), .int .i64 (a17), .int .i64 (a18), .int .i64 (a19), .int .i64 (a20)]] := by
  rw [qka]
  simp (disch := omega) only [qc0, qa9, nth0, qgr, qzu, qgs, qt3, quv, qg3, qob, qg5, qg6]
def qh1 (a0 : Int) (a1 : List Cell) (a2 a3 a4 : List Int) (a5 a6 a7 a8 a9 a10 a11 a12 a13 a14 a15 a16 a17 a18 a19 a20 pos c d : Int) : Bool :=
  q0j a0 a1 a2 a3 a4 a5 a6 a7 a8 a9 a10 a11 a12 a13 a14 a15 a16 a17 a18 a19 a20 && (inR c 1 10000 && (inR d 0 1000 && (decide (isum a2 + c ≤ 10000000) && decide (0 ≤ qqp a0 a1 pos))))
theorem q0k {a0 : Int} {a1 : List Cell} {a2 a3 a4 : List Int} {a5 a6 a7 a8 a9 a10 a11 a12 a13 a14 a15 a16 a17 a18 a19 a20 : Int} (h : q0j a0 a1 a2 a3 a4 a5 a6 a7 a8 a9 a10 a11 a12 a13 a14 a15 a16 a17 a18 a19 a20 = true) :
    StF a0 a1 a2 a3 a4 ∧ (0 ≤ a15 ∧ a15 ≤ 1000000000000000) ∧ (0 ≤ a16 ∧ a16 ≤ 1000000000000000) ∧ (0 ≤ a17 ∧ a17 ≤ 1000000000000000) ∧ (0 ≤ a18 ∧ a18 ≤ 1000000000000000) := by
  simp only [q0j, qqv, Bool.and_eq_true, qn9] at h
  exact ⟨stF.1 h.1, h.2.2.2.1.1, h.2.2.2.1.2.1, h.2.2.2.1.2.2.1, h.2.2.2.1.2.2.2⟩
theorem qty {c d : Int} (h1 : 1 ≤ c) (h2 : c ≤ 10000) (h3 : 0 ≤ d) (h4 : d ≤ 1000) : 0 ≤ c * d ∧ c * d ≤ 10000000 := by
  refine ⟨Int.mul_nonneg (by omega) h3, ?_⟩
  calc c * d ≤ 10000 * d := Int.mul_le_mul_of_nonneg_right h2 h3
    _ ≤ 10000 * 1000 := Int.mul_le_mul_of_nonneg_left h4 (by omega)
theorem qem (k : Nat) (hk : 2000000 ≤ k) (a0 : Int) (a1z : Bool) (a1 : List (Int × Int × Int)) (a2z : Bool) (a2 : List Int) (a3z : Bool) (a3 : List Int) (a4z : Bool) (a4 : List Int) (a5 : Int) (a6 : Int) (a7 : Int) (a8 : Int) (a9 : Int) (a10 : Int) (a11 : Int) (a12 : Int) (a13 : Int) (a14 : Int) (a15 : Int) (a16 : Int) (a17 : Int) (a18 : Int) (a19 : Int) (a20 : Int) (b : Int) (c : Int) (d : Int) (h1 : (a1.length : Int) ≤ 1048576) (h2 : (a2.length : Int) ≤ 1048576) (h3 : (a3.length : Int) ≤ 1048576) (h4 : (a4.length : Int) ≤ 1048576) :
    go (k + 9) spec_Drop [(.agg [(.int .i64 (a0)), (.arr false (a1z) (.r3 (a1))), (.arr false (a2z) (.ints .i64 (a2))), (.arr false (a3z) (.ints .i64 (a3))), (.arr false (a4z) (.ints .i64 (a4))), (.int .i64 (a5)), (.int .i64 (a6)), (.int .i64 (a7)), (.int .i64 (a8)), (.int .i64 (a9)), (.int .i64 (a10)), (.int .i64 (a11)), (.int .i64 (a12)), (.int .i64 (a13)), (.int .i64 (a14)), (.int .i64 (a15)), (.int .i64 (a16)), (.int .i64 (a17)), (.int .i64 (a18)), (.int .i64 (a19)), (.int .i64 (a20))]), (.int .i64 (b)), (.int .i64 (c)), (.int .i64 (d))] = cond (qh1 a0 a1 a2 a3 a4 a5 a6 a7 a8 a9 a10 a11 a12 a13 a14 a15 a16 a17 a18 a19 a20 b c d) (some [.agg [.int .i64 (a0), .arr true false (.r3 (a1)), .arr true false (.ints .i64 (a2.set (qqp a0 a1 b).toNat (a2.getD (qqp a0 a1 b).toNat 0 + c))), .arr true false (.ints .i64 (a3.set (qqp a0 a1 b).toNat (a3.getD (qqp a0 a1 b).toNat 0 + c * d))), .arr true false (.ints .i64 (a4)), .int .i64 (a5), .int .i64 (a6), .int .i64 (a7), .int .i64 (a8), .int .i64 (a9), .int .i64 (a10), .int .i64 (a11), .int .i64 (a12), .int .i64 (a13), .int .i64 (a14), .int .i64 (a15 + c), .int .i64 (a16), .int .i64 (a17 + c * d), .int .i64 (a18), .int .i64 (a19), .int .i64 (a20)], .bool true]) (some [.agg [.int .i64 (a0), .arr true false (.r3 (a1)), .arr true false (.ints .i64 (a2)), .arr true false (.ints .i64 (a3)), .arr true false (.ints .i64 (a4)), .int .i64 (a5), .int .i64 (a6), .int .i64 (a7), .int .i64 (a8), .int .i64 (a9), .int .i64 (a10), .int .i64 (a11), .int .i64 (a12), .int .i64 (a13), .int .i64 (a14), .int .i64 (a15), .int .i64 (a16), .int .i64 (a17), .int .i64 (a18), .int .i64 (a19), .int .i64 (a20)], .bool false]) := by
  rw [qld]
  simp (disch := omega) only [qgf, qfd, bit, qfj, nI, qa9, nth0, qzt, qgr, qzu, qgs, qt3, quv, qg3, qob, qg5, qg6, qg7, qg8, qg9, qha, qhb, qgt, qgu, qgv, qgw, qgx, qgy, qgz, qg0, qg1, qg2, qg4]
  unfold qh1
  cases g1 : q0j a0 a1 a2 a3 a4 a5 a6 a7 a8 a9 a10 a11 a12 a13 a14 a15 a16 a17 a18 a19 a20
  · simp only [Bool.not_false, qhl, qhj, Bool.false_and]
  cases g2 : inR c 1 10000
  · simp only [Bool.not_false, Bool.not_true, qhl, qhj, Bool.false_and, Bool.true_and]
  cases g3 : inR d 0 1000
  · simp only [Bool.not_false, Bool.not_true, qhl, qhj, Bool.false_and, Bool.true_and]
  obtain ⟨F, b1, b2, b3, b4⟩ := q0k g1
  have := F.len; have := F.ml; have := F.tl; have := F.bl; have := F.rr; have sm := F.msum
  have i2 := qn9.1 g2; have i3 := qn9.1 g3
  have mm := qty i2.1 i2.2 i3.1 i3.2
  have lf := qqq a0 a1 b
  simp only [Bool.not_true, qhj, Bool.true_and]
  rw [qfy _ (by omega) _ _ (by omega) F.mmem]
  by_cases q : isum a2 + c ≤ 10000000
  case neg => simp (disch := omega) only [q0l, qa9, nth0, qzu, dT, qhl, dF, Bool.false_and, qhj]
  by_cases q2 : 0 ≤ qqp a0 a1 b
  case neg => simp (disch := omega) only [qer, q0l, qa9, nth0, qzu, dT, dF, Bool.and_true, qhj, qhl, Bool.and_false]
  have fa := F.at (qqp a0 a1 b).toNat
  obtain ⟨i, hi⟩ : ∃ i : Nat, qqp a0 a1 b = (i : Int) := ⟨(qqp a0 a1 b).toNat, by omega⟩
  rw [hi] at fa
  rw [Int.toNat_natCast] at fa
  simp (disch := omega) only [qer, hi, q0l, qll, Int.add_zero, qa9, nth0, qgr, qzu, qgs, qg3, qg5, dF, dT, Bool.and_true, Int.toNat_natCast, qhl, qhj]
theorem qbv (k : Nat) (hk : 2000000 ≤ k) (a0 : Int) (a1 : List Cell) (a2 a3 a4 : List Int) (a5 a6 a7 a8 a9 a10 a11 a12 a13 a14 a15 a16 a17 a18 a19 a20 b c d : Int) (h1 : (a1.length : Int) ≤ 1048576) (h2 : (a2.length : Int) ≤ 1048576) (h3 : (a3.length : Int) ≤ 1048576) (h4 : (a4.length : Int) ≤ 1048576) :
    go (k + 10) impl_Drop [.agg [.int .i64 (a0), .arr false false (.r3 (a1)), .arr false false (.ints .i64 (a2)), .arr false false (.ints .i64 (a3)), .arr false false (.ints .i64 (a4)), .int .i64 (a5), .int .i64 (a6), .int .i64 (a7), .int .i64 (a8), .int .i64 (a9), .int .i64 (a10), .int .i64 (a11), .int .i64 (a12), .int .i64 (a13), .int .i64 (a14), .int .i64 (a15), .int .i64 (a16), .int .i64 (a17), .int .i64 (a18), .int .i64 (a19), .int .i64 (a20)], .int .i64 b, .int .i64 c, .int .i64 d] = cond (qh1 a0 a1 a2 a3 a4 a5 a6 a7 a8 a9 a10 a11 a12 a13 a14 a15 a16 a17 a18 a19 a20 b c d) (some [.agg [.int .i64 (a0), .arr true false (.r3 (a1)), .arr true false (.ints .i64 (a2.set (qqp a0 a1 b).toNat (a2.getD (qqp a0 a1 b).toNat 0 + c))), .arr true false (.ints .i64 (a3.set (qqp a0 a1 b).toNat (a3.getD (qqp a0 a1 b).toNat 0 + c * d))), .arr true false (.ints .i64 (a4)), .int .i64 (a5), .int .i64 (a6), .int .i64 (a7), .int .i64 (a8), .int .i64 (a9), .int .i64 (a10), .int .i64 (a11), .int .i64 (a12), .int .i64 (a13), .int .i64 (a14), .int .i64 (a15 + c), .int .i64 (a16), .int .i64 (a17 + c * d), .int .i64 (a18), .int .i64 (a19), .int .i64 (a20)], .bool true]) (some [.agg [.int .i64 (a0), .arr true false (.r3 (a1)), .arr true false (.ints .i64 (a2)), .arr true false (.ints .i64 (a3)), .arr true false (.ints .i64 (a4)), .int .i64 (a5), .int .i64 (a6), .int .i64 (a7), .int .i64 (a8), .int .i64 (a9), .int .i64 (a10), .int .i64 (a11), .int .i64 (a12), .int .i64 (a13), .int .i64 (a14), .int .i64 (a15), .int .i64 (a16), .int .i64 (a17), .int .i64 (a18), .int .i64 (a19), .int .i64 (a20)], .bool false]) := by
  rw [qih]
  simp (disch := omega) only [qc1, qb3, qcr, bit, qdy, nI, qa9, nth0, qzt, qzu, qgr, qgs, qt3, quv, qg3, qob, qg5, qg6, qg7, qg8, qg9, qha, qhb, qgt, qgu, qgv, qgw, qgx, qgy, qgz, qg0, qg1, qg2, qg4]
  unfold qh1
  have lf := qqq a0 a1 b
  cases g1 : q0j a0 a1 a2 a3 a4 a5 a6 a7 a8 a9 a10 a11 a12 a13 a14 a15 a16 a17 a18 a19 a20
  · simp only [Bool.not_false, qhl, qhj, Bool.false_and]
  by_cases q2 : 0 ≤ qqp a0 a1 b
  case neg => simp (disch := omega) only [Bool.not_true, dT, dF, Bool.and_true, qhj, qhl, Bool.and_false]
  cases g2 : inR c 1 10000
  · simp (disch := omega) only [Bool.not_true, dF, Bool.not_false, dT, Bool.true_and, qhl, qhj, Bool.and_true, Bool.false_and, Bool.and_false]
  cases g3 : inR d 0 1000
  · simp (disch := omega) only [Bool.not_true, dF, Bool.not_false, dT, Bool.true_and, qhl, qhj, Bool.and_true, Bool.false_and, Bool.and_false]
  obtain ⟨F, b1, b2, b3, b4⟩ := q0k g1
  have := F.len; have := F.ml; have := F.tl; have := F.bl; have := F.rr; have sm := F.msum
  have i2 := qn9.1 g2; have i3 := qn9.1 g3
  have mm := qty i2.1 i2.2 i3.1 i3.2
  simp (disch := omega) only [Bool.not_true, dF, dT, Bool.and_true, q0l, qhl, qhj, Bool.true_and]
  rw [qdu _ (by omega) _ _ (by omega) F.mmem]
  by_cases q : isum a2 + c ≤ 10000000
  case neg => simp (disch := omega) only [qa9, nth0, qzu, q0l, dT, qhl, dF, qhj]
  have fa := F.at (qqp a0 a1 b).toNat
  obtain ⟨i, hi⟩ : ∃ i : Nat, qqp a0 a1 b = (i : Int) := ⟨(qqp a0 a1 b).toNat, by omega⟩
  rw [hi] at fa
  rw [Int.toNat_natCast] at fa
  simp (disch := omega) only [hi, Int.toNat_natCast, q0l, qa9, nth0, qzu, dF, qhj, dT, qhl]
end Go.Proofs.YtoldpdhhfmlckaaGreat
end
section
namespace Go.Proofs.YtoldpdhhfmlckaaGreat
open Go.Ev
def Tk (tk : Int) (l : List Cell) (m t b : List Int) (k j : Nat) : Int := t.getD j 0 - (if j < k then outA tk l m t b j + outB tk l m t b j else 0) + (if 1 ≤ j ∧ j ≤ k then outA tk l m t b (j - 1) else 0) + (if j + 1 < k then outB tk l m t b (j + 1) else 0)
theorem qz6 {G : Nat → Int} {i : Nat} {A B : Int} (g : 1 ≤ i) : (fun j => if j = i - 1 then G (i - 1) + B else if j = i + 1 then G (i + 1) + A else if j = i then G i - A - B else G j) = upd G i A B := by
  funext j
  unfold upd
  by_cases q1 : j = i - 1
  · rw [if_pos q1, if_pos ⟨g, q1⟩, q1]
  · rw [if_neg q1, if_neg (show ¬ (1 ≤ i ∧ j = i - 1) from fun hh => q1 hh.2)]
    by_cases q2 : j = i + 1
    · rw [if_pos q2, if_pos q2, q2]
    · rw [if_neg q2, if_neg q2]
      by_cases q3 : j = i
      · rw [if_pos q3, if_pos q3, q3]
      · rw [if_neg q3, if_neg q3]
theorem qz5 {G : Nat → Int} {i : Nat} {A B : Int} (hB : B = 0) : (fun j => if j = i + 1 then G (i + 1) + A else if j = i then G i - A - B else G j) = upd G i A B := by
  funext j
  unfold upd
  by_cases q1 : 1 ≤ i ∧ j = i - 1
  · rw [if_pos q1, if_neg (by omega), if_neg (by omega), hB]; omega
  · rw [if_neg q1]
    by_cases q2 : j = i + 1
    · rw [if_pos q2, if_pos q2, q2]
    · rw [if_neg q2, if_neg q2]
      by_cases q3 : j = i
      · rw [if_pos q3, if_pos q3, q3]
      · rw [if_neg q3, if_neg q3]
theorem qz4 {G : Nat → Int} {i : Nat} {A B : Int} (g : 1 ≤ i) (hA : A = 0) : (fun j => if j = i - 1 then G (i - 1) + B else if j = i then G i - A - B else G j) = upd G i A B := by
  funext j
  unfold upd
  by_cases q1 : j = i - 1
  · rw [if_pos q1, if_pos ⟨g, q1⟩, q1]
  · rw [if_neg q1, if_neg (show ¬ (1 ≤ i ∧ j = i - 1) from fun hh => q1 hh.2)]
    by_cases q2 : j = i + 1
    · rw [if_pos q2, if_neg (by omega), hA]; omega
    · rw [if_neg q2]
      by_cases q3 : j = i
      · rw [if_pos q3, if_pos q3, q3]
      · rw [if_neg q3, if_neg q3]
theorem qz3 {G : Nat → Int} {i : Nat} {A B : Int} (hA : A = 0) (hB : B = 0) : (fun j => if j = i then G i - A - B else G j) = upd G i A B := by
  funext j
  unfold upd
  by_cases q1 : 1 ≤ i ∧ j = i - 1
  · rw [if_pos q1, if_neg (by omega), hB]; omega
  · rw [if_neg q1]
    by_cases q2 : j = i + 1
    · rw [if_pos q2, if_neg (by omega), hA]; omega
    · rw [if_neg q2]
      by_cases q3 : j = i
      · rw [if_pos q3, if_pos q3, q3]
      · rw [if_neg q3, if_neg q3]
theorem qam (tk : Int) (l : List Cell) (m t b : List Int) (i : Nat) (hi : i < l.length) :
    tab l.length (upd (Tk tk l m t b i) i (outA tk l m t b i) (outB tk l m t b i)) = tab l.length (Tk tk l m t b (i + 1)) := qzd fun j hj => by
  unfold upd
  by_cases g1 : 1 ≤ i ∧ j = i - 1
  · obtain ⟨g1, rfl⟩ := g1
    rw [if_pos ⟨g1, rfl⟩]
    unfold Tk
    rw [if_pos (show i - 1 < i by omega), if_neg (show ¬ (i - 1 + 1 < i) by omega), if_pos (show i - 1 < i + 1 by omega), if_pos (show i - 1 + 1 < i + 1 by omega), show i - 1 + 1 = i by omega]
    have e2 : (1 ≤ i - 1 ∧ i - 1 ≤ i) = (1 ≤ i - 1 ∧ i - 1 ≤ i + 1) := by rw [eq_iff_iff]; omega
    simp only [e2]; omega
  · rw [if_neg g1]
    by_cases g2 : j = i + 1
    · subst g2
      rw [if_pos rfl]
      unfold Tk
      rw [if_neg (show ¬ (i + 1 < i) by omega), if_neg (show ¬ (1 ≤ i + 1 ∧ i + 1 ≤ i) by omega), if_neg (show ¬ (i + 1 + 1 < i) by omega), if_neg (show ¬ (i + 1 < i + 1) by omega), if_pos (show 1 ≤ i + 1 ∧ i + 1 ≤ i + 1 by omega), if_neg (show ¬ (i + 1 + 1 < i + 1) by omega), Nat.add_sub_cancel]; omega
    · rw [if_neg g2]
      by_cases g3 : j = i
      · subst g3
        rw [if_pos rfl]
        unfold Tk
        rw [if_neg (show ¬ (j < j) by omega), if_neg (show ¬ (j + 1 < j) by omega), if_pos (show j < j + 1 by omega), if_neg (show ¬ (j + 1 < j + 1) by omega)]
        have e2 : (1 ≤ j ∧ j ≤ j) = (1 ≤ j ∧ j ≤ j + 1) := by rw [eq_iff_iff]; omega
        simp only [e2]; omega
      · rw [if_neg g3]
        unfold Tk
        have e1 : (j < i) = (j < i + 1) := by rw [eq_iff_iff]; omega
        have e2 : (1 ≤ j ∧ j ≤ i) = (1 ≤ j ∧ j ≤ i + 1) := by rw [eq_iff_iff]; omega
        have e3 : (j + 1 < i) = (j + 1 < i + 1) := by rw [eq_iff_iff]; omega
        simp only [e1, e2, e3]
theorem qal (tk : Int) (l : List Cell) (m t b : List Int) (hm : m.length = l.length) : tab l.length (Tk tk l m t b l.length) = tab l.length (stT tk l m t b) := qzd fun j hj => by
  unfold Tk stT
  rw [if_pos hj]
  have e2 : (1 ≤ j ∧ j ≤ l.length) = (1 ≤ j) := by rw [eq_iff_iff]; omega
  simp only [e2]
  by_cases g : j + 1 < l.length
  · rw [if_pos g]; omega
  · rw [if_neg g]
    have : outB tk l m t b (j + 1) = 0 := by
      apply que
      unfold lft
      rw [if_pos (by omega), Nat.add_sub_cancel, qnm (by omega)]; rfl
    omega
theorem qan (tk : Int) (l : List Cell) (m t b : List Int) (ht : t.length = l.length) : t = tab l.length (Tk tk l m t b 0) := by
  have h := qzg t
  rw [ht] at h
  refine h.trans (qzd fun j hj => ?_)
  unfold Tk
  rw [if_neg (by omega), if_neg (by omega), if_neg (by omega)]; omega
end Go.Proofs.YtoldpdhhfmlckaaGreat
end
section
namespace Go.Proofs.YtoldpdhhfmlckaaGreat
open Go.Ev
theorem qmq (k : Nat) (a b c d e f : Int) : go (k + 1) spec_l09Pair [(.int .i64 a), (.int .i64 b), (.int .i64 c), (.int .i64 d), (.int .i64 e), (.int .i64 f)] =
 (go k spec_WidthOf [(.int .i64 (if f > e then f else e))]).bind fun r0 =>
 (go k spec_WidthOf [(.int .i64 e)]).bind fun r1 =>
 (go k spec_WidthOf [(.int .i64 f)]).bind fun r2 =>
 (go k spec_DivTrunc [(.int .i64 (IntKind.wrap .i64 (IntKind.wrap .i64 (a - b) * D.toInt (nth r0 0)))), (.int .i64 (IntKind.wrap .i64 ((32 : Int) * IntKind.wrap .i64 (D.toInt (nth r1 0) + D.toInt (nth r2 0)))))]).bind fun r3 =>
 some [(.int .i64 (if IntKind.wrap .i64 ((0 : Int) - IntKind.wrap .i64 (Int.tdiv d (4 : Int))) > if IntKind.wrap .i64 (Int.tdiv c (4 : Int)) < D.toInt (nth r3 0) then IntKind.wrap .i64 (Int.tdiv c (4 : Int)) else D.toInt (nth r3 0) then IntKind.wrap .i64 ((0 : Int) - IntKind.wrap .i64 (Int.tdiv d (4 : Int))) else if IntKind.wrap .i64 (Int.tdiv c (4 : Int)) < D.toInt (nth r3 0) then IntKind.wrap .i64 (Int.tdiv c (4 : Int)) else D.toInt (nth r3 0)))] := by kernel_rfl
theorem qmo (k : Nat) (a0 : Int) (a1z : Bool) (a1 : List (Int × Int × Int)) (a2z : Bool) (a2 : List Int) (a3z : Bool) (a3 : List Int) (a4z : Bool) (a4 : List Int) (b : Int) : go (k + 1) spec_l09Flux [(.agg [(.int .i64 a0), (.arr false a1z (.r3 a1)), (.arr false a2z (.ints .i64 a2)), (.arr false a3z (.ints .i64 a3)), (.arr false a4z (.ints .i64 a4))]), (.int .i64 b)] =
 (go k spec_l09Surface [(.agg [(.int .i64 a0), (.arr false a1z (.r3 a1)), (.arr false a2z (.ints .i64 a2)), (.arr false a3z (.ints .i64 a3)), (.arr false a4z (.ints .i64 a4))]), (.int .i64 b)]).bind fun r0 =>
 (go k spec_l09Surface [(.agg [(.int .i64 a0), (.arr false a1z (.r3 a1)), (.arr false a2z (.ints .i64 a2)), (.arr false a3z (.ints .i64 a3)), (.arr false a4z (.ints .i64 a4))]), (.int .i64 (IntKind.wrap .i64 (b + (1 : Int))))]).bind fun r1 =>
 cond (decide ((0 : Int) ≤ b) && decide (b < nI (List.length a2)))
 (cond (decide ((0 : Int) ≤ IntKind.wrap .i64 (b + (1 : Int))) && decide (IntKind.wrap .i64 (b + (1 : Int)) < nI (List.length a2)))
 (cond (decide ((0 : Int) ≤ b) && decide (b < nI (List.length a1)))
 (cond (decide ((0 : Int) ≤ IntKind.wrap .i64 (b + (1 : Int))) && decide (IntKind.wrap .i64 (b + (1 : Int)) < nI (List.length a1)))
 ((go k spec_l09Pair [(.int .i64 (D.toInt (nth r0 0))), (.int .i64 (D.toInt (nth r1 0))), (.int .i64 (List.getD a2 (Int.toNat b) (0 : Int))), (.int .i64 (List.getD a2 (Int.toNat (IntKind.wrap .i64 (b + (1 : Int)))) (0 : Int))), (.int .i64 (Prod.fst (Prod.snd (List.getD a1 (Int.toNat b) zz3)))), (.int .i64 (Prod.fst (Prod.snd (List.getD a1 (Int.toNat (IntKind.wrap .i64 (b + (1 : Int)))) zz3))))]).bind fun r2 =>
 some [(.int .i64 (D.toInt (nth r2 0)))])
 none)
 none)
 none)
 none := by kernel_rfl
theorem qlk (k : Nat) (a b c d : Int) : go (k + 1) spec_LeafOut [(.int .i64 a), (.int .i64 b), (.int .i64 c), (.int .i64 d)] =
 (go k spec_l01In [(.int .i64 b), (.int .i64 ((1 : Int))), (.int .i64 ((10000000 : Int)))]).bind fun r0 =>
 cond (!bit (nth r0 0))
 (some [(.int .i64 (0 : Int)), (.int .i64 (0 : Int))])
 ((go k spec_l01In [(.int .i64 a), (.int .i64 (0 : Int)), (.int .i64 (IntKind.wrap .i64 ((1000 : Int) * b)))]).bind fun r1 =>
 cond (!bit (nth r1 0))
 (some [(.int .i64 (0 : Int)), (.int .i64 (0 : Int))])
 ((go k spec_l01In [(.int .i64 c), (.int .i64 (0 : Int)), (.int .i64 b)]).bind fun r2 =>
 cond (!bit (nth r2 0))
 (some [(.int .i64 (0 : Int)), (.int .i64 (0 : Int))])
 ((go k spec_l01In [(.int .i64 d), (.int .i64 (0 : Int)), (.int .i64 (IntKind.wrap .i64 (b - c)))]).bind fun r3 =>
 cond (!bit (nth r3 0))
 (some [(.int .i64 (0 : Int)), (.int .i64 (0 : Int))])
 ((go k spec_ShareOut [(.int .i64 a), (.int .i64 c), (.int .i64 b)]).bind fun r4 =>
 (go k spec_ShareOut [(.int .i64 a), (.int .i64 (IntKind.wrap .i64 (c + d))), (.int .i64 b)]).bind fun r5 =>
 some [(.int .i64 (D.toInt (nth r4 0))), (.int .i64 (IntKind.wrap .i64 (D.toInt (nth r5 0) - D.toInt (nth r4 0))))])))) := by kernel_rfl
theorem qlv (k : Nat) (a b c : Int) : go (k + 1) spec_ShareOut [(.int .i64 a), (.int .i64 b), (.int .i64 c)] =
 (go k spec_l01In [(.int .i64 c), (.int .i64 ((1 : Int))), (.int .i64 ((10000000 : Int)))]).bind fun r0 =>
 cond (!bit (nth r0 0))
 (some [(.int .i64 (0 : Int))])
 ((go k spec_l01In [(.int .i64 b), (.int .i64 (0 : Int)), (.int .i64 c)]).bind fun r1 =>
 cond (!bit (nth r1 0))
 (some [(.int .i64 (0 : Int))])
 ((go k spec_l01In [(.int .i64 a), (.int .i64 (0 : Int)), (.int .i64 (IntKind.wrap .i64 ((1000 : Int) * c)))]).bind fun r2 =>
 cond (!bit (nth r2 0))
 (some [(.int .i64 (0 : Int))])
 (cond (!decide (c = (0 : Int)))
 (some [(.int .i64 (IntKind.wrap .i64 (Int.tdiv (IntKind.wrap .i64 (a * b)) c)))])
 none))) := by kernel_rfl
theorem qk6 (k : Nat) (a b : Int) : go (k + 1) spec_DivTrunc [(.int .i64 a), (.int .i64 b)] =
 cond (decide (b ≤ (0 : Int)))
 (some [(.int .i64 (0 : Int))])
 (cond (!decide (b = (0 : Int)))
 (some [(.int .i64 (IntKind.wrap .i64 (Int.tdiv a b)))])
 none) := by kernel_rfl
def qxm (x0 : Int) (z1 : Bool) (l2 : List (Int × Int × Int)) (z3 : Bool) (l4 : List Int) (z5 : Bool) (l6 : List Int) (z7 : Bool) (l8 : List Int) (x9 : Int) (z10 : Bool) (l11 : List (Int × Int × Int)) (z12 : Bool) (l13 : List Int) (z14 : Bool) (l15 : List Int) (z16 : Bool) (l17 : List Int) (x18 : Int) (z19 : Bool) (l20 : List (Int × Int × Int)) (z21 : Bool) (l22 : List Int) (z23 : Bool) (l24 : List Int) (z25 : Bool) (l26 : List Int) (x27 : Int) (z28 : Bool) (l29 : List Int) : St := ⟨fill 151 [(2, (.ptr 4 0 0)), (4, (.ptr 9 0 0)), (5, (.ptr 14 0 0)), (6, (.sl 15 none)), (8, (.int .i64 x0))], [], [(.arr false z1 (.r3 l2)), (.arr false z3 (.ints .i64 l4)), (.arr false z5 (.ints .i64 l6)), (.arr false z7 (.ints .i64 l8)), (.box true [(.int .i64 x9), (.sl 0 none), (.sl 1 none), (.sl 2 none), (.sl 3 none)]), (.arr true z10 (.r3 l11)), (.arr true z12 (.ints .i64 l13)), (.arr true z14 (.ints .i64 l15)), (.arr true z16 (.ints .i64 l17)), (.box true [(.int .i64 x18), (.sl 5 none), (.sl 6 none), (.sl 7 none), (.sl 8 none)]), (.arr true z19 (.r3 l20)), (.arr true z21 (.ints .i64 l22)), (.arr true z23 (.ints .i64 l24)), (.arr true z25 (.ints .i64 l26)), (.box true [(.int .i64 x27), (.sl 10 none), (.sl 11 none), (.sl 12 none), (.sl 13 none)]), (.arr true z28 (.ints .i64 l29))]⟩
def qxn (x0 x1 : Int) (z2 : Bool) (l3 : List (Int × Int × Int)) (z4 : Bool) (l5 : List Int) (z6 : Bool) (l7 : List Int) (z8 : Bool) (l9 : List Int) (x10 : Int) (z11 : Bool) (l12 : List (Int × Int × Int)) (z13 : Bool) (l14 : List Int) (z15 : Bool) (l16 : List Int) (z17 : Bool) (l18 : List Int) (x19 : Int) (z20 : Bool) (l21 : List (Int × Int × Int)) (z22 : Bool) (l23 : List Int) (z24 : Bool) (l25 : List Int) (z26 : Bool) (l27 : List Int) (x28 : Int) (z29 : Bool) (l30 : List Int) : St := ⟨fill 151 [(1, (.int .i64 x0)), (2, (.ptr 4 0 0)), (4, (.ptr 9 0 0)), (5, (.ptr 14 0 0)), (6, (.sl 15 none)), (7, (.int .i64 x1))], [], [(.arr false z2 (.r3 l3)), (.arr false z4 (.ints .i64 l5)), (.arr false z6 (.ints .i64 l7)), (.arr false z8 (.ints .i64 l9)), (.box true [(.int .i64 x10), (.sl 0 none), (.sl 1 none), (.sl 2 none), (.sl 3 none)]), (.arr true z11 (.r3 l12)), (.arr true z13 (.ints .i64 l14)), (.arr true z15 (.ints .i64 l16)), (.arr true z17 (.ints .i64 l18)), (.box true [(.int .i64 x19), (.sl 5 none), (.sl 6 none), (.sl 7 none), (.sl 8 none)]), (.arr true z20 (.r3 l21)), (.arr true z22 (.ints .i64 l23)), (.arr true z24 (.ints .i64 l25)), (.arr true z26 (.ints .i64 l27)), (.box true [(.int .i64 x28), (.sl 10 none), (.sl 11 none), (.sl 12 none), (.sl 13 none)]), (.arr true z29 (.ints .i64 l30))]⟩
theorem qms (k : Nat) (a0 : Int) (a1z : Bool) (a1 : List (Int × Int × Int)) (a2z : Bool) (a2 : List Int) (a3z : Bool) (a3 : List Int) (a4z : Bool) (a4 : List Int) (b : Int) : go (k + 1) spec_l11Step [(.agg [(.int .i64 a0), (.arr false a1z (.r3 a1)), (.arr false a2z (.ints .i64 a2)), (.arr false a3z (.ints .i64 a3)), (.arr false a4z (.ints .i64 a4))]), (.int .i64 b)] =
 (go k spec_l07Copy [(.agg [(.int .i64 a0), (.arr false a1z (.r3 a1)), (.arr false a2z (.ints .i64 a2)), (.arr false a3z (.ints .i64 a3)), (.arr false a4z (.ints .i64 a4))])]).bind fun r0 =>
 cond (decide ((0 : Int) ≤ nI (List.length a2)) && decide (nI (List.length a2) ≤ nI (List.length a2)) && decide (nI (List.length a2) ≤ nI bigLen))
 (lp k spec_l11Step [] [] 4 k (qxn b (0 : Int) a1z a1 a2z a2 a3z a3 a4z a4 a0 true [] true [] true [] true [] (0 : Int) (D.nil (D.cell 1 (nth r0 0))) (D.r3 (D.cell 1 (nth r0 0))) (D.nil (D.cell 2 (nth r0 0))) (D.ints (D.cell 2 (nth r0 0))) (D.nil (D.cell 3 (nth r0 0))) (D.ints (D.cell 3 (nth r0 0))) (D.nil (D.cell 4 (nth r0 0))) (D.ints (D.cell 4 (nth r0 0))) (D.toInt (D.cell 0 (nth r0 0))) false (List.replicate (Int.toNat (nI (List.length a2))) (0 : Int))))
 none := by kernel_rfl
theorem qqc (k n : Nat) (fu : List (Nat × Nat)) (x0 : Int) (z1 : Bool) (l2 : List (Int × Int × Int)) (z3 : Bool) (l4 : List Int) (z5 : Bool) (l6 : List Int) (z7 : Bool) (l8 : List Int) (x9 : Int) (z10 : Bool) (l11 : List (Int × Int × Int)) (z12 : Bool) (l13 : List Int) (z14 : Bool) (l15 : List Int) (z16 : Bool) (l17 : List Int) (x18 : Int) (z19 : Bool) (l20 : List (Int × Int × Int)) (z21 : Bool) (l22 : List Int) (z23 : Bool) (l24 : List Int) (z25 : Bool) (l26 : List Int) (x27 : Int) (z28 : Bool) (l29 : List Int) : lp k spec_l11Step [] fu 11 (n + 1) (qxm x0 z1 l2 z3 l4 z5 l6 z7 l8 x9 z10 l11 z12 l13 z14 l15 z16 l17 x18 z19 l20 z21 l22 z23 l24 z25 l26 x27 z28 l29) =
 cond (decide (x0 < nI (List.length l4)))
 (cond (decide ((0 : Int) ≤ x0) && decide (x0 < nI (List.length l29)))
 (cond (decide ((0 : Int) < x0))
 (cond (decide ((0 : Int) ≤ IntKind.wrap .i64 (x0 - (1 : Int))) && decide (IntKind.wrap .i64 (x0 - (1 : Int)) < nI (List.length l29)))
 (cond (decide ((0 : Int) ≤ x0) && decide (x0 < nI (List.length l6)))
 (cond (decide ((0 : Int) ≤ x0) && decide (x0 < nI (List.length l4)))
 ((go k spec_LeafOut [(.int .i64 (List.getD l6 (Int.toNat x0) (0 : Int))), (.int .i64 (List.getD l4 (Int.toNat x0) (0 : Int))), (.int .i64 (if (0 : Int) > List.getD l29 (Int.toNat x0) (0 : Int) then (0 : Int) else List.getD l29 (Int.toNat x0) (0 : Int))), (.int .i64 (if (0 : Int) > IntKind.wrap .i64 ((0 : Int) - List.getD l29 (Int.toNat (IntKind.wrap .i64 (x0 - (1 : Int)))) (0 : Int)) then (0 : Int) else IntKind.wrap .i64 ((0 : Int) - List.getD l29 (Int.toNat (IntKind.wrap .i64 (x0 - (1 : Int)))) (0 : Int))))]).bind fun r0 =>
 cond (decide ((0 : Int) ≤ x0) && decide (x0 < nI (List.length l24)))
 (cond (decide ((0 : Int) ≤ x0) && decide (x0 < nI (List.length l24)))
 (cond (decide ((0 : Int) < if (0 : Int) > List.getD l29 (Int.toNat x0) (0 : Int) then (0 : Int) else List.getD l29 (Int.toNat x0) (0 : Int)))
 (cond (decide ((0 : Int) ≤ IntKind.wrap .i64 (x0 + (1 : Int))) && decide (IntKind.wrap .i64 (x0 + (1 : Int)) < nI (List.length (List.set l24 (Int.toNat x0) (IntKind.wrap .i64 (IntKind.wrap .i64 (List.getD l24 (Int.toNat x0) (0 : Int) - D.toInt (nth r0 0)) - D.toInt (nth r0 1)))))))
 (cond (decide ((0 : Int) ≤ IntKind.wrap .i64 (x0 + (1 : Int))) && decide (IntKind.wrap .i64 (x0 + (1 : Int)) < nI (List.length (List.set l24 (Int.toNat x0) (IntKind.wrap .i64 (IntKind.wrap .i64 (List.getD l24 (Int.toNat x0) (0 : Int) - D.toInt (nth r0 0)) - D.toInt (nth r0 1)))))))
 (cond (decide ((0 : Int) < if (0 : Int) > IntKind.wrap .i64 ((0 : Int) - List.getD l29 (Int.toNat (IntKind.wrap .i64 (x0 - (1 : Int)))) (0 : Int)) then (0 : Int) else IntKind.wrap .i64 ((0 : Int) - List.getD l29 (Int.toNat (IntKind.wrap .i64 (x0 - (1 : Int)))) (0 : Int))))
 (cond (decide ((0 : Int) ≤ IntKind.wrap .i64 (x0 - (1 : Int))) && decide (IntKind.wrap .i64 (x0 - (1 : Int)) < nI (List.length (List.set (List.set l24 (Int.toNat x0) (IntKind.wrap .i64 (IntKind.wrap .i64 (List.getD l24 (Int.toNat x0) (0 : Int) - D.toInt (nth r0 0)) - D.toInt (nth r0 1)))) (Int.toNat (IntKind.wrap .i64 (x0 + (1 : Int)))) (IntKind.wrap .i64 (List.getD (List.set l24 (Int.toNat x0) (IntKind.wrap .i64 (IntKind.wrap .i64 (List.getD l24 (Int.toNat x0) (0 : Int) - D.toInt (nth r0 0)) - D.toInt (nth r0 1)))) (Int.toNat (IntKind.wrap .i64 (x0 + (1 : Int)))) (0 : Int) + D.toInt (nth r0 0)))))))
 (cond (decide ((0 : Int) ≤ IntKind.wrap .i64 (x0 - (1 : Int))) && decide (IntKind.wrap .i64 (x0 - (1 : Int)) < nI (List.length (List.set (List.set l24 (Int.toNat x0) (IntKind.wrap .i64 (IntKind.wrap .i64 (List.getD l24 (Int.toNat x0) (0 : Int) - D.toInt (nth r0 0)) - D.toInt (nth r0 1)))) (Int.toNat (IntKind.wrap .i64 (x0 + (1 : Int)))) (IntKind.wrap .i64 (List.getD (List.set l24 (Int.toNat x0) (IntKind.wrap .i64 (IntKind.wrap .i64 (List.getD l24 (Int.toNat x0) (0 : Int) - D.toInt (nth r0 0)) - D.toInt (nth r0 1)))) (Int.toNat (IntKind.wrap .i64 (x0 + (1 : Int)))) (0 : Int) + D.toInt (nth r0 0)))))))
 (lp k spec_l11Step [] fu 11 n (qxm (IntKind.wrap .i64 (x0 + (1 : Int))) z1 l2 z3 l4 z5 l6 z7 l8 x9 z10 l11 z12 l13 z14 l15 z16 l17 x18 z19 l20 z21 l22 z23 (List.set (List.set (List.set l24 (Int.toNat x0) (IntKind.wrap .i64 (IntKind.wrap .i64 (List.getD l24 (Int.toNat x0) (0 : Int) - D.toInt (nth r0 0)) - D.toInt (nth r0 1)))) (Int.toNat (IntKind.wrap .i64 (x0 + (1 : Int)))) (IntKind.wrap .i64 (List.getD (List.set l24 (Int.toNat x0) (IntKind.wrap .i64 (IntKind.wrap .i64 (List.getD l24 (Int.toNat x0) (0 : Int) - D.toInt (nth r0 0)) - D.toInt (nth r0 1)))) (Int.toNat (IntKind.wrap .i64 (x0 + (1 : Int)))) (0 : Int) + D.toInt (nth r0 0)))) (Int.toNat (IntKind.wrap .i64 (x0 - (1 : Int)))) (IntKind.wrap .i64 (List.getD (List.set (List.set l24 (Int.toNat x0) (IntKind.wrap .i64 (IntKind.wrap .i64 (List.getD l24 (Int.toNat x0) (0 : Int) - D.toInt (nth r0 0)) - D.toInt (nth r0 1)))) (Int.toNat (IntKind.wrap .i64 (x0 + (1 : Int)))) (IntKind.wrap .i64 (List.getD (List.set l24 (Int.toNat x0) (IntKind.wrap .i64 (IntKind.wrap .i64 (List.getD l24 (Int.toNat x0) (0 : Int) - D.toInt (nth r0 0)) - D.toInt (nth r0 1)))) (Int.toNat (IntKind.wrap .i64 (x0 + (1 : Int)))) (0 : Int) + D.toInt (nth r0 0)))) (Int.toNat (IntKind.wrap .i64 (x0 - (1 : Int)))) (0 : Int) + D.toInt (nth r0 1)))) z25 l26 x27 z28 l29))
 none)
 none)
 (lp k spec_l11Step [] fu 11 n (qxm (IntKind.wrap .i64 (x0 + (1 : Int))) z1 l2 z3 l4 z5 l6 z7 l8 x9 z10 l11 z12 l13 z14 l15 z16 l17 x18 z19 l20 z21 l22 z23 (List.set (List.set l24 (Int.toNat x0) (IntKind.wrap .i64 (IntKind.wrap .i64 (List.getD l24 (Int.toNat x0) (0 : Int) - D.toInt (nth r0 0)) - D.toInt (nth r0 1)))) (Int.toNat (IntKind.wrap .i64 (x0 + (1 : Int)))) (IntKind.wrap .i64 (List.getD (List.set l24 (Int.toNat x0) (IntKind.wrap .i64 (IntKind.wrap .i64 (List.getD l24 (Int.toNat x0) (0 : Int) - D.toInt (nth r0 0)) - D.toInt (nth r0 1)))) (Int.toNat (IntKind.wrap .i64 (x0 + (1 : Int)))) (0 : Int) + D.toInt (nth r0 0)))) z25 l26 x27 z28 l29)))
 none)
 none)
 (cond (decide ((0 : Int) < if (0 : Int) > IntKind.wrap .i64 ((0 : Int) - List.getD l29 (Int.toNat (IntKind.wrap .i64 (x0 - (1 : Int)))) (0 : Int)) then (0 : Int) else IntKind.wrap .i64 ((0 : Int) - List.getD l29 (Int.toNat (IntKind.wrap .i64 (x0 - (1 : Int)))) (0 : Int))))
 (cond (decide ((0 : Int) ≤ IntKind.wrap .i64 (x0 - (1 : Int))) && decide (IntKind.wrap .i64 (x0 - (1 : Int)) < nI (List.length (List.set l24 (Int.toNat x0) (IntKind.wrap .i64 (IntKind.wrap .i64 (List.getD l24 (Int.toNat x0) (0 : Int) - D.toInt (nth r0 0)) - D.toInt (nth r0 1)))))))
 (cond (decide ((0 : Int) ≤ IntKind.wrap .i64 (x0 - (1 : Int))) && decide (IntKind.wrap .i64 (x0 - (1 : Int)) < nI (List.length (List.set l24 (Int.toNat x0) (IntKind.wrap .i64 (IntKind.wrap .i64 (List.getD l24 (Int.toNat x0) (0 : Int) - D.toInt (nth r0 0)) - D.toInt (nth r0 1)))))))
 (lp k spec_l11Step [] fu 11 n (qxm (IntKind.wrap .i64 (x0 + (1 : Int))) z1 l2 z3 l4 z5 l6 z7 l8 x9 z10 l11 z12 l13 z14 l15 z16 l17 x18 z19 l20 z21 l22 z23 (List.set (List.set l24 (Int.toNat x0) (IntKind.wrap .i64 (IntKind.wrap .i64 (List.getD l24 (Int.toNat x0) (0 : Int) - D.toInt (nth r0 0)) - D.toInt (nth r0 1)))) (Int.toNat (IntKind.wrap .i64 (x0 - (1 : Int)))) (IntKind.wrap .i64 (List.getD (List.set l24 (Int.toNat x0) (IntKind.wrap .i64 (IntKind.wrap .i64 (List.getD l24 (Int.toNat x0) (0 : Int) - D.toInt (nth r0 0)) - D.toInt (nth r0 1)))) (Int.toNat (IntKind.wrap .i64 (x0 - (1 : Int)))) (0 : Int) + D.toInt (nth r0 1)))) z25 l26 x27 z28 l29))
 none)
 none)
 (lp k spec_l11Step [] fu 11 n (qxm (IntKind.wrap .i64 (x0 + (1 : Int))) z1 l2 z3 l4 z5 l6 z7 l8 x9 z10 l11 z12 l13 z14 l15 z16 l17 x18 z19 l20 z21 l22 z23 (List.set l24 (Int.toNat x0) (IntKind.wrap .i64 (IntKind.wrap .i64 (List.getD l24 (Int.toNat x0) (0 : Int) - D.toInt (nth r0 0)) - D.toInt (nth r0 1)))) z25 l26 x27 z28 l29))))
 none)
 none)
 none)
 none)
 none)
 (cond (decide ((0 : Int) ≤ x0) && decide (x0 < nI (List.length l6)))
 (cond (decide ((0 : Int) ≤ x0) && decide (x0 < nI (List.length l4)))
 ((go k spec_LeafOut [(.int .i64 (List.getD l6 (Int.toNat x0) (0 : Int))), (.int .i64 (List.getD l4 (Int.toNat x0) (0 : Int))), (.int .i64 (if (0 : Int) > List.getD l29 (Int.toNat x0) (0 : Int) then (0 : Int) else List.getD l29 (Int.toNat x0) (0 : Int))), (.int .i64 (0 : Int))]).bind fun r1 =>
 cond (decide ((0 : Int) ≤ x0) && decide (x0 < nI (List.length l24)))
 (cond (decide ((0 : Int) ≤ x0) && decide (x0 < nI (List.length l24)))
 (cond (decide ((0 : Int) < if (0 : Int) > List.getD l29 (Int.toNat x0) (0 : Int) then (0 : Int) else List.getD l29 (Int.toNat x0) (0 : Int)))
 (cond (decide ((0 : Int) ≤ IntKind.wrap .i64 (x0 + (1 : Int))) && decide (IntKind.wrap .i64 (x0 + (1 : Int)) < nI (List.length (List.set l24 (Int.toNat x0) (IntKind.wrap .i64 (IntKind.wrap .i64 (List.getD l24 (Int.toNat x0) (0 : Int) - D.toInt (nth r1 0)) - D.toInt (nth r1 1)))))))
 (cond (decide ((0 : Int) ≤ IntKind.wrap .i64 (x0 + (1 : Int))) && decide (IntKind.wrap .i64 (x0 + (1 : Int)) < nI (List.length (List.set l24 (Int.toNat x0) (IntKind.wrap .i64 (IntKind.wrap .i64 (List.getD l24 (Int.toNat x0) (0 : Int) - D.toInt (nth r1 0)) - D.toInt (nth r1 1)))))))
 (lp k spec_l11Step [] fu 11 n (qxm (IntKind.wrap .i64 (x0 + (1 : Int))) z1 l2 z3 l4 z5 l6 z7 l8 x9 z10 l11 z12 l13 z14 l15 z16 l17 x18 z19 l20 z21 l22 z23 (List.set (List.set l24 (Int.toNat x0) (IntKind.wrap .i64 (IntKind.wrap .i64 (List.getD l24 (Int.toNat x0) (0 : Int) - D.toInt (nth r1 0)) - D.toInt (nth r1 1)))) (Int.toNat (IntKind.wrap .i64 (x0 + (1 : Int)))) (IntKind.wrap .i64 (List.getD (List.set l24 (Int.toNat x0) (IntKind.wrap .i64 (IntKind.wrap .i64 (List.getD l24 (Int.toNat x0) (0 : Int) - D.toInt (nth r1 0)) - D.toInt (nth r1 1)))) (Int.toNat (IntKind.wrap .i64 (x0 + (1 : Int)))) (0 : Int) + D.toInt (nth r1 0)))) z25 l26 x27 z28 l29))
 none)
 none)
 (lp k spec_l11Step [] fu 11 n (qxm (IntKind.wrap .i64 (x0 + (1 : Int))) z1 l2 z3 l4 z5 l6 z7 l8 x9 z10 l11 z12 l13 z14 l15 z16 l17 x18 z19 l20 z21 l22 z23 (List.set l24 (Int.toNat x0) (IntKind.wrap .i64 (IntKind.wrap .i64 (List.getD l24 (Int.toNat x0) (0 : Int) - D.toInt (nth r1 0)) - D.toInt (nth r1 1)))) z25 l26 x27 z28 l29)))
 none)
 none)
 none)
 none))
 none)
 (some [(.agg [(.int .i64 x27), (.arr true z19 (.r3 l20)), (.arr true z21 (.ints .i64 l22)), (.arr true z23 (.ints .i64 l24)), (.arr true z25 (.ints .i64 l26))])]) := by kernel_rfl
theorem qqd (k n : Nat) (fu : List (Nat × Nat)) (x0 x1 : Int) (z2 : Bool) (l3 : List (Int × Int × Int)) (z4 : Bool) (l5 : List Int) (z6 : Bool) (l7 : List Int) (z8 : Bool) (l9 : List Int) (x10 : Int) (z11 : Bool) (l12 : List (Int × Int × Int)) (z13 : Bool) (l14 : List Int) (z15 : Bool) (l16 : List Int) (z17 : Bool) (l18 : List Int) (x19 : Int) (z20 : Bool) (l21 : List (Int × Int × Int)) (z22 : Bool) (l23 : List Int) (z24 : Bool) (l25 : List Int) (z26 : Bool) (l27 : List Int) (x28 : Int) (z29 : Bool) (l30 : List Int) : lp k spec_l11Step [] fu 4 (n + 1) (qxn x0 x1 z2 l3 z4 l5 z6 l7 z8 l9 x10 z11 l12 z13 l14 z15 l16 z17 l18 x19 z20 l21 z22 l23 z24 l25 z26 l27 x28 z29 l30) =
 cond (decide (IntKind.wrap .i64 (x1 + (1 : Int)) < nI (List.length l5)))
 ((go k spec_l05Face [(.agg [(.int .i64 x10), (.arr false z2 (.r3 l3))]), (.int .i64 x1)]).bind fun r0 =>
 (go k spec_IsActive [(.int .i64 x0), (.int .i64 (D.toInt (nth r0 0)))]).bind fun r1 =>
 cond (!bit (nth r1 0))
 (lp k spec_l11Step [] fu 4 n (qxn x0 (IntKind.wrap .i64 (x1 + (1 : Int))) z2 l3 z4 l5 z6 l7 z8 l9 x10 z11 l12 z13 l14 z15 l16 z17 l18 x19 z20 l21 z22 l23 z24 l25 z26 l27 x28 z29 l30))
 ((go k spec_l09Flux [(.agg [(.int .i64 x10), (.arr false z2 (.r3 l3)), (.arr false z4 (.ints .i64 l5)), (.arr false z6 (.ints .i64 l7)), (.arr false z8 (.ints .i64 l9))]), (.int .i64 x1)]).bind fun r2 =>
 cond (decide ((0 : Int) ≤ x1) && decide (x1 < nI (List.length l30)))
 (cond (decide ((0 : Int) ≤ x1) && decide (x1 < nI (List.length l23)))
 (cond (decide ((0 : Int) ≤ x1) && decide (x1 < nI (List.length (List.set l30 (Int.toNat x1) (D.toInt (nth r2 0))))))
 (cond (decide ((0 : Int) ≤ x1) && decide (x1 < nI (List.length l23)))
 (cond (decide ((0 : Int) ≤ IntKind.wrap .i64 (x1 + (1 : Int))) && decide (IntKind.wrap .i64 (x1 + (1 : Int)) < nI (List.length (List.set l23 (Int.toNat x1) (IntKind.wrap .i64 (List.getD l23 (Int.toNat x1) (0 : Int) - List.getD (List.set l30 (Int.toNat x1) (D.toInt (nth r2 0))) (Int.toNat x1) (0 : Int)))))))
 (cond (decide ((0 : Int) ≤ x1) && decide (x1 < nI (List.length (List.set l30 (Int.toNat x1) (D.toInt (nth r2 0))))))
 (cond (decide ((0 : Int) ≤ IntKind.wrap .i64 (x1 + (1 : Int))) && decide (IntKind.wrap .i64 (x1 + (1 : Int)) < nI (List.length (List.set l23 (Int.toNat x1) (IntKind.wrap .i64 (List.getD l23 (Int.toNat x1) (0 : Int) - List.getD (List.set l30 (Int.toNat x1) (D.toInt (nth r2 0))) (Int.toNat x1) (0 : Int)))))))
 (lp k spec_l11Step [] fu 4 n (qxn x0 (IntKind.wrap .i64 (x1 + (1 : Int))) z2 l3 z4 l5 z6 l7 z8 l9 x10 z11 l12 z13 l14 z15 l16 z17 l18 x19 z20 l21 z22 (List.set (List.set l23 (Int.toNat x1) (IntKind.wrap .i64 (List.getD l23 (Int.toNat x1) (0 : Int) - List.getD (List.set l30 (Int.toNat x1) (D.toInt (nth r2 0))) (Int.toNat x1) (0 : Int)))) (Int.toNat (IntKind.wrap .i64 (x1 + (1 : Int)))) (IntKind.wrap .i64 (List.getD (List.set l23 (Int.toNat x1) (IntKind.wrap .i64 (List.getD l23 (Int.toNat x1) (0 : Int) - List.getD (List.set l30 (Int.toNat x1) (D.toInt (nth r2 0))) (Int.toNat x1) (0 : Int)))) (Int.toNat (IntKind.wrap .i64 (x1 + (1 : Int)))) (0 : Int) + List.getD (List.set l30 (Int.toNat x1) (D.toInt (nth r2 0))) (Int.toNat x1) (0 : Int)))) z24 l25 z26 l27 x28 z29 (List.set l30 (Int.toNat x1) (D.toInt (nth r2 0)))))
 none)
 none)
 none)
 none)
 none)
 none)
 none))
 (lp k spec_l11Step [] fu 11 k (qxm (0 : Int) z2 l3 z4 l5 z6 l7 z8 l9 x10 z11 l12 z13 l14 z15 l16 z17 l18 x19 z20 l21 z22 l23 z24 l25 z26 l27 x28 z29 l30)) := by kernel_rfl

end Go.Proofs.YtoldpdhhfmlckaaGreat
end
section
namespace Go.Proofs.YtoldpdhhfmlckaaGreat
open Go.Ev
theorem qe4 (k : Nat) (hk : 2000000 ≤ k) (a : Int) (b : Int) (c : Int) : go (k + 2) spec_ShareOut [(.int .i64 (a)), (.int .i64 (b)), (.int .i64 (c))] = some [.int .i64 (qx7 a b c)] := by
  rw [qlv]
  unfold qx7
  cases hm : inR c 1 10000000
  · simp (disch := omega) only [qfj, hm, bit, qa9, nth0, qzt, Bool.not_false, qhl, Bool.false_and, qhj]
  cases hp : inR b 0 c
  · simp (disch := omega) only [qfj, hm, bit, hp, qa9, nth0, qzt, Bool.not_false, qhl, Bool.not_true, qhj, Bool.false_and, Bool.and_false]
  have hm' := qn9.1 hm
  cases ht : inR a 0 (1000 * c)
  · simp (disch := omega) only [qfj, hm, bit, hp, q0l, ht, dF, Bool.not_false, qhl, qa9, nth0, qzt, Bool.not_true, qhj, Bool.and_false]
  have q := qyb hm hp ht
  have q2 : 0 ≤ Int.tdiv (a * b) c ∧ Int.tdiv (a * b) c ≤ 100000000000000000 := by
    have := qzo (x := a * b) (y := c) (B := 100000000000000000) (by omega) (by omega) (by omega)
    rw [Int.tdiv_eq_ediv_of_nonneg q.1] at *
    exact ⟨Int.ediv_nonneg q.1 (by omega), this.2⟩
  simp (disch := omega) only [qfj, hm, bit, hp, q0l, ht, dF, Bool.not_false, qhl, qa9, nth0, qzt, Bool.not_true, qhj, Bool.and_true]
theorem qet (k : Nat) (hk : 2000000 ≤ k) (a : Int) (b : Int) (c : Int) (d : Int) : go (k + 3) spec_LeafOut [(.int .i64 (a)), (.int .i64 (b)), (.int .i64 (c)), (.int .i64 (d))] = some [.int .i64 (loA a b c d), .int .i64 (loB a b c d)] := by
  rw [qlk]
  unfold loA loB loOk
  cases hm : inR b 1 10000000
  · simp (disch := omega) only [qfj, hm, bit, qa9, nth0, qzt, Bool.not_false, qhl, Bool.false_and, qhj]
  have hm' := qn9.1 hm
  cases ht : inR a 0 (1000 * b)
  · simp (disch := omega) only [qfj, hm, bit, q0l, ht, qa9, nth0, qzt, Bool.not_false, qhl, Bool.not_true, qhj, Bool.false_and, Bool.and_false]
  cases hr : inR c 0 b
  · simp (disch := omega) only [qfj, hm, bit, q0l, ht, hr, qa9, nth0, qzt, Bool.not_false, qhl, Bool.not_true, qhj, Bool.false_and, Bool.and_false]
  have hr' := qn9.1 hr
  cases hl : inR d 0 (b - c)
  · simp (disch := omega) only [qfj, hm, bit, q0l, ht, hr, hl, qa9, nth0, qzt, Bool.not_false, qhl, Bool.not_true, qhj, Bool.and_false]
  have hl' := qn9.1 hl
  have s1 := qx9 a c b; have s2 := qx9 a (c + d) b
  simp (disch := omega) only [qfj, hm, bit, q0l, ht, hr, hl, qe4, qa9, nth0, qzu, qzt, Bool.not_true, qhj, Bool.and_true, qhl]
theorem qef (k : Nat) (hk : 2000000 ≤ k) (a b : Int) (hb : 0 < b) (ha : -1000000000000 ≤ a) (ha' : a ≤ 1000000000000) : go (k + 1) spec_DivTrunc [.int .i64 a, .int .i64 b] = some [.int .i64 (Int.tdiv a b)] := by
  rw [qk6]
  have := qzo hb ha ha'
  simp (disch := omega) only [dF, Bool.not_false, q0l, qhl, qhj]
theorem qf3 (k : Nat) (hk : 2000000 ≤ k) (a : Int) (b : Int) (c : Int) (d : Int) (e : Int) (f : Int) (ha : 0 ≤ a ∧ a ≤ 161000000) (hb : 0 ≤ b ∧ b ≤ 161000000) (hc : 0 ≤ c ∧ c ≤ 10000000) (hd : 0 ≤ d ∧ d ≤ 10000000) (he : inR e 0 4 = true) (hf : inR f 0 4 = true) : go (k + 3) spec_l09Pair [(.int .i64 (a)), (.int .i64 (b)), (.int .i64 (c)), (.int .i64 (d)), (.int .i64 (e)), (.int .i64 (f))] = some [.int .i64 (quh a b c d e f)] := by
  rw [qmq]
  have w1 := q0e he; have w2 := q0e hf; have w3 := q0f (max f e)
  have p := qtx (x := a - b) (w := q0d (max f e)) (A := 161000000) (by omega) (by omega) w3.1 w3.2
  have t := qzo (x := (a - b) * q0d (max f e)) (y := 32 * (q0d e + q0d f)) (B := 2576000000) (by omega) (by omega) (by omega)
  have t1 : Int.tdiv c 4 = c / 4 := Int.tdiv_eq_ediv_of_nonneg (by omega)
  have t2 : Int.tdiv d 4 = d / 4 := Int.tdiv_eq_ediv_of_nonneg (by omega)
  simp (disch := omega) only [imax, qe9, q0l, t2, t1, imin, qa9, nth0, qzu, qef]
  rfl
theorem qf1 (k : Nat) (hk : 2000000 ≤ k) (r : Int) (z1 z2 z3 z4 : Bool) (l : List Cell) (m t b : List Int) (F : StF r l m t b) (i : Nat) (hi : i + 1 < l.length) :
    go (k + 4) spec_l09Flux [.agg [.int .i64 r, .arr false z1 (.r3 l), .arr false z2 (.ints .i64 m), .arr false z3 (.ints .i64 t), .arr false z4 (.ints .i64 b)], .int .i64 (i : Int)] = some [.int .i64 (fl l m b i)] := by
  rw [qmo]
  have hl := F.len; have hm := F.ml
  have h1 := F.at i; have h2 := F.at (i + 1); have s1 := qza F i; have s2 := qza F (i + 1)
  have v1 := F.lev i; have v2 := F.lev (i + 1)
  have e1 := qf4 (k + 3 - 1) (by omega) r z1 z2 z3 z4 l m t b F i (by omega)
  have e2 := qf4 (k + 3 - 1) (by omega) r z1 z2 z3 z4 l m t b F (i + 1) hi
  rw [show k + 3 - 1 + 1 = k + 3 by omega] at e1 e2
  have e3 := qf3 (k + 3 - 3) (by omega) (surf l m b i) (surf l m b (i + 1)) (m.getD i 0) (m.getD (i + 1) 0) (l.getD i zz3).2.1 (l.getD (i + 1) zz3).2.1 s1 s2 ⟨h1.1, h1.2.1⟩ ⟨h2.1, h2.2.1⟩ v1 v2
  rw [show k + 3 - 3 + 3 = k + 3 by omega] at e3
  simp (disch := omega) only [e1, qgp, q0l, e2, dT, nI, Bool.and_true, Int.toNat_natCast, qhl, qa9, nth0, qzu, e3]
  rfl
def Fk (tk : Int) (l : List Cell) (m b : List Int) (k j : Nat) : Int := if j < k then ff tk l m b j else 0
def Mk (tk : Int) (l : List Cell) (m b : List Int) (k j : Nat) : Int := m.getD j 0 - (if j < k then ff tk l m b j else 0) + (if 1 ≤ j ∧ j ≤ k then ff tk l m b (j - 1) else 0)
theorem qsr (k : Nat) (hk : 2000000 ≤ k) (fu : List (Nat × Nat)) (r tk : Int) (z1 z2 z3 z4 y1 y2 y3 y4 x1 x2 x3 x4 : Bool) (c1 : List Cell) (c2 c3 c4 : List Int) (c0 : Int) (l : List Cell) (m t b tr bd : List Int) (ld : List Cell) (r' : Int) (F : StF r l m t b) : ∀ (n i : Nat), i < l.length → l.length - i < n →
    lp (k + 4) spec_l11Step [] fu 4 (n) (qxn tk (i : Int) z1 l z2 m z3 t z4 b r y1 c1 y2 c2 y3 c3 y4 c4 c0 x1 ld x2 (tab l.length (Mk tk l m b i)) x3 tr x4 bd r' false (tab l.length (Fk tk l m b i))) = lp (k + 4) spec_l11Step [] fu 11 (k + 4) (qxm 0 z1 l z2 m z3 t z4 b r y1 c1 y2 c2 y3 c3 y4 c4 c0 x1 ld x2 (tab l.length (stM tk l m b)) x3 tr x4 bd r' false (tab l.length (ff tk l m b)))
  | 0, i, hi, hn => by omega
  | n + 1, i, hi, hn => by
    have hl := F.len; have hm := F.ml
    rw [qqd]
    by_cases h : i + 1 < l.length
    · have IH := qsr k hk fu r tk z1 z2 z3 z4 y1 y2 y3 y4 x1 x2 x3 x4 c1 c2 c3 c4 c0 l m t b tr bd ld r' F n (i + 1) h (by omega)
      have b0 := qnp F i; have b1 := qnn F tk (i - 1); have a0 := F.at i; have a1 := F.at (i + 1); have a2 := F.at (i - 1)
      have eF := qf1 (k + 4 - 4) (by omega) r z1 z2 z3 z4 l m t b F i h
      rw [show k + 4 - 4 + 4 = k + 4 by omega] at eF
      cases ha : qoc tk (qnh l i)
      · have hz : ff tk l m b i = 0 := by unfold ff qao; rw [ha]; simp
        simp (disch := omega) only [qgp, q0l, nI, dT, qfq, qep, bit, Bool.true_and, Int.toNat_natCast, List.length_set, qa9, nth0, qzt, qzu, ha, Bool.not_false, qhl]
        rw [← IH]
        have q1 : tab l.length (Mk tk l m b i) = tab l.length (Mk tk l m b (i + 1)) := qzd fun j hj => by
          unfold Mk
          by_cases g1 : j = i
          · subst g1
            by_cases g2 : 1 ≤ j
            · simp (disch := omega) only [hz, if_neg, if_pos]
            · simp (disch := omega) only [hz, if_neg, if_pos]
          · by_cases g2 : j = i + 1
            · subst g2; simp (disch := omega) only [if_neg, Nat.add_sub_cancel, hz, if_pos]
            · have e1 : (j < i) = (j < i + 1) := by rw [eq_iff_iff]; omega
              have e2 : (1 ≤ j ∧ j ≤ i) = (1 ≤ j ∧ j ≤ i + 1) := by rw [eq_iff_iff]; omega
              simp only [e1, e2]
        have q2 : tab l.length (Fk tk l m b i) = tab l.length (Fk tk l m b (i + 1)) := qzd fun j hj => by
          unfold Fk
          by_cases g1 : j = i
          · subst g1; rw [if_neg (by omega), if_pos (by omega), hz]
          · have e1 : (j < i) = (j < i + 1) := by rw [eq_iff_iff]; omega
            simp only [e1]
        rw [q1, q2]
      · have hz : ff tk l m b i = fl l m b i := by unfold ff qao; rw [ha, dT h]; rfl
        have v1 : Mk tk l m b i i = m.getD i 0 + (if 1 ≤ i then ff tk l m b (i - 1) else 0) := by
          unfold Mk; rw [if_neg (by omega)]
          by_cases g2 : 1 ≤ i
          · rw [if_pos (by omega), if_pos g2]; omega
          · rw [if_neg (by omega), if_neg g2]; omega
        have v2 : Mk tk l m b i (i + 1) = m.getD (i + 1) 0 := by
          unfold Mk; rw [if_neg (by omega), if_neg (by omega)]; omega
        have bb : -5000000 ≤ (if 1 ≤ i then ff tk l m b (i - 1) else 0) ∧ (if 1 ≤ i then ff tk l m b (i - 1) else 0) ≤ 5000000 := by
          by_cases g2 : 1 ≤ i
          · rw [if_pos g2]; rw [show i - 1 + 1 = i by omega] at b1; omega
          · rw [if_neg g2]; omega
        have w1 : -20000000 ≤ Mk tk l m b i i ∧ Mk tk l m b i i ≤ 20000000 := by rw [v1]; omega
        have w2 : -20000000 ≤ Mk tk l m b i (i + 1) ∧ Mk tk l m b i (i + 1) ≤ 20000000 := by rw [v2]; omega
        simp (disch := omega) only [qgp, q0l, nI, dT, qfq, qep, bit, eF, qzf, Bool.and_true, Int.toNat_natCast, qzh, qze, itT, if_neg, qhl, qa9, nth0, qzu, qzt, ha, Bool.not_true, qhj]
        rw [v1, v2]
        rw [← IH]
        have q1 : tab l.length (fun j => if j = i + 1 then m.getD (i + 1) 0 + fl l m b i else if j = i then m.getD i 0 + (if 1 ≤ i then ff tk l m b (i - 1) else 0) - fl l m b i else Mk tk l m b i j) = tab l.length (Mk tk l m b (i + 1)) := qzd fun j hj => by
          by_cases g2 : j = i + 1
          · subst g2; unfold Mk; simp (disch := omega) only [if_pos, if_neg, Nat.add_sub_cancel, hz, itT]; omega
          · by_cases g1 : j = i
            · subst g1; unfold Mk
              by_cases g3 : 1 ≤ j
              · simp (disch := omega) only [if_pos, hz, if_neg, itT]; omega
              · simp (disch := omega) only [if_neg, hz, itT, if_pos]; omega
            · rw [if_neg g2, if_neg g1]
              have e1 : (j < i) = (j < i + 1) := by rw [eq_iff_iff]; omega
              have e2 : (1 ≤ j ∧ j ≤ i) = (1 ≤ j ∧ j ≤ i + 1) := by rw [eq_iff_iff]; omega
              unfold Mk
              simp only [e1, e2]
        have q2 : tab l.length (fun j => if j = i then fl l m b i else Fk tk l m b i j) = tab l.length (Fk tk l m b (i + 1)) := qzd fun j hj => by
          by_cases g1 : j = i
          · subst g1; unfold Fk; rw [if_pos rfl, if_pos (by omega), hz]
          · rw [if_neg g1]
            have e1 : (j < i) = (j < i + 1) := by rw [eq_iff_iff]; omega
            unfold Fk
            simp only [e1]
        rw [q1, q2]
    · simp (disch := omega) only [qgp, q0l, nI, dF, bit, dT, Bool.true_and, Int.toNat_natCast, List.length_set, qhj]
      have q1 : tab l.length (Mk tk l m b i) = tab l.length (stM tk l m b) := qzd fun j hj => by
        unfold Mk stM
        by_cases g1 : j = i
        · subst g1; rw [if_neg (by omega), qnm (i := j) (show l.length ≤ j + 1 by omega)]
          by_cases g3 : 1 ≤ j
          · rw [if_pos g3, if_pos (by omega)]
          · rw [if_neg g3, if_neg (by omega)]
        · rw [if_pos (by omega)]
          by_cases g3 : 1 ≤ j
          · rw [if_pos g3, if_pos (by omega)]
          · rw [if_neg g3, if_neg (by omega)]
      have q2 : tab l.length (Fk tk l m b i) = tab l.length (ff tk l m b) := qzd fun j hj => by
        unfold Fk
        by_cases g1 : j = i
        · subst g1; rw [if_neg (by omega), qnm (i := j) (show l.length ≤ j + 1 by omega)]
        · rw [if_pos (by omega)]
      rw [q1, q2]
set_option maxHeartbeats 2000000 in
theorem qsq (k : Nat) (hk : 2000000 ≤ k) (fu : List (Nat × Nat)) (r tk : Int) (z1 z2 z3 z4 y1 y2 y3 y4 : Bool) (c1 : List Cell) (c2 c3 c4 : List Int) (c0 : Int) (l : List Cell) (m t b mm bd : List Int) (ld : List Cell) (r' : Int) (F : StF r l m t b) : ∀ (n i : Nat), i ≤ l.length → l.length - i < n →
    lp (k + 4) spec_l11Step [] fu 11 (n) (qxm (i : Int) z1 l z2 m z3 t z4 b r y1 c1 y2 c2 y3 c3 y4 c4 c0 false ld false mm false (tab l.length (Tk tk l m t b i)) false bd r' false (tab l.length (ff tk l m b))) = some [.agg [.int .i64 r', .arr true false (.r3 ld), .arr true false (.ints .i64 mm), .arr true false (.ints .i64 (tab l.length (stT tk l m t b))), .arr true false (.ints .i64 bd)]]
  | 0, i, hi, hn => by omega
  | n + 1, i, hi, hn => by
    have hl := F.len; have hm := F.ml; have ht := F.tl
    rw [qqc]
    by_cases h : i < l.length
    · have IH := qsq k hk fu r tk z1 z2 z3 z4 y1 y2 y3 y4 c1 c2 c3 c4 c0 l m t b mm bd ld r' F n (i + 1) (by omega) (by omega)
      rw [← qam tk l m t b i h] at IH
      have f1 := qnn F tk i; have f2 := qnn F tk (i - 1); have a0 := F.at i; have a1 := F.at (i + 1); have a2 := F.at (i - 1)
      have A := qub tk l m t b i; have B := qud tk l m t b i
      have A' := qub tk l m t b (i - 1); have B' := qud tk l m t b (i - 1); have A'' := qub tk l m t b (i - 1 - 1)
      have v1 : Tk tk l m t b i i = t.getD i 0 + (if 1 ≤ i then outA tk l m t b (i - 1) else 0) := by
        unfold Tk; rw [if_neg (by omega), if_neg (show ¬ (i + 1 < i) by omega)]
        by_cases g2 : 1 ≤ i
        · rw [if_pos (by omega), if_pos g2]; omega
        · rw [if_neg (by omega), if_neg g2]; omega
      have w1 : 0 ≤ Tk tk l m t b i i ∧ Tk tk l m t b i i ≤ 200000000000000000 := by
        rw [v1]
        by_cases g2 : 1 ≤ i
        · rw [if_pos g2]; omega
        · rw [if_neg g2]; omega
      have w2 : 0 ≤ Tk tk l m t b i (i + 1) ∧ Tk tk l m t b i (i + 1) ≤ 200000000000000000 := by
        unfold Tk; rw [if_neg (by omega), if_neg (by omega), if_neg (by omega)]; omega
      have hA : loA (t.getD i 0) (m.getD i 0) (max 0 (ff tk l m b i)) (lft tk l m b i) = outA tk l m t b i := rfl
      have hB : loB (t.getD i 0) (m.getD i 0) (max 0 (ff tk l m b i)) (lft tk l m b i) = outB tk l m t b i := rfl
      have hi1 : 0 < ff tk l m b i → i + 1 < l.length := fun g4 => by
        rcases Nat.lt_or_ge (i + 1) l.length with q | q
        · exact q
        · rw [qnm q] at g4; omega
      have zA : ¬ 0 < ff tk l m b i → outA tk l m t b i = 0 := fun g4 => quc (by unfold rgt; omega)
      by_cases g1 : 1 ≤ i
      · have hL : max 0 (0 - ff tk l m b (i - 1)) = lft tk l m b i := by unfold lft; rw [if_pos g1]
        have hL0 : 0 ≤ lft tk l m b i := by rw [← hL]; omega
        rw [show i - 1 + 1 = i by omega] at f2
        have w3 : -300000000000000000 ≤ Tk tk l m t b i (i - 1) ∧ Tk tk l m t b i (i - 1) ≤ 300000000000000000 := by
          unfold Tk; rw [if_pos (by omega), if_neg (show ¬ (i - 1 + 1 < i) by omega)]
          by_cases g3 : 1 ≤ i - 1
          · rw [if_pos (show 1 ≤ i - 1 ∧ i - 1 ≤ i by omega)]; omega
          · rw [if_neg (show ¬ (1 ≤ i - 1 ∧ i - 1 ≤ i) by omega)]; omega
        by_cases g4 : 0 < ff tk l m b i
        · have := hi1 g4
          by_cases g5 : 0 < lft tk l m b i
          · rw [← qz6 g1] at IH
            simp (disch := omega) only [nI, dT, qzf, Bool.and_true, qgo, q0l, Int.toNat_natCast, qze, imax, hL, qet, hA, hB, qgp, qzh, niF, qhl, qa9, nth1, qzu, nth0]
            exact IH
          · rw [← qz5 (que (by omega))] at IH
            simp (disch := omega) only [nI, dT, qzf, Bool.and_true, qgo, q0l, Int.toNat_natCast, qze, imax, hL, qet, hA, hB, qgp, qzh, dF, niF, qhl, qhj, qa9, nth0, qzu, nth1]
            exact IH
        · by_cases g5 : 0 < lft tk l m b i
          · rw [← qz4 g1 (zA g4)] at IH
            simp (disch := omega) only [nI, dT, qzf, Bool.and_true, qgo, q0l, Int.toNat_natCast, qze, imax, hL, qet, hA, hB, dF, qgp, qzh, Bool.true_and, niF, qhl, qhj, qa9, nth1, qzu, nth0]
            exact IH
          · rw [← qz3 (zA g4) (que (by omega))] at IH
            simp (disch := omega) only [nI, dT, qzf, Bool.and_true, qgo, q0l, Int.toNat_natCast, qze, imax, hL, qet, hA, hB, dF, qgp, qzh, Bool.true_and, niF, qhl, qhj, qa9, nth0, qzu, nth1]
            exact IH
      · have hL : (0 : Int) = lft tk l m b i := by unfold lft; rw [if_neg g1]
        have zB : outB tk l m t b i = 0 := que hL.symm
        have hA' : loA (t.getD i 0) (m.getD i 0) (max 0 (ff tk l m b i)) 0 = outA tk l m t b i := by unfold outA rgt; rw [← hL]
        have hB' : loB (t.getD i 0) (m.getD i 0) (max 0 (ff tk l m b i)) 0 = outB tk l m t b i := by unfold outB rgt; rw [← hL]
        by_cases g4 : 0 < ff tk l m b i
        · have := hi1 g4
          rw [← qz5 zB] at IH
          simp (disch := omega) only [nI, dT, qzf, Bool.and_true, dF, q0l, Int.toNat_natCast, qze, imax, qet, qgp, qzh, niF, qgo, qhj, qhl, qa9, nth0, qzu, nth1, hA', hB']
          exact IH
        · rw [← qz3 (zA g4) zB] at IH
          simp (disch := omega) only [nI, dT, qzf, Bool.and_true, dF, q0l, Int.toNat_natCast, qze, imax, qet, qgp, qzh, Bool.true_and, niF, qgo, qhj, qhl, qa9, nth0, qzu, nth1, hA', hB']
          exact IH
    · simp (disch := omega) only [nI, dF, dT, Bool.true_and, q0l, Bool.and_false, Int.toNat_natCast, imax, qgp, List.length_set, qhj, qhl]
      rw [show i = l.length by omega, qal tk l m t b hm]
theorem qae (tk : Int) (l : List Cell) (m b : List Int) (hm : m.length = l.length) : m = tab l.length (Mk tk l m b 0) := by
  have h := qzg m
  rw [hm] at h
  refine h.trans (qzd fun j hj => ?_)
  unfold Mk
  rw [if_neg (by omega), if_neg (by omega)]; omega
theorem qaa (tk : Int) (l : List Cell) (m b : List Int) : List.replicate l.length (0 : Int) = tab l.length (Fk tk l m b 0) := by
  rw [qzj]
  refine qzd fun j hj => ?_
  unfold Fk
  rw [if_neg (by omega)]
theorem qf5 (k : Nat) (hk : 2000000 ≤ k) (r : Int) (z1 z2 z3 z4 : Bool) (l : List Cell) (m t b : List Int) (F : StF r l m t b) (tk : Int) :
    go (k + 5) spec_l11Step [.agg [.int .i64 r, .arr false z1 (.r3 l), .arr false z2 (.ints .i64 m), .arr false z3 (.ints .i64 t), .arr false z4 (.ints .i64 b)], .int .i64 tk] = some [.agg [.int .i64 r, .arr true false (.r3 l), .arr true false (.ints .i64 (tab l.length (stM tk l m b))), .arr true false (.ints .i64 (tab l.length (stT tk l m t b))), .arr true false (.ints .i64 b)]] := by
  rw [qms]
  have hl := F.len; have hm := F.ml; have ht := F.tl; have hb := F.bl; have hr := F.rr
  simp (disch := omega) only [qfw, nI, dT, Bool.and_true, big0, Int.toNat_natCast, qhl, qa9, nth0, qgs, qt3, quv, qg3, qob, qg5, qg6, qgr, qzu]
  rw [show List.replicate m.length (0 : Int) = tab l.length (Fk tk l m b 0) by rw [hm]; exact qaa tk l m b]
  have e1 := qsr k hk [] r tk z1 z2 z3 z4 true true true true false false false false [] [] [] [] 0 l m t b t b l r F (k + 4) 0 (by omega) (by omega)
  have e2 := qsq k hk [] r tk z1 z2 z3 z4 true true true true [] [] [] [] 0 l m t b (tab l.length (stM tk l m b)) b l r F (k + 4) 0 (by omega) (by omega)
  rw [← qae tk l m b hm] at e1
  rw [← qan tk l m t b ht] at e2
  exact e1.trans e2
end Go.Proofs.YtoldpdhhfmlckaaGreat
end
section
namespace Go.Proofs.YtoldpdhhfmlckaaGreat
open Go.Ev
def qw2 (x0 : Int) (z1 : Bool) (l2 : List Int) (x3 x4 : Int) (z5 : Bool) (l6 : List Int) : St := ⟨fill 19 [(3, (.ptr 1 0 0)), (4, (.sl 2 none)), (5, (.int .i64 x0))], [], [(.arr false z1 (.ints IntKind.u8 l2)), (.box true [(.sl 0 none), (.int .i64 x3), (.int .i64 x4)]), (.arr true z5 (.ints .i64 l6))]⟩
def qw3 (x0 x1 : Int) (z2 : Bool) (l3 : List Int) (z4 : Bool) (l5 : List Int) : St := ⟨fill 32 [(0, (.sl 0 none)), (3, (.int .i64 x0)), (4, (.int .i64 x1))], [(.sl 0 none), .un, (.sl 1 none), .un, .un, .un, (.sl 0 none), .un, .un, .un, .un, .un, .un, .un, .un, .un, .un, .un, .un], [(.arr false z2 (.ints IntKind.u8 l3)), (.arr true z4 (.ints .i64 l5))]⟩
theorem qk9 (k : Nat) (az : Bool) (a : List Int) : go (k + 1) spec_DrawPlaces [(.arr false az (.ints IntKind.u8 a))] =
 lp k spec_DrawPlaces [] [] 7800003 k (qw3 (IntKind.wrap .i64 ((98231 : Int) + nI (List.length a))) (0 : Int) az a true []) := by kernel_rfl
theorem qps (k n : Nat) (fu : List (Nat × Nat)) (x0 : Int) (z1 : Bool) (l2 : List Int) (x3 x4 : Int) (z5 : Bool) (l6 : List Int) : lp k spec_DrawPlaces [] fu 4 (n + 1) (qw2 x0 z1 l2 x3 x4 z5 l6) =
 cond (decide (x0 < (12 : Int)))
 ((go k spec_l01Below [(.ptr true [(.arr false z1 (.ints IntKind.u8 l2)), (.int .i64 x3), (.int .i64 x4)]), (.int .i64 ((10000 : Int)))]).bind fun r0 =>
 cond (decide (List.length (l6 ++ [D.toInt (nth r0 0)]) ≤ bigLen))
 (lp k spec_DrawPlaces [] fu 4 n (qw2 (IntKind.wrap .i64 (x0 + (1 : Int))) z1 l2 (D.toInt (D.cell 1 (nth r0 1))) (D.toInt (D.cell 2 (nth r0 1))) (z5 && decide (List.length (l6 ++ [D.toInt (nth r0 0)]) = 0)) (l6 ++ [D.toInt (nth r0 0)])))
 none)
 (some [(.arr true z5 (.ints .i64 l6))]) := by kernel_rfl
theorem qpt (k n : Nat) (fu : List (Nat × Nat)) (x0 x1 : Int) (z2 : Bool) (l3 : List Int) (z4 : Bool) (l5 : List Int) : lp k spec_DrawPlaces [] fu 7800003 (n + 1) (qw3 x0 x1 z2 l3 z4 l5) =
 cond (decide (x1 < nI (List.length l3)))
 (cond (decide (x1 < (4000 : Int)))
 (cond (decide ((0 : Int) ≤ x1) && decide (x1 < nI (List.length l3)))
 (lp k spec_DrawPlaces [] fu 7800003 n (qw3 (bitN BinOp.and .i64 (IntKind.wrap .i64 (IntKind.wrap .i64 (IntKind.wrap .i64 (x0 * (131 : Int)) + IntKind.wrap .i64 (List.getD l3 (Int.toNat x1) (0 : Int))) + (7 : Int))) (1073741823 : Int)) (IntKind.wrap .i64 (x1 + (1 : Int))) z2 l3 z4 l5))
 none)
 (lp k spec_DrawPlaces [] fu 4 k (qw2 (0 : Int) z2 l3 (0 : Int) x0 false [])))
 (lp k spec_DrawPlaces [] fu 4 k (qw2 (0 : Int) z2 l3 (0 : Int) x0 false [])) := by kernel_rfl
end Go.Proofs.YtoldpdhhfmlckaaGreat
end
section
namespace Go.Proofs.YtoldpdhhfmlckaaGreat
open Go.Ev
set_option maxRecDepth 20000
def qaf (p : List Int) : Prop := p.length = 12 ∧ ∀ x ∈ p, 0 ≤ x ∧ x < 10000
theorem qsd (k : Nat) (hk : 2000000 ≤ k) (fu : List (Nat × Nat)) (z : Bool) (l : List Int) (hl : (l.length : Int) ≤ 1048576) :
    ∀ (n t : Nat) (i h : Int) (q : Bool) (p : List Int), t ≤ 12 → 12 - t < n → 0 ≤ i → i ≤ l.length → q = false → p.length = t → (∀ x ∈ p, 0 ≤ x ∧ x < 10000) →
    ∃ p' : List Int, lp (k + 2) spec_DrawPlaces [] fu 4 (n) (qw2 (t : Int) z l i h q p) = some [.arr true false (.ints .i64 p')] ∧ qaf p'
  | 0, t, i, h, q, p, ht, hn, h0, h1, hq, hp, hx => by omega
  | n + 1, t, i, h, q, p, ht, hn, h0, h1, hq, hp, hx => by
    have e := qps (k + 2) n fu (t : Int) z l i h q p
    subst hq
    by_cases g : t < 12
    · have la : ∀ x : Int, (p ++ [x]).length = t + 1 := fun x => by rw [List.length_append, hp]; rfl
      obtain ⟨u1, i1, k1, e1, b1, q1, r1⟩ := qfh k (by omega) z l i h 10000 hl h0 h1 (by omega) (by omega)
      obtain ⟨p', e2, p2⟩ := qsd k hk fu z l hl n (t + 1) i1 k1 false (p ++ [u1]) (by omega) (by omega) q1 r1 rfl (la _) (fun x hx' => by
        rcases List.mem_append.1 hx' with h | h
        · exact hx x h
        · rw [List.mem_singleton] at h; omega)
      simp (disch := omega) only [dT, e1, la, big0, qgp, q0l, dF, Bool.and_false, qhl, qa9, nth1, qut, qzu, quu, nth0, e2] at e
      exact ⟨p', e, p2⟩
    · simp (disch := omega) only [dF, big0, qgp, q0l, Bool.false_and, qhj] at e
      exact ⟨p, e, by omega, hx⟩
theorem qsc (k : Nat) (hk : 2000000 ≤ k) (fu : List (Nat × Nat)) (z : Bool) (l : List Int) (hl : (l.length : Int) ≤ 1048576) (z4 : Bool) (l5 : List Int) :
    ∀ (n t : Nat) (h : Int), t ≤ l.length → l.length - t < n →
    ∃ p : List Int, lp (k + 2) spec_DrawPlaces [] fu 7800003 (n) (qw3 h (t : Int) z l z4 l5) = some [.arr true false (.ints .i64 p)] ∧ qaf p
  | 0, t, h, ht, hn => by omega
  | n + 1, t, h, ht, hn => by
    have e := qpt (k + 2) n fu h (t : Int) z l z4 l5
    obtain ⟨p, e1, p1⟩ := qsd k hk fu z l hl (k + 2) 0 0 h false [] (by omega) (by omega) (by omega) (by omega) rfl rfl (fun x hx => by cases hx)
    rw [show ((0 : Nat) : Int) = 0 from rfl] at e1
    by_cases g : t < l.length
    · by_cases g2 : (t : Int) < 4000
      · simp (disch := omega) only [nI, dT, Bool.and_true, Int.toNat_natCast, qgp, q0l, qhl] at e
        obtain ⟨p, e3, p3⟩ := qsc k hk fu z l hl z4 l5 n (t + 1) _ (by omega) (by omega)
        exact ⟨p, e.trans e3, p3⟩
      · simp (disch := omega) only [nI, dT, dF, Bool.and_true, Int.toNat_natCast, qgp, q0l, qhl, e1, qhj] at e
        exact ⟨_, e, p1⟩
    · simp (disch := omega) only [nI, dF, dT, Bool.and_false, Int.toNat_natCast, qgp, q0l, qhj, e1] at e
      exact ⟨_, e, p1⟩
theorem qei (k : Nat) (hk : 2000000 ≤ k) (z : Bool) (l : List Int) (hl : (l.length : Int) ≤ 1048576) :
    ∃ p : List Int, go (k + 3) spec_DrawPlaces [.arr false z (.ints .u8 l)] = some [.arr true false (.ints .i64 p)] ∧ qaf p := by
  have e := qk9 (k + 2) z l
  obtain ⟨p, e3, p3⟩ := qsc k hk [] z l hl true [] (k + 2) 0 (IntKind.wrap .i64 (98231 + nI l.length)) (by omega) (by omega)
  rw [show ((0 : Nat) : Int) = 0 from rfl] at e3
  exact ⟨p, e.trans e3, p3⟩
end Go.Proofs.YtoldpdhhfmlckaaGreat
end
section
namespace Go.Proofs.YtoldpdhhfmlckaaGreat
open Go.Ev
theorem qlw (k : Nat) (a : Int) : go (k + 1) spec_SplitEven [(.int .i64 a)] =
 cond (decide (a < (0 : Int)))
 (some [(.int .i64 (0 : Int)), (.int .i64 (0 : Int))])
 (some [(.int .i64 (IntKind.wrap .i64 (a - IntKind.wrap .i64 (Int.tdiv a (2 : Int))))), (.int .i64 (IntKind.wrap .i64 (Int.tdiv a (2 : Int))))]) := by kernel_rfl
theorem qmn (k : Nat) (a0 : Int) (a1z : Bool) (a1 : List (Int × Int × Int)) (a2z : Bool) (a2 : List Int) (a3z : Bool) (a3 : List Int) (a4z : Bool) (a4 : List Int) (b : Int) : go (k + 1) spec_l08Split [(.agg [(.int .i64 a0), (.arr false a1z (.r3 a1)), (.arr false a2z (.ints .i64 a2)), (.arr false a3z (.ints .i64 a3)), (.arr false a4z (.ints .i64 a4))]), (.int .i64 b)] =
 cond (decide ((0 : Int) ≤ b) && decide (b < nI (List.length a2)))
 ((go k spec_SplitEven [(.int .i64 (List.getD a2 (Int.toNat b) (0 : Int)))]).bind fun r0 =>
 cond (decide ((0 : Int) ≤ b) && decide (b < nI (List.length a3)))
 (cond (decide ((0 : Int) ≤ b) && decide (b < nI (List.length a2)))
 ((go k spec_ShareOut [(.int .i64 (List.getD a3 (Int.toNat b) (0 : Int))), (.int .i64 (D.toInt (nth r0 0))), (.int .i64 (List.getD a2 (Int.toNat b) (0 : Int)))]).bind fun r1 =>
 cond (decide ((0 : Int) ≤ (0 : Int)) && decide ((0 : Int) ≤ b) && decide (b ≤ nI (List.length a2)))
 (cond (decide (List.length ([] ++ List.take (Int.toNat b - Int.toNat (0 : Int)) (List.drop (0 + Int.toNat (0 : Int)) a2)) ≤ bigLen))
 (cond (decide (List.length ([] ++ List.take (Int.toNat b - Int.toNat (0 : Int)) (List.drop (0 + Int.toNat (0 : Int)) a2) ++ [D.toInt (nth r0 0), D.toInt (nth r0 1)]) ≤ bigLen))
 (cond (decide ((0 : Int) ≤ (0 : Int)) && decide ((0 : Int) ≤ b) && decide (b ≤ nI (List.length a3)))
 (cond (decide (List.length ([] ++ List.take (Int.toNat b - Int.toNat (0 : Int)) (List.drop (0 + Int.toNat (0 : Int)) a3)) ≤ bigLen))
 (cond (decide ((0 : Int) ≤ b) && decide (b < nI (List.length a3)))
 (cond (decide (List.length ([] ++ List.take (Int.toNat b - Int.toNat (0 : Int)) (List.drop (0 + Int.toNat (0 : Int)) a3) ++ [D.toInt (nth r1 0), IntKind.wrap .i64 (List.getD a3 (Int.toNat b) (0 : Int) - D.toInt (nth r1 0))]) ≤ bigLen))
 ((go k spec_l05Split [(.agg [(.int .i64 a0), (.arr false a1z (.r3 a1))]), (.int .i64 b)]).bind fun r2 =>
 cond (decide ((0 : Int) ≤ IntKind.wrap .i64 (b + (1 : Int))) && decide (IntKind.wrap .i64 (b + (1 : Int)) ≤ nI (List.length a2)) && decide (nI (List.length a2) ≤ nI (List.length a2)))
 (cond (decide (List.length ([] ++ List.take (Int.toNat b - Int.toNat (0 : Int)) (List.drop (0 + Int.toNat (0 : Int)) a2) ++ [D.toInt (nth r0 0), D.toInt (nth r0 1)] ++ List.take (Int.toNat (nI (List.length a2)) - Int.toNat (IntKind.wrap .i64 (b + (1 : Int)))) (List.drop (0 + Int.toNat (IntKind.wrap .i64 (b + (1 : Int)))) a2)) ≤ bigLen))
 (cond (decide ((0 : Int) ≤ IntKind.wrap .i64 (b + (1 : Int))) && decide (IntKind.wrap .i64 (b + (1 : Int)) ≤ nI (List.length a3)) && decide (nI (List.length a3) ≤ nI (List.length a3)))
 (cond (decide (List.length ([] ++ List.take (Int.toNat b - Int.toNat (0 : Int)) (List.drop (0 + Int.toNat (0 : Int)) a3) ++ [D.toInt (nth r1 0), IntKind.wrap .i64 (List.getD a3 (Int.toNat b) (0 : Int) - D.toInt (nth r1 0))] ++ List.take (Int.toNat (nI (List.length a3)) - Int.toNat (IntKind.wrap .i64 (b + (1 : Int)))) (List.drop (0 + Int.toNat (IntKind.wrap .i64 (b + (1 : Int)))) a3)) ≤ bigLen))
 (cond (decide (List.length ([] ++ a4) ≤ bigLen))
 (some [(.agg [(.int .i64 (D.toInt (D.cell 0 (nth r2 0)))), (.arr true (D.nil (D.cell 1 (nth r2 0))) (.r3 (D.r3 (D.cell 1 (nth r2 0))))), (.arr true (false && decide (List.length ([] ++ List.take (Int.toNat b - Int.toNat (0 : Int)) (List.drop (0 + Int.toNat (0 : Int)) a2)) = 0) && decide (List.length ([] ++ List.take (Int.toNat b - Int.toNat (0 : Int)) (List.drop (0 + Int.toNat (0 : Int)) a2) ++ [D.toInt (nth r0 0), D.toInt (nth r0 1)]) = 0) && decide (List.length ([] ++ List.take (Int.toNat b - Int.toNat (0 : Int)) (List.drop (0 + Int.toNat (0 : Int)) a2) ++ [D.toInt (nth r0 0), D.toInt (nth r0 1)] ++ List.take (Int.toNat (nI (List.length a2)) - Int.toNat (IntKind.wrap .i64 (b + (1 : Int)))) (List.drop (0 + Int.toNat (IntKind.wrap .i64 (b + (1 : Int)))) a2)) = 0)) (.ints .i64 ([] ++ List.take (Int.toNat b - Int.toNat (0 : Int)) (List.drop (0 + Int.toNat (0 : Int)) a2) ++ [D.toInt (nth r0 0), D.toInt (nth r0 1)] ++ List.take (Int.toNat (nI (List.length a2)) - Int.toNat (IntKind.wrap .i64 (b + (1 : Int)))) (List.drop (0 + Int.toNat (IntKind.wrap .i64 (b + (1 : Int)))) a2)))), (.arr true (false && decide (List.length ([] ++ List.take (Int.toNat b - Int.toNat (0 : Int)) (List.drop (0 + Int.toNat (0 : Int)) a3)) = 0) && decide (List.length ([] ++ List.take (Int.toNat b - Int.toNat (0 : Int)) (List.drop (0 + Int.toNat (0 : Int)) a3) ++ [D.toInt (nth r1 0), IntKind.wrap .i64 (List.getD a3 (Int.toNat b) (0 : Int) - D.toInt (nth r1 0))]) = 0) && decide (List.length ([] ++ List.take (Int.toNat b - Int.toNat (0 : Int)) (List.drop (0 + Int.toNat (0 : Int)) a3) ++ [D.toInt (nth r1 0), IntKind.wrap .i64 (List.getD a3 (Int.toNat b) (0 : Int) - D.toInt (nth r1 0))] ++ List.take (Int.toNat (nI (List.length a3)) - Int.toNat (IntKind.wrap .i64 (b + (1 : Int)))) (List.drop (0 + Int.toNat (IntKind.wrap .i64 (b + (1 : Int)))) a3)) = 0)) (.ints .i64 ([] ++ List.take (Int.toNat b - Int.toNat (0 : Int)) (List.drop (0 + Int.toNat (0 : Int)) a3) ++ [D.toInt (nth r1 0), IntKind.wrap .i64 (List.getD a3 (Int.toNat b) (0 : Int) - D.toInt (nth r1 0))] ++ List.take (Int.toNat (nI (List.length a3)) - Int.toNat (IntKind.wrap .i64 (b + (1 : Int)))) (List.drop (0 + Int.toNat (IntKind.wrap .i64 (b + (1 : Int)))) a3)))), (.arr true (false && decide (List.length ([] ++ a4) = 0)) (.ints .i64 ([] ++ a4)))])])
 none)
 none)
 none)
 none)
 none)
 none)
 none)
 none)
 none)
 none)
 none)
 none)
 none)
 none)
 none := by kernel_rfl
theorem qmm (k : Nat) (a0 : Int) (a1z : Bool) (a1 : List (Int × Int × Int)) (a2z : Bool) (a2 : List Int) (a3z : Bool) (a3 : List Int) (a4z : Bool) (a4 : List Int) (b : Int) : go (k + 1) spec_l08Merge [(.agg [(.int .i64 a0), (.arr false a1z (.r3 a1)), (.arr false a2z (.ints .i64 a2)), (.arr false a3z (.ints .i64 a3)), (.arr false a4z (.ints .i64 a4))]), (.int .i64 b)] =
 cond (decide ((0 : Int) ≤ (0 : Int)) && decide ((0 : Int) ≤ b) && decide (b ≤ nI (List.length a2)))
 (cond (decide (List.length ([] ++ List.take (Int.toNat b - Int.toNat (0 : Int)) (List.drop (0 + Int.toNat (0 : Int)) a2)) ≤ bigLen))
 (cond (decide ((0 : Int) ≤ b) && decide (b < nI (List.length a2)))
 (cond (decide ((0 : Int) ≤ IntKind.wrap .i64 (b + (1 : Int))) && decide (IntKind.wrap .i64 (b + (1 : Int)) < nI (List.length a2)))
 (cond (decide (List.length ([] ++ List.take (Int.toNat b - Int.toNat (0 : Int)) (List.drop (0 + Int.toNat (0 : Int)) a2) ++ [IntKind.wrap .i64 (List.getD a2 (Int.toNat b) (0 : Int) + List.getD a2 (Int.toNat (IntKind.wrap .i64 (b + (1 : Int)))) (0 : Int))]) ≤ bigLen))
 (cond (decide ((0 : Int) ≤ (0 : Int)) && decide ((0 : Int) ≤ b) && decide (b ≤ nI (List.length a3)))
 (cond (decide (List.length ([] ++ List.take (Int.toNat b - Int.toNat (0 : Int)) (List.drop (0 + Int.toNat (0 : Int)) a3)) ≤ bigLen))
 (cond (decide ((0 : Int) ≤ b) && decide (b < nI (List.length a3)))
 (cond (decide ((0 : Int) ≤ IntKind.wrap .i64 (b + (1 : Int))) && decide (IntKind.wrap .i64 (b + (1 : Int)) < nI (List.length a3)))
 (cond (decide (List.length ([] ++ List.take (Int.toNat b - Int.toNat (0 : Int)) (List.drop (0 + Int.toNat (0 : Int)) a3) ++ [IntKind.wrap .i64 (List.getD a3 (Int.toNat b) (0 : Int) + List.getD a3 (Int.toNat (IntKind.wrap .i64 (b + (1 : Int)))) (0 : Int))]) ≤ bigLen))
 ((go k spec_l06Merge [(.agg [(.int .i64 a0), (.arr false a1z (.r3 a1))]), (.int .i64 b)]).bind fun r0 =>
 cond (decide ((0 : Int) ≤ IntKind.wrap .i64 (b + (2 : Int))) && decide (IntKind.wrap .i64 (b + (2 : Int)) ≤ nI (List.length a2)) && decide (nI (List.length a2) ≤ nI (List.length a2)))
 (cond (decide (List.length ([] ++ List.take (Int.toNat b - Int.toNat (0 : Int)) (List.drop (0 + Int.toNat (0 : Int)) a2) ++ [IntKind.wrap .i64 (List.getD a2 (Int.toNat b) (0 : Int) + List.getD a2 (Int.toNat (IntKind.wrap .i64 (b + (1 : Int)))) (0 : Int))] ++ List.take (Int.toNat (nI (List.length a2)) - Int.toNat (IntKind.wrap .i64 (b + (2 : Int)))) (List.drop (0 + Int.toNat (IntKind.wrap .i64 (b + (2 : Int)))) a2)) ≤ bigLen))
 (cond (decide ((0 : Int) ≤ IntKind.wrap .i64 (b + (2 : Int))) && decide (IntKind.wrap .i64 (b + (2 : Int)) ≤ nI (List.length a3)) && decide (nI (List.length a3) ≤ nI (List.length a3)))
 (cond (decide (List.length ([] ++ List.take (Int.toNat b - Int.toNat (0 : Int)) (List.drop (0 + Int.toNat (0 : Int)) a3) ++ [IntKind.wrap .i64 (List.getD a3 (Int.toNat b) (0 : Int) + List.getD a3 (Int.toNat (IntKind.wrap .i64 (b + (1 : Int)))) (0 : Int))] ++ List.take (Int.toNat (nI (List.length a3)) - Int.toNat (IntKind.wrap .i64 (b + (2 : Int)))) (List.drop (0 + Int.toNat (IntKind.wrap .i64 (b + (2 : Int)))) a3)) ≤ bigLen))
 (cond (decide (List.length ([] ++ a4) ≤ bigLen))
 (some [(.agg [(.int .i64 (D.toInt (D.cell 0 (nth r0 0)))), (.arr true (D.nil (D.cell 1 (nth r0 0))) (.r3 (D.r3 (D.cell 1 (nth r0 0))))), (.arr true (false && decide (List.length ([] ++ List.take (Int.toNat b - Int.toNat (0 : Int)) (List.drop (0 + Int.toNat (0 : Int)) a2)) = 0) && decide (List.length ([] ++ List.take (Int.toNat b - Int.toNat (0 : Int)) (List.drop (0 + Int.toNat (0 : Int)) a2) ++ [IntKind.wrap .i64 (List.getD a2 (Int.toNat b) (0 : Int) + List.getD a2 (Int.toNat (IntKind.wrap .i64 (b + (1 : Int)))) (0 : Int))]) = 0) && decide (List.length ([] ++ List.take (Int.toNat b - Int.toNat (0 : Int)) (List.drop (0 + Int.toNat (0 : Int)) a2) ++ [IntKind.wrap .i64 (List.getD a2 (Int.toNat b) (0 : Int) + List.getD a2 (Int.toNat (IntKind.wrap .i64 (b + (1 : Int)))) (0 : Int))] ++ List.take (Int.toNat (nI (List.length a2)) - Int.toNat (IntKind.wrap .i64 (b + (2 : Int)))) (List.drop (0 + Int.toNat (IntKind.wrap .i64 (b + (2 : Int)))) a2)) = 0)) (.ints .i64 ([] ++ List.take (Int.toNat b - Int.toNat (0 : Int)) (List.drop (0 + Int.toNat (0 : Int)) a2) ++ [IntKind.wrap .i64 (List.getD a2 (Int.toNat b) (0 : Int) + List.getD a2 (Int.toNat (IntKind.wrap .i64 (b + (1 : Int)))) (0 : Int))] ++ List.take (Int.toNat (nI (List.length a2)) - Int.toNat (IntKind.wrap .i64 (b + (2 : Int)))) (List.drop (0 + Int.toNat (IntKind.wrap .i64 (b + (2 : Int)))) a2)))), (.arr true (false && decide (List.length ([] ++ List.take (Int.toNat b - Int.toNat (0 : Int)) (List.drop (0 + Int.toNat (0 : Int)) a3)) = 0) && decide (List.length ([] ++ List.take (Int.toNat b - Int.toNat (0 : Int)) (List.drop (0 + Int.toNat (0 : Int)) a3) ++ [IntKind.wrap .i64 (List.getD a3 (Int.toNat b) (0 : Int) + List.getD a3 (Int.toNat (IntKind.wrap .i64 (b + (1 : Int)))) (0 : Int))]) = 0) && decide (List.length ([] ++ List.take (Int.toNat b - Int.toNat (0 : Int)) (List.drop (0 + Int.toNat (0 : Int)) a3) ++ [IntKind.wrap .i64 (List.getD a3 (Int.toNat b) (0 : Int) + List.getD a3 (Int.toNat (IntKind.wrap .i64 (b + (1 : Int)))) (0 : Int))] ++ List.take (Int.toNat (nI (List.length a3)) - Int.toNat (IntKind.wrap .i64 (b + (2 : Int)))) (List.drop (0 + Int.toNat (IntKind.wrap .i64 (b + (2 : Int)))) a3)) = 0)) (.ints .i64 ([] ++ List.take (Int.toNat b - Int.toNat (0 : Int)) (List.drop (0 + Int.toNat (0 : Int)) a3) ++ [IntKind.wrap .i64 (List.getD a3 (Int.toNat b) (0 : Int) + List.getD a3 (Int.toNat (IntKind.wrap .i64 (b + (1 : Int)))) (0 : Int))] ++ List.take (Int.toNat (nI (List.length a3)) - Int.toNat (IntKind.wrap .i64 (b + (2 : Int)))) (List.drop (0 + Int.toNat (IntKind.wrap .i64 (b + (2 : Int)))) a3)))), (.arr true (false && decide (List.length ([] ++ a4) = 0)) (.ints .i64 ([] ++ a4)))])])
 none)
 none)
 none)
 none)
 none)
 none)
 none)
 none)
 none)
 none)
 none)
 none)
 none)
 none)
 none := by kernel_rfl
theorem qmh (k : Nat) (a0 : Int) (a1z : Bool) (a1 : List (Int × Int × Int)) (b : Int) : go (k + 1) spec_l06Merge [(.agg [(.int .i64 a0), (.arr false a1z (.r3 a1))]), (.int .i64 b)] =
 cond (decide ((0 : Int) ≤ b) && decide (b < nI (List.length a1)))
 ((go k spec_ParentOf [(.agg [(.int .i64 (Prod.fst (List.getD a1 (Int.toNat b) zz3))), (.int .i64 (Prod.fst (Prod.snd (List.getD a1 (Int.toNat b) zz3)))), (.int .i64 (Prod.snd (Prod.snd (List.getD a1 (Int.toNat b) zz3))))])]).bind fun r0 =>
 cond (decide ((0 : Int) ≤ (0 : Int)) && decide ((0 : Int) ≤ b) && decide (b ≤ nI (List.length a1)))
 (cond (decide (List.length ([] ++ List.take (Int.toNat b - Int.toNat (0 : Int)) (List.drop (0 + Int.toNat (0 : Int)) a1)) ≤ bigLen))
 (cond (decide (List.length ([] ++ List.take (Int.toNat b - Int.toNat (0 : Int)) (List.drop (0 + Int.toNat (0 : Int)) a1) ++ [(D.toInt (D.cell 0 (nth r0 0)), D.toInt (D.cell 1 (nth r0 0)), D.toInt (D.cell 2 (nth r0 0)))]) ≤ bigLen))
 (cond (decide ((0 : Int) ≤ IntKind.wrap .i64 (b + (2 : Int))) && decide (IntKind.wrap .i64 (b + (2 : Int)) ≤ nI (List.length a1)) && decide (nI (List.length a1) ≤ nI (List.length a1)))
 (cond (decide (List.length ([] ++ List.take (Int.toNat b - Int.toNat (0 : Int)) (List.drop (0 + Int.toNat (0 : Int)) a1) ++ [(D.toInt (D.cell 0 (nth r0 0)), D.toInt (D.cell 1 (nth r0 0)), D.toInt (D.cell 2 (nth r0 0)))] ++ List.take (Int.toNat (nI (List.length a1)) - Int.toNat (IntKind.wrap .i64 (b + (2 : Int)))) (List.drop (0 + Int.toNat (IntKind.wrap .i64 (b + (2 : Int)))) a1)) ≤ bigLen))
 (some [(.agg [(.int .i64 a0), (.arr true (false && decide (List.length ([] ++ List.take (Int.toNat b - Int.toNat (0 : Int)) (List.drop (0 + Int.toNat (0 : Int)) a1)) = 0) && decide (List.length ([] ++ List.take (Int.toNat b - Int.toNat (0 : Int)) (List.drop (0 + Int.toNat (0 : Int)) a1) ++ [(D.toInt (D.cell 0 (nth r0 0)), D.toInt (D.cell 1 (nth r0 0)), D.toInt (D.cell 2 (nth r0 0)))]) = 0) && decide (List.length ([] ++ List.take (Int.toNat b - Int.toNat (0 : Int)) (List.drop (0 + Int.toNat (0 : Int)) a1) ++ [(D.toInt (D.cell 0 (nth r0 0)), D.toInt (D.cell 1 (nth r0 0)), D.toInt (D.cell 2 (nth r0 0)))] ++ List.take (Int.toNat (nI (List.length a1)) - Int.toNat (IntKind.wrap .i64 (b + (2 : Int)))) (List.drop (0 + Int.toNat (IntKind.wrap .i64 (b + (2 : Int)))) a1)) = 0)) (.r3 ([] ++ List.take (Int.toNat b - Int.toNat (0 : Int)) (List.drop (0 + Int.toNat (0 : Int)) a1) ++ [(D.toInt (D.cell 0 (nth r0 0)), D.toInt (D.cell 1 (nth r0 0)), D.toInt (D.cell 2 (nth r0 0)))] ++ List.take (Int.toNat (nI (List.length a1)) - Int.toNat (IntKind.wrap .i64 (b + (2 : Int)))) (List.drop (0 + Int.toNat (IntKind.wrap .i64 (b + (2 : Int)))) a1))))])])
 none)
 none)
 none)
 none)
 none)
 none := by kernel_rfl
theorem qmg (k : Nat) (a0 : Int) (a1z : Bool) (a1 : List (Int × Int × Int)) (b : Int) : go (k + 1) spec_l06May [(.agg [(.int .i64 a0), (.arr false a1z (.r3 a1))]), (.int .i64 b)] =
 cond (decide ((0 : Int) ≤ b) && decide (b < nI (List.length a1)))
 (cond (decide ((0 : Int) ≤ b) && decide (b < nI (List.length a1)))
 (cond (decide ((0 : Int) ≤ IntKind.wrap .i64 (b + (1 : Int))) && decide (IntKind.wrap .i64 (b + (1 : Int)) < nI (List.length a1)))
 ((go k spec_IsSibling [(.agg [(.int .i64 (Prod.fst (List.getD a1 (Int.toNat b) zz3))), (.int .i64 (Prod.fst (Prod.snd (List.getD a1 (Int.toNat b) zz3)))), (.int .i64 (Prod.snd (Prod.snd (List.getD a1 (Int.toNat b) zz3))))]), (.agg [(.int .i64 (Prod.fst (List.getD a1 (Int.toNat (IntKind.wrap .i64 (b + (1 : Int)))) zz3))), (.int .i64 (Prod.fst (Prod.snd (List.getD a1 (Int.toNat (IntKind.wrap .i64 (b + (1 : Int)))) zz3)))), (.int .i64 (Prod.snd (Prod.snd (List.getD a1 (Int.toNat (IntKind.wrap .i64 (b + (1 : Int)))) zz3))))])]).bind fun r0 =>
 cond (!bit (nth r0 0))
 (some [(.bool false)])
 (cond (decide (b = (0 : Int)))
 (cond (decide (nI (List.length a1) ≤ IntKind.wrap .i64 (b + (2 : Int))))
 (some [(.bool true)])
 (cond (decide ((0 : Int) ≤ IntKind.wrap .i64 (b + (2 : Int))) && decide (IntKind.wrap .i64 (b + (2 : Int)) < nI (List.length a1)))
 (some [(.bool (decide (Prod.fst (Prod.snd (List.getD a1 (Int.toNat (IntKind.wrap .i64 (b + (2 : Int)))) zz3)) ≤ Prod.fst (Prod.snd (List.getD a1 (Int.toNat b) zz3)))))])
 none))
 (cond (decide ((0 : Int) ≤ IntKind.wrap .i64 (b - (1 : Int))) && decide (IntKind.wrap .i64 (b - (1 : Int)) < nI (List.length a1)))
 (cond (decide (Prod.fst (Prod.snd (List.getD a1 (Int.toNat (IntKind.wrap .i64 (b - (1 : Int)))) zz3)) ≤ Prod.fst (Prod.snd (List.getD a1 (Int.toNat b) zz3))))
 (cond (decide (nI (List.length a1) ≤ IntKind.wrap .i64 (b + (2 : Int))))
 (some [(.bool true)])
 (cond (decide ((0 : Int) ≤ IntKind.wrap .i64 (b + (2 : Int))) && decide (IntKind.wrap .i64 (b + (2 : Int)) < nI (List.length a1)))
 (some [(.bool (decide (Prod.fst (Prod.snd (List.getD a1 (Int.toNat (IntKind.wrap .i64 (b + (2 : Int)))) zz3)) ≤ Prod.fst (Prod.snd (List.getD a1 (Int.toNat b) zz3)))))])
 none))
 (some [(.bool false)]))
 none)))
 none)
 none)
 none := by kernel_rfl
end Go.Proofs.YtoldpdhhfmlckaaGreat
end
section
namespace Go.Proofs.YtoldpdhhfmlckaaGreat
open Go.Ev
def qxl (x0 : Int) (z1 : Bool) (l2 : List (Int × Int × Int)) (z3 : Bool) (l4 : List Int) (z5 : Bool) (l6 : List Int) (z7 : Bool) (l8 : List Int) (x9 : Int) (z10 : Bool) (l11 : List (Int × Int × Int)) (z12 : Bool) (l13 : List Int) (z14 : Bool) (l15 : List Int) (z16 : Bool) (l17 : List Int) (x18 : Int) : St := ⟨fill 19 [(1, (.ptr 4 0 0)), (2, (.ptr 9 0 0)), (3, (.int .i64 x0))], [], [(.arr true z1 (.r3 l2)), (.arr true z3 (.ints .i64 l4)), (.arr true z5 (.ints .i64 l6)), (.arr true z7 (.ints .i64 l8)), (.box true [(.int .i64 x9), (.sl 0 none), (.sl 1 none), (.sl 2 none), (.sl 3 none)]), (.arr true z10 (.r3 l11)), (.arr true z12 (.ints .i64 l13)), (.arr true z14 (.ints .i64 l15)), (.arr true z16 (.ints .i64 l17)), (.box true [(.int .i64 x18), (.sl 5 none), (.sl 6 none), (.sl 7 none), (.sl 8 none)])]⟩
theorem qml (k : Nat) (a0 : Int) (a1z : Bool) (a1 : List (Int × Int × Int)) (a2z : Bool) (a2 : List Int) (a3z : Bool) (a3 : List Int) (a4z : Bool) (a4 : List Int) : go (k + 1) spec_l08Level [(.agg [(.int .i64 a0), (.arr true a1z (.r3 a1)), (.arr true a2z (.ints .i64 a2)), (.arr true a3z (.ints .i64 a3)), (.arr true a4z (.ints .i64 a4))])] =
 (go k spec_l05First [(.agg [(.int .i64 a0), (.arr false a1z (.r3 a1))])]).bind fun r0 =>
 lp k spec_l08Level [] [] 2 k (qxl (D.toInt (nth r0 0)) a1z a1 a2z a2 a3z a3 a4z a4 a0 true [] true [] true [] true [] (0 : Int)) := by kernel_rfl
theorem qqb (k n : Nat) (fu : List (Nat × Nat)) (x0 : Int) (z1 : Bool) (l2 : List (Int × Int × Int)) (z3 : Bool) (l4 : List Int) (z5 : Bool) (l6 : List Int) (z7 : Bool) (l8 : List Int) (x9 : Int) (z10 : Bool) (l11 : List (Int × Int × Int)) (z12 : Bool) (l13 : List Int) (z14 : Bool) (l15 : List Int) (z16 : Bool) (l17 : List Int) (x18 : Int) : lp k spec_l08Level [] fu 2 (n + 1) (qxl x0 z1 l2 z3 l4 z5 l6 z7 l8 x9 z10 l11 z12 l13 z14 l15 z16 l17 x18) =
 cond (decide ((0 : Int) ≤ x0))
 ((go k spec_l05Coarser [(.agg [(.int .i64 x9), (.arr false z1 (.r3 l2))]), (.int .i64 x0)]).bind fun r0 =>
 (go k spec_l08Split [(.agg [(.int .i64 x9), (.arr false z1 (.r3 l2)), (.arr false z3 (.ints .i64 l4)), (.arr false z5 (.ints .i64 l6)), (.arr false z7 (.ints .i64 l8))]), (.int .i64 (D.toInt (nth r0 0)))]).bind fun r1 =>
 (go k spec_l05First [(.agg [(.int .i64 (D.toInt (D.cell 0 (nth r1 0)))), (.arr false (D.nil (D.cell 1 (nth r1 0))) (.r3 (D.r3 (D.cell 1 (nth r1 0)))))])]).bind fun r2 =>
 lp k spec_l08Level [] fu 2 n (qxl (D.toInt (nth r2 0)) (D.nil (D.cell 1 (nth r1 0))) (D.r3 (D.cell 1 (nth r1 0))) (D.nil (D.cell 2 (nth r1 0))) (D.ints (D.cell 2 (nth r1 0))) (D.nil (D.cell 3 (nth r1 0))) (D.ints (D.cell 3 (nth r1 0))) (D.nil (D.cell 4 (nth r1 0))) (D.ints (D.cell 4 (nth r1 0))) (D.toInt (D.cell 0 (nth r1 0))) z10 l11 z12 l13 z14 l15 z16 l17 x18))
 (some [(.agg [(.int .i64 x9), (.arr true z1 (.r3 l2)), (.arr true z3 (.ints .i64 l4)), (.arr true z5 (.ints .i64 l6)), (.arr true z7 (.ints .i64 l8))])]) := by kernel_rfl
def qxt (x0 : Int) (z1 : Bool) (l2 : List (Int × Int × Int)) (z3 : Bool) (l4 : List Int) (z5 : Bool) (l6 : List Int) (z7 : Bool) (l8 : List Int) (x9 : Int) (z10 : Bool) (l11 : List (Int × Int × Int)) (z12 : Bool) (l13 : List Int) (z14 : Bool) (l15 : List Int) (z16 : Bool) (l17 : List Int) (x18 : Int) (z19 : Bool) (l20 : List Int) (z21 : Bool) (l22 : List (Int × Int × Int)) (z23 : Bool) (l24 : List Int) (z25 : Bool) (l26 : List Int) (z27 : Bool) (l28 : List Int) (x29 : Int) : St := ⟨fill 93 [(3, (.ptr 4 0 0)), (6, (.ptr 9 0 0)), (7, (.sl 10 none)), (8, (.ptr 15 0 0)), (10, (.int .i64 x0))], [], [(.arr false z1 (.r3 l2)), (.arr false z3 (.ints .i64 l4)), (.arr false z5 (.ints .i64 l6)), (.arr false z7 (.ints .i64 l8)), (.box true [(.int .i64 x9), (.sl 0 none), (.sl 1 none), (.sl 2 none), (.sl 3 none)]), (.arr true z10 (.r3 l11)), (.arr true z12 (.ints .i64 l13)), (.arr true z14 (.ints .i64 l15)), (.arr true z16 (.ints .i64 l17)), (.box true [(.int .i64 x18), (.sl 5 none), (.sl 6 none), (.sl 7 none), (.sl 8 none)]), (.arr true z19 (.ints .i64 l20)), (.arr true z21 (.r3 l22)), (.arr true z23 (.ints .i64 l24)), (.arr true z25 (.ints .i64 l26)), (.arr true z27 (.ints .i64 l28)), (.box true [(.int .i64 x29), (.sl 11 none), (.sl 12 none), (.sl 13 none), (.sl 14 none)])]⟩
def qxu (x0 : Int) (z1 : Bool) (l2 : List (Int × Int × Int)) (z3 : Bool) (l4 : List Int) (z5 : Bool) (l6 : List Int) (z7 : Bool) (l8 : List Int) (x9 : Int) (z10 : Bool) (l11 : List (Int × Int × Int)) (z12 : Bool) (l13 : List Int) (z14 : Bool) (l15 : List Int) (z16 : Bool) (l17 : List Int) (x18 : Int) (z19 : Bool) (l20 : List Int) (z21 : Bool) (l22 : List (Int × Int × Int)) (z23 : Bool) (l24 : List Int) (z25 : Bool) (l26 : List Int) (z27 : Bool) (l28 : List Int) (x29 : Int) : St := ⟨fill 93 [(3, (.ptr 4 0 0)), (6, (.ptr 9 0 0)), (7, (.sl 10 none)), (8, (.ptr 15 0 0)), (9, (.int .i64 x0))], [], [(.arr false z1 (.r3 l2)), (.arr false z3 (.ints .i64 l4)), (.arr false z5 (.ints .i64 l6)), (.arr false z7 (.ints .i64 l8)), (.box true [(.int .i64 x9), (.sl 0 none), (.sl 1 none), (.sl 2 none), (.sl 3 none)]), (.arr true z10 (.r3 l11)), (.arr true z12 (.ints .i64 l13)), (.arr true z14 (.ints .i64 l15)), (.arr true z16 (.ints .i64 l17)), (.box true [(.int .i64 x18), (.sl 5 none), (.sl 6 none), (.sl 7 none), (.sl 8 none)]), (.arr true z19 (.ints .i64 l20)), (.arr true z21 (.r3 l22)), (.arr true z23 (.ints .i64 l24)), (.arr true z25 (.ints .i64 l26)), (.arr true z27 (.ints .i64 l28)), (.box true [(.int .i64 x29), (.sl 11 none), (.sl 12 none), (.sl 13 none), (.sl 14 none)])]⟩
theorem qm2 (k : Nat) (a0 : Int) (a1z : Bool) (a1 : List (Int × Int × Int)) (a2z : Bool) (a2 : List Int) (a3z : Bool) (a3 : List Int) (a4z : Bool) (a4 : List Int) (b c : Int) : go (k + 1) spec_l17Adapt [(.agg [(.int .i64 a0), (.arr false a1z (.r3 a1)), (.arr false a2z (.ints .i64 a2)), (.arr false a3z (.ints .i64 a3)), (.arr false a4z (.ints .i64 a4))]), (.int .i64 b), (.int .i64 c)] =
 (go k spec_l16Wishes [(.agg [(.int .i64 a0), (.arr false a1z (.r3 a1)), (.arr false a2z (.ints .i64 a2)), (.arr false a3z (.ints .i64 a3)), (.arr false a4z (.ints .i64 a4))]), (.int .i64 b), (.int .i64 c)]).bind fun r0 =>
 (go k spec_l07Copy [(.agg [(.int .i64 a0), (.arr false a1z (.r3 a1)), (.arr false a2z (.ints .i64 a2)), (.arr false a3z (.ints .i64 a3)), (.arr false a4z (.ints .i64 a4))])]).bind fun r1 =>
 lp k spec_l17Adapt [] [] 4 k (qxu (IntKind.wrap .i64 (nI (List.length (D.ints (nth r0 0))) - (1 : Int))) a1z a1 a2z a2 a3z a3 a4z a4 a0 true [] true [] true [] true [] (0 : Int) (D.nil (nth r0 0)) (D.ints (nth r0 0)) (D.nil (D.cell 1 (nth r1 0))) (D.r3 (D.cell 1 (nth r1 0))) (D.nil (D.cell 2 (nth r1 0))) (D.ints (D.cell 2 (nth r1 0))) (D.nil (D.cell 3 (nth r1 0))) (D.ints (D.cell 3 (nth r1 0))) (D.nil (D.cell 4 (nth r1 0))) (D.ints (D.cell 4 (nth r1 0))) (D.toInt (D.cell 0 (nth r1 0)))) := by kernel_rfl
theorem qqj (k n : Nat) (fu : List (Nat × Nat)) (x0 : Int) (z1 : Bool) (l2 : List (Int × Int × Int)) (z3 : Bool) (l4 : List Int) (z5 : Bool) (l6 : List Int) (z7 : Bool) (l8 : List Int) (x9 : Int) (z10 : Bool) (l11 : List (Int × Int × Int)) (z12 : Bool) (l13 : List Int) (z14 : Bool) (l15 : List Int) (z16 : Bool) (l17 : List Int) (x18 : Int) (z19 : Bool) (l20 : List Int) (z21 : Bool) (l22 : List (Int × Int × Int)) (z23 : Bool) (l24 : List Int) (z25 : Bool) (l26 : List Int) (z27 : Bool) (l28 : List Int) (x29 : Int) : lp k spec_l17Adapt [] fu 10 (n + 1) (qxt x0 z1 l2 z3 l4 z5 l6 z7 l8 x9 z10 l11 z12 l13 z14 l15 z16 l17 x18 z19 l20 z21 l22 z23 l24 z25 l26 z27 l28 x29) =
 cond (decide (IntKind.wrap .i64 (x0 + (1 : Int)) < nI (List.length l24)))
 (cond (decide ((0 : Int) ≤ x0) && decide (x0 < nI (List.length l22)))
 ((go k spec_LeafOf [(.agg [(.int .i64 x9), (.arr false z1 (.r3 l2))]), (.agg [(.int .i64 (Prod.fst (List.getD l22 (Int.toNat x0) zz3))), (.int .i64 (Prod.fst (Prod.snd (List.getD l22 (Int.toNat x0) zz3)))), (.int .i64 (Prod.snd (Prod.snd (List.getD l22 (Int.toNat x0) zz3))))])]).bind fun r0 =>
 cond (decide ((0 : Int) ≤ IntKind.wrap .i64 (x0 + (1 : Int))) && decide (IntKind.wrap .i64 (x0 + (1 : Int)) < nI (List.length l22)))
 ((go k spec_LeafOf [(.agg [(.int .i64 x9), (.arr false z1 (.r3 l2))]), (.agg [(.int .i64 (Prod.fst (List.getD l22 (Int.toNat (IntKind.wrap .i64 (x0 + (1 : Int)))) zz3))), (.int .i64 (Prod.fst (Prod.snd (List.getD l22 (Int.toNat (IntKind.wrap .i64 (x0 + (1 : Int)))) zz3)))), (.int .i64 (Prod.snd (Prod.snd (List.getD l22 (Int.toNat (IntKind.wrap .i64 (x0 + (1 : Int)))) zz3))))])]).bind fun r1 =>
 cond (decide ((0 : Int) ≤ D.toInt (nth r0 0)))
 (cond (decide ((0 : Int) ≤ D.toInt (nth r1 0)))
 (cond (decide ((0 : Int) ≤ D.toInt (nth r0 0)) && decide (D.toInt (nth r0 0) < nI (List.length l20)))
 (cond (decide (List.getD l20 (Int.toNat (D.toInt (nth r0 0))) (0 : Int) = (-1 : Int)))
 (cond (decide ((0 : Int) ≤ D.toInt (nth r1 0)) && decide (D.toInt (nth r1 0) < nI (List.length l20)))
 (cond (decide (List.getD l20 (Int.toNat (D.toInt (nth r1 0))) (0 : Int) = (-1 : Int)))
 ((go k spec_l06May [(.agg [(.int .i64 x29), (.arr false z21 (.r3 l22))]), (.int .i64 x0)]).bind fun r2 =>
 cond (bit (nth r2 0))
 ((go k spec_l08Merge [(.agg [(.int .i64 x29), (.arr false z21 (.r3 l22)), (.arr false z23 (.ints .i64 l24)), (.arr false z25 (.ints .i64 l26)), (.arr false z27 (.ints .i64 l28))]), (.int .i64 x0)]).bind fun r3 =>
 lp k spec_l17Adapt [] fu 10 n (qxt (IntKind.wrap .i64 (x0 + (1 : Int))) z1 l2 z3 l4 z5 l6 z7 l8 x9 z10 l11 z12 l13 z14 l15 z16 l17 x18 z19 l20 (D.nil (D.cell 1 (nth r3 0))) (D.r3 (D.cell 1 (nth r3 0))) (D.nil (D.cell 2 (nth r3 0))) (D.ints (D.cell 2 (nth r3 0))) (D.nil (D.cell 3 (nth r3 0))) (D.ints (D.cell 3 (nth r3 0))) (D.nil (D.cell 4 (nth r3 0))) (D.ints (D.cell 4 (nth r3 0))) (D.toInt (D.cell 0 (nth r3 0)))))
 (lp k spec_l17Adapt [] fu 10 n (qxt (IntKind.wrap .i64 (x0 + (1 : Int))) z1 l2 z3 l4 z5 l6 z7 l8 x9 z10 l11 z12 l13 z14 l15 z16 l17 x18 z19 l20 z21 l22 z23 l24 z25 l26 z27 l28 x29)))
 (lp k spec_l17Adapt [] fu 10 n (qxt (IntKind.wrap .i64 (x0 + (1 : Int))) z1 l2 z3 l4 z5 l6 z7 l8 x9 z10 l11 z12 l13 z14 l15 z16 l17 x18 z19 l20 z21 l22 z23 l24 z25 l26 z27 l28 x29)))
 none)
 (lp k spec_l17Adapt [] fu 10 n (qxt (IntKind.wrap .i64 (x0 + (1 : Int))) z1 l2 z3 l4 z5 l6 z7 l8 x9 z10 l11 z12 l13 z14 l15 z16 l17 x18 z19 l20 z21 l22 z23 l24 z25 l26 z27 l28 x29)))
 none)
 (lp k spec_l17Adapt [] fu 10 n (qxt (IntKind.wrap .i64 (x0 + (1 : Int))) z1 l2 z3 l4 z5 l6 z7 l8 x9 z10 l11 z12 l13 z14 l15 z16 l17 x18 z19 l20 z21 l22 z23 l24 z25 l26 z27 l28 x29)))
 (lp k spec_l17Adapt [] fu 10 n (qxt (IntKind.wrap .i64 (x0 + (1 : Int))) z1 l2 z3 l4 z5 l6 z7 l8 x9 z10 l11 z12 l13 z14 l15 z16 l17 x18 z19 l20 z21 l22 z23 l24 z25 l26 z27 l28 x29)))
 none)
 none)
 (some [(.agg [(.int .i64 x29), (.arr true z21 (.r3 l22)), (.arr true z23 (.ints .i64 l24)), (.arr true z25 (.ints .i64 l26)), (.arr true z27 (.ints .i64 l28))])]) := by kernel_rfl
theorem qqk (k n : Nat) (fu : List (Nat × Nat)) (x0 : Int) (z1 : Bool) (l2 : List (Int × Int × Int)) (z3 : Bool) (l4 : List Int) (z5 : Bool) (l6 : List Int) (z7 : Bool) (l8 : List Int) (x9 : Int) (z10 : Bool) (l11 : List (Int × Int × Int)) (z12 : Bool) (l13 : List Int) (z14 : Bool) (l15 : List Int) (z16 : Bool) (l17 : List Int) (x18 : Int) (z19 : Bool) (l20 : List Int) (z21 : Bool) (l22 : List (Int × Int × Int)) (z23 : Bool) (l24 : List Int) (z25 : Bool) (l26 : List Int) (z27 : Bool) (l28 : List Int) (x29 : Int) : lp k spec_l17Adapt [] fu 4 (n + 1) (qxu x0 z1 l2 z3 l4 z5 l6 z7 l8 x9 z10 l11 z12 l13 z14 l15 z16 l17 x18 z19 l20 z21 l22 z23 l24 z25 l26 z27 l28 x29) =
 cond (decide ((0 : Int) ≤ x0))
 (cond (decide ((0 : Int) ≤ x0) && decide (x0 < nI (List.length l20)))
 (cond (decide (List.getD l20 (Int.toNat x0) (0 : Int) = (1 : Int)))
 ((go k spec_l08Split [(.agg [(.int .i64 x29), (.arr false z21 (.r3 l22)), (.arr false z23 (.ints .i64 l24)), (.arr false z25 (.ints .i64 l26)), (.arr false z27 (.ints .i64 l28))]), (.int .i64 x0)]).bind fun r0 =>
 lp k spec_l17Adapt [] fu 4 n (qxu (IntKind.wrap .i64 (x0 - (1 : Int))) z1 l2 z3 l4 z5 l6 z7 l8 x9 z10 l11 z12 l13 z14 l15 z16 l17 x18 z19 l20 (D.nil (D.cell 1 (nth r0 0))) (D.r3 (D.cell 1 (nth r0 0))) (D.nil (D.cell 2 (nth r0 0))) (D.ints (D.cell 2 (nth r0 0))) (D.nil (D.cell 3 (nth r0 0))) (D.ints (D.cell 3 (nth r0 0))) (D.nil (D.cell 4 (nth r0 0))) (D.ints (D.cell 4 (nth r0 0))) (D.toInt (D.cell 0 (nth r0 0)))))
 (lp k spec_l17Adapt [] fu 4 n (qxu (IntKind.wrap .i64 (x0 - (1 : Int))) z1 l2 z3 l4 z5 l6 z7 l8 x9 z10 l11 z12 l13 z14 l15 z16 l17 x18 z19 l20 z21 l22 z23 l24 z25 l26 z27 l28 x29)))
 none)
 ((go k spec_l08Level [(.agg [(.int .i64 x29), (.arr true z21 (.r3 l22)), (.arr true z23 (.ints .i64 l24)), (.arr true z25 (.ints .i64 l26)), (.arr true z27 (.ints .i64 l28))])]).bind fun r1 =>
 lp k spec_l17Adapt [] fu 10 k (qxt (0 : Int) z1 l2 z3 l4 z5 l6 z7 l8 x9 z10 l11 z12 l13 z14 l15 z16 l17 x18 z19 l20 (D.nil (D.cell 1 (nth r1 0))) (D.r3 (D.cell 1 (nth r1 0))) (D.nil (D.cell 2 (nth r1 0))) (D.ints (D.cell 2 (nth r1 0))) (D.nil (D.cell 3 (nth r1 0))) (D.ints (D.cell 3 (nth r1 0))) (D.nil (D.cell 4 (nth r1 0))) (D.ints (D.cell 4 (nth r1 0))) (D.toInt (D.cell 0 (nth r1 0))))) := by kernel_rfl
def qxs (x0 x1 x2 : Int) (z3 : Bool) (l4 : List (Int × Int × Int)) (z5 : Bool) (l6 : List Int) (z7 : Bool) (l8 : List Int) (z9 : Bool) (l10 : List Int) (x11 : Int) (z12 : Bool) (l13 : List Int) : St := ⟨fill 53 [(1, (.int .i64 x0)), (2, (.int .i64 x1)), (3, (.ptr 4 0 0)), (7, (.sl 5 none)), (8, (.int .i64 x2))], [], [(.arr false z3 (.r3 l4)), (.arr false z5 (.ints .i64 l6)), (.arr false z7 (.ints .i64 l8)), (.arr false z9 (.ints .i64 l10)), (.box true [(.int .i64 x11), (.sl 0 none), (.sl 1 none), (.sl 2 none), (.sl 3 none)]), (.arr true z12 (.ints .i64 l13))]⟩
theorem qm1 (k : Nat) (a0 : Int) (a1z : Bool) (a1 : List (Int × Int × Int)) (a2z : Bool) (a2 : List Int) (a3z : Bool) (a3 : List Int) (a4z : Bool) (a4 : List Int) (b c : Int) : go (k + 1) spec_l16Wishes [(.agg [(.int .i64 a0), (.arr false a1z (.r3 a1)), (.arr false a2z (.ints .i64 a2)), (.arr false a3z (.ints .i64 a3)), (.arr false a4z (.ints .i64 a4))]), (.int .i64 b), (.int .i64 c)] =
 lp k spec_l16Wishes [] [] 3 k (qxs b c (0 : Int) a1z a1 a2z a2 a3z a3 a4z a4 a0 false []) := by kernel_rfl
theorem qqi (k n : Nat) (fu : List (Nat × Nat)) (x0 x1 x2 : Int) (z3 : Bool) (l4 : List (Int × Int × Int)) (z5 : Bool) (l6 : List Int) (z7 : Bool) (l8 : List Int) (z9 : Bool) (l10 : List Int) (x11 : Int) (z12 : Bool) (l13 : List Int) : lp k spec_l16Wishes [] fu 3 (n + 1) (qxs x0 x1 x2 z3 l4 z5 l6 z7 l8 z9 l10 x11 z12 l13) =
 cond (decide (x2 < nI (List.length l6)))
 ((go k spec_l16Jump [(.agg [(.int .i64 x11), (.arr false z3 (.r3 l4)), (.arr false z5 (.ints .i64 l6)), (.arr false z7 (.ints .i64 l8)), (.arr false z9 (.ints .i64 l10))]), (.int .i64 x2)]).bind fun r0 =>
 cond (decide (x0 < D.toInt (nth r0 0)))
 (cond (decide ((0 : Int) ≤ x2) && decide (x2 < nI (List.length l4)))
 (cond (decide (Prod.fst (Prod.snd (List.getD l4 (Int.toNat x2) zz3)) < (4 : Int)))
 (cond (decide (List.length (l13 ++ [(1 : Int)]) ≤ bigLen))
 (lp k spec_l16Wishes [] fu 3 n (qxs x0 x1 (IntKind.wrap .i64 (x2 + (1 : Int))) z3 l4 z5 l6 z7 l8 z9 l10 x11 (z12 && decide (List.length (l13 ++ [(1 : Int)]) = 0)) (l13 ++ [(1 : Int)])))
 none)
 (cond (decide (D.toInt (nth r0 0) < x1))
 (cond (decide ((0 : Int) ≤ x2) && decide (x2 < nI (List.length l4)))
 (cond (decide ((0 : Int) < Prod.fst (Prod.snd (List.getD l4 (Int.toNat x2) zz3))))
 (cond (decide (List.length (l13 ++ [(-1 : Int)]) ≤ bigLen))
 (lp k spec_l16Wishes [] fu 3 n (qxs x0 x1 (IntKind.wrap .i64 (x2 + (1 : Int))) z3 l4 z5 l6 z7 l8 z9 l10 x11 (z12 && decide (List.length (l13 ++ [(-1 : Int)]) = 0)) (l13 ++ [(-1 : Int)])))
 none)
 (cond (decide (List.length (l13 ++ [(0 : Int)]) ≤ bigLen))
 (lp k spec_l16Wishes [] fu 3 n (qxs x0 x1 (IntKind.wrap .i64 (x2 + (1 : Int))) z3 l4 z5 l6 z7 l8 z9 l10 x11 (z12 && decide (List.length (l13 ++ [(0 : Int)]) = 0)) (l13 ++ [(0 : Int)])))
 none))
 none)
 (cond (decide (List.length (l13 ++ [(0 : Int)]) ≤ bigLen))
 (lp k spec_l16Wishes [] fu 3 n (qxs x0 x1 (IntKind.wrap .i64 (x2 + (1 : Int))) z3 l4 z5 l6 z7 l8 z9 l10 x11 (z12 && decide (List.length (l13 ++ [(0 : Int)]) = 0)) (l13 ++ [(0 : Int)])))
 none)))
 none)
 (cond (decide (D.toInt (nth r0 0) < x1))
 (cond (decide ((0 : Int) ≤ x2) && decide (x2 < nI (List.length l4)))
 (cond (decide ((0 : Int) < Prod.fst (Prod.snd (List.getD l4 (Int.toNat x2) zz3))))
 (cond (decide (List.length (l13 ++ [(-1 : Int)]) ≤ bigLen))
 (lp k spec_l16Wishes [] fu 3 n (qxs x0 x1 (IntKind.wrap .i64 (x2 + (1 : Int))) z3 l4 z5 l6 z7 l8 z9 l10 x11 (z12 && decide (List.length (l13 ++ [(-1 : Int)]) = 0)) (l13 ++ [(-1 : Int)])))
 none)
 (cond (decide (List.length (l13 ++ [(0 : Int)]) ≤ bigLen))
 (lp k spec_l16Wishes [] fu 3 n (qxs x0 x1 (IntKind.wrap .i64 (x2 + (1 : Int))) z3 l4 z5 l6 z7 l8 z9 l10 x11 (z12 && decide (List.length (l13 ++ [(0 : Int)]) = 0)) (l13 ++ [(0 : Int)])))
 none))
 none)
 (cond (decide (List.length (l13 ++ [(0 : Int)]) ≤ bigLen))
 (lp k spec_l16Wishes [] fu 3 n (qxs x0 x1 (IntKind.wrap .i64 (x2 + (1 : Int))) z3 l4 z5 l6 z7 l8 z9 l10 x11 (z12 && decide (List.length (l13 ++ [(0 : Int)]) = 0)) (l13 ++ [(0 : Int)])))
 none)))
 (some [(.arr true z12 (.ints .i64 l13))]) := by kernel_rfl
theorem qm0 (k : Nat) (a0 : Int) (a1z : Bool) (a1 : List (Int × Int × Int)) (a2z : Bool) (a2 : List Int) (a3z : Bool) (a3 : List Int) (a4z : Bool) (a4 : List Int) (b : Int) : go (k + 1) spec_l16Jump [(.agg [(.int .i64 a0), (.arr false a1z (.r3 a1)), (.arr false a2z (.ints .i64 a2)), (.arr false a3z (.ints .i64 a3)), (.arr false a4z (.ints .i64 a4))]), (.int .i64 b)] =
 cond (decide ((0 : Int) < b))
 ((go k spec_l09Surface [(.agg [(.int .i64 a0), (.arr false a1z (.r3 a1)), (.arr false a2z (.ints .i64 a2)), (.arr false a3z (.ints .i64 a3)), (.arr false a4z (.ints .i64 a4))]), (.int .i64 b)]).bind fun r0 =>
 (go k spec_l09Surface [(.agg [(.int .i64 a0), (.arr false a1z (.r3 a1)), (.arr false a2z (.ints .i64 a2)), (.arr false a3z (.ints .i64 a3)), (.arr false a4z (.ints .i64 a4))]), (.int .i64 (IntKind.wrap .i64 (b - (1 : Int))))]).bind fun r1 =>
 (go k spec_l09Gap [(.int .i64 (D.toInt (nth r0 0))), (.int .i64 (D.toInt (nth r1 0)))]).bind fun r2 =>
 cond (decide (IntKind.wrap .i64 (b + (1 : Int)) < nI (List.length a2)))
 ((go k spec_l09Surface [(.agg [(.int .i64 a0), (.arr false a1z (.r3 a1)), (.arr false a2z (.ints .i64 a2)), (.arr false a3z (.ints .i64 a3)), (.arr false a4z (.ints .i64 a4))]), (.int .i64 b)]).bind fun r3 =>
 (go k spec_l09Surface [(.agg [(.int .i64 a0), (.arr false a1z (.r3 a1)), (.arr false a2z (.ints .i64 a2)), (.arr false a3z (.ints .i64 a3)), (.arr false a4z (.ints .i64 a4))]), (.int .i64 (IntKind.wrap .i64 (b + (1 : Int))))]).bind fun r4 =>
 (go k spec_l09Gap [(.int .i64 (D.toInt (nth r3 0))), (.int .i64 (D.toInt (nth r4 0)))]).bind fun r5 =>
 some [(.int .i64 (if D.toInt (nth r5 0) > D.toInt (nth r2 0) then D.toInt (nth r5 0) else D.toInt (nth r2 0)))])
 (some [(.int .i64 (D.toInt (nth r2 0)))]))
 (cond (decide (IntKind.wrap .i64 (b + (1 : Int)) < nI (List.length a2)))
 ((go k spec_l09Surface [(.agg [(.int .i64 a0), (.arr false a1z (.r3 a1)), (.arr false a2z (.ints .i64 a2)), (.arr false a3z (.ints .i64 a3)), (.arr false a4z (.ints .i64 a4))]), (.int .i64 b)]).bind fun r6 =>
 (go k spec_l09Surface [(.agg [(.int .i64 a0), (.arr false a1z (.r3 a1)), (.arr false a2z (.ints .i64 a2)), (.arr false a3z (.ints .i64 a3)), (.arr false a4z (.ints .i64 a4))]), (.int .i64 (IntKind.wrap .i64 (b + (1 : Int))))]).bind fun r7 =>
 (go k spec_l09Gap [(.int .i64 (D.toInt (nth r6 0))), (.int .i64 (D.toInt (nth r7 0)))]).bind fun r8 =>
 some [(.int .i64 (if D.toInt (nth r8 0) > (0 : Int) then D.toInt (nth r8 0) else (0 : Int)))])
 (some [(.int .i64 (0 : Int))])) := by kernel_rfl
def qw8 (x0 : Int) (z1 : Bool) (l2 : List (Int × Int × Int)) (x3 x4 x5 x6 : Int) : St := ⟨fill 21 [(2, (.ptr 1 0 0)), (3, (.ptr 2 0 0)), (5, (.int .i64 x0))], [], [(.arr false z1 (.r3 l2)), (.box true [(.int .i64 x3), (.sl 0 none)]), (.box true [(.int .i64 x4), (.int .i64 x5), (.int .i64 x6)])]⟩
theorem qlj (k : Nat) (a0 : Int) (a1z : Bool) (a1 : List (Int × Int × Int)) (b0 b1 b2 : Int) : go (k + 1) spec_LeafOf [(.agg [(.int .i64 a0), (.arr false a1z (.r3 a1))]), (.agg [(.int .i64 b0), (.int .i64 b1), (.int .i64 b2)])] =
 lp k spec_LeafOf [] [] 2 k (qw8 (0 : Int) a1z a1 a0 b0 b1 b2) := by kernel_rfl
theorem qpy (k n : Nat) (fu : List (Nat × Nat)) (x0 : Int) (z1 : Bool) (l2 : List (Int × Int × Int)) (x3 x4 x5 x6 : Int) : lp k spec_LeafOf [] fu 2 (n + 1) (qw8 x0 z1 l2 x3 x4 x5 x6) =
 cond (decide (x0 < nI (List.length l2)))
 (cond (decide ((0 : Int) ≤ x0) && decide (x0 < nI (List.length l2)))
 (cond (decide (Prod.fst (List.getD l2 (Int.toNat x0) zz3) = x4) && (decide (Prod.fst (Prod.snd (List.getD l2 (Int.toNat x0) zz3)) = x5) && (decide (Prod.snd (Prod.snd (List.getD l2 (Int.toNat x0) zz3)) = x6) && true)))
 (some [(.int .i64 x0)])
 (lp k spec_LeafOf [] fu 2 n (qw8 (IntKind.wrap .i64 (x0 + (1 : Int))) z1 l2 x3 x4 x5 x6)))
 none)
 (some [(.int .i64 ((-1 : Int)))]) := by kernel_rfl
end Go.Proofs.YtoldpdhhfmlckaaGreat
end
section
namespace Go.Proofs.YtoldpdhhfmlckaaGreat
open Go.Ev
set_option maxRecDepth 20000
theorem qe5 (k : Nat) (hk : 2000000 ≤ k) (a : Int) (h : 0 ≤ a) (h' : a ≤ 1000000000) : go (k + 1) spec_SplitEven [(.int .i64 (a))] = some [.int .i64 (hA a), .int .i64 (hB a)] := by
  rw [qlw]
  have e : Int.tdiv a 2 = a / 2 := Int.tdiv_eq_ediv_of_nonneg h
  rw [e]
  simp (disch := omega) only [dF, q0l, qhj]
theorem qf0 (k : Nat) (hk : 2000000 ≤ k) (r : Int) (s : S3) (b : List Int) (U : StU r s b) (i : Nat) (hi : i < s.1.length) (hv : qqx s.1 i < 4) :
    go (k + 5) spec_l08Split [.agg [.int .i64 (r), .arr false (false) (.r3 (s.1)), .arr false (false) (.ints .i64 (s.2.1)), .arr false (false) (.ints .i64 (s.2.2)), .arr false (false) (.ints .i64 (b))], .int .i64 (i : Int)] = some [.agg [.int .i64 (r), .arr true (false) (.r3 ((rfS s i).1)), .arr true (false) (.ints .i64 ((rfS s i).2.1)), .arr true (false) (.ints .i64 ((rfS s i).2.2)), .arr true (false) (.ints .i64 (b))]] := by
  obtain ⟨l, m, t⟩ := s
  simp only at hi hv ⊢
  rw [qmn]
  have L := U.len; have ml : m.length = l.length := U.ml; have tl : t.length = l.length := U.tl; have bl := U.bl; have rr := U.rr
  have a : 0 ≤ m.getD i 0 ∧ m.getD i 0 ≤ 10000000 ∧ 0 ≤ t.getD i 0 ∧ t.getD i 0 ≤ 1000 * m.getD i 0 := U.at i
  simp only at L
  have q := hAB a.1
  have sh := qye ⟨a.1, a.2.1⟩ ⟨a.2.2.1, a.2.2.2⟩
  simp only [shr] at sh
  have m1 : (m.take i).length = i := by rw [List.length_take]; omega
  have t1 : (t.take i).length = i := by rw [List.length_take]; omega
  have l2 : ∀ (x : List Int) (p q : Int), x.length = i → (x ++ [p, q]).length = i + 2 := fun x p q h => by rw [List.length_append, h]; rfl
  have m2 := fun p q => l2 (m.take i) p q m1
  have t2 := fun p q => l2 (t.take i) p q t1
  have m3 : ∀ p q : Int, (m.take i ++ [p, q] ++ m.drop (i + 1)).length = l.length + 1 := fun p q => by rw [List.length_append, m2, List.length_drop]; omega
  have t3 : ∀ p q : Int, (t.take i ++ [p, q] ++ t.drop (i + 1)).length = l.length + 1 := fun p q => by rw [List.length_append, t2, List.length_drop]; omega
  have cS := qft k (by omega) r false l i (by omega) hi (U.id hi) hv
  simp (disch := omega) only [dT, nI, Bool.and_true, Int.toNat_natCast, qe5, qe4, ton0, Nat.sub_zero, Nat.zero_add, List.drop_zero, qt2, m1, big0, m2, t1, t2, cS, qgp, q0l, qzk, m3, t3, Bool.false_and, dF, Bool.and_false, qhl, qa9, nth0, qgr, qzu, qgs, qt3, quv, nth1]
  rw [List.append_assoc, List.append_assoc]
  rfl
theorem qfv (k : Nat) (hk : 2000000 ≤ k) (r : Int) (z : Bool) (l : List Cell) (h : qtl r 0 l = true) (i : Nat) (hi : i + 1 < l.length) (hv : 1 ≤ qqx l i) :
    go (k + 4) spec_l06Merge [.agg [.int .i64 r, .arr false z (.r3 l)], .int .i64 (i : Int)] = some [.agg [.int .i64 r, .arr true false (.r3 (qth l i))]] := by
  rw [qmh]
  have L := qtr h
  have eP := (qbi ((qtq _ _ _ h).2.2.2.1 _ (show i < l.length by omega)).2.2 hv).1 k (by omega)
  have m1 : (l.take i).length = i := by rw [List.length_take]; omega
  have m2 : ∀ p : Cell, (l.take i ++ [p]).length = i + 1 := fun p => by rw [List.length_append, m1]; rfl
  have m3 : ∀ p : Cell, (l.take i ++ [p] ++ l.drop (i + 2)).length = l.length - 1 := fun p => by rw [List.length_append, m2, List.length_drop]; omega
  simp (disch := omega) only [dT, nI, Bool.and_true, Int.toNat_natCast, eP, ton0, Nat.sub_zero, Nat.zero_add, List.drop_zero, qt2, m1, big0, m2, qgq, q0l, qzk, m3, Bool.false_and, dF, Bool.and_false, qhl, qa9, nth0, qgr, qzu, qgs, qg3]
  rw [List.append_assoc]; rfl
theorem qfz (k : Nat) (hk : 2000000 ≤ k) (r : Int) (s : S3) (b : List Int) (U : StU r s b) (i : Nat) (hi : i + 1 < s.1.length) (hv : 1 ≤ qqx s.1 i) :
    go (k + 5) spec_l08Merge [.agg [.int .i64 (r), .arr false (false) (.r3 (s.1)), .arr false (false) (.ints .i64 (s.2.1)), .arr false (false) (.ints .i64 (s.2.2)), .arr false (false) (.ints .i64 (b))], .int .i64 (i : Int)] = some [.agg [.int .i64 (r), .arr true (false) (.r3 ((cmS s i).1)), .arr true (false) (.ints .i64 ((cmS s i).2.1)), .arr true (false) (.ints .i64 ((cmS s i).2.2)), .arr true (false) (.ints .i64 (b))]] := by
  obtain ⟨l, m, t⟩ := s
  simp only at hi hv ⊢
  rw [qmm]
  have L := U.len; have ml : m.length = l.length := U.ml; have tl : t.length = l.length := U.tl; have bl := U.bl; have rr := U.rr
  have a : 0 ≤ m.getD i 0 ∧ m.getD i 0 ≤ 10000000 ∧ 0 ≤ t.getD i 0 ∧ t.getD i 0 ≤ 1000 * m.getD i 0 := U.at i
  have a' : 0 ≤ m.getD (i + 1) 0 ∧ m.getD (i + 1) 0 ≤ 10000000 ∧ 0 ≤ t.getD (i + 1) 0 ∧ t.getD (i + 1) 0 ≤ 1000 * m.getD (i + 1) 0 := U.at (i + 1)
  simp only at L
  have eM := qfv k (by omega) r false l U.mesh i hi hv
  have m1 : (m.take i).length = i := by rw [List.length_take]; omega
  have t1 : (t.take i).length = i := by rw [List.length_take]; omega
  have m2 : ∀ p : Int, (m.take i ++ [p]).length = i + 1 := fun p => by rw [List.length_append, m1]; rfl
  have t2 : ∀ p : Int, (t.take i ++ [p]).length = i + 1 := fun p => by rw [List.length_append, t1]; rfl
  have m3 : (m.take i ++ [m.getD i 0 + m.getD (i + 1) 0] ++ m.drop (i + 2)).length + 1 = l.length := by rw [List.length_append, m2, List.length_drop]; omega
  have t3 : (t.take i ++ [t.getD i 0 + t.getD (i + 1) 0] ++ t.drop (i + 2)).length + 1 = l.length := by rw [List.length_append, t2, List.length_drop]; omega
  simp (disch := omega) only [dT, Bool.and_true, nI, Int.toNat_natCast, ton0, Nat.sub_zero, Nat.zero_add, List.drop_zero, qt2, m1, big0, qgp, q0l, m2, t1, t2, eM, qgq, qzk, Bool.false_and, dF, Bool.and_false, qhl, qa9, nth0, qgr, qzu, qgs, qt3, quv]
  rw [List.append_assoc, List.append_assoc]
  rfl
end Go.Proofs.YtoldpdhhfmlckaaGreat
end
section
namespace Go.Proofs.YtoldpdhhfmlckaaGreat
open Go.Ev
set_option maxRecDepth 20000
theorem qfu (k : Nat) (hk : 2000000 ≤ k) (r : Int) (z : Bool) (l : List Cell) (h : qtl r 0 l = true) (i : Nat) (hi : i + 1 < l.length) :
    go (k + 4) spec_l06May [.agg [.int .i64 r, .arr false z (.r3 l)], .int .i64 (i : Int)] = some [.bool (mayC l i)] := by
  rw [qmg]
  have L := qtr h
  have id := fun j (hj : j < l.length) => ((qtq _ _ _ h).2.2.2.1 _ hj).2.2
  have eS := (qbg (id i (by omega)) (id (i + 1) hi)).1 k (by omega)
  unfold mayC
  simp (disch := omega) only [dT, nI, Bool.and_true, qgp, q0l, Int.toNat_natCast, eS, bit, qgq, Bool.true_and, qa9, nth0, qzt, qhl]
  cases sib (l.getD i zz3) (l.getD (i + 1) zz3)
  · simp (disch := omega) only [Bool.not_false, qhl, Bool.false_and]
  by_cases h0 : i = 0
  · subst h0
    by_cases h1 : l.length ≤ 2
    · simp (disch := omega) only [Bool.not_true, dT, dF, qhj, qhl, dTT, Bool.true_or, Bool.and_true]
    · simp only [qqx]
      simp (disch := omega) only [Bool.not_true, dT, Nat.zero_add, dF, qhl, qhj, dTT, Bool.true_or, Bool.false_or, Bool.true_and]
  · by_cases h1 : l.length ≤ i + 2
    · simp only [qqx]
      by_cases h2 : (l.getD (i - 1) zz3).2.1 ≤ (l.getD i zz3).2.1
      · simp (disch := omega) only [Bool.not_true, dF, dT, qhj, qhl, qgo, Int.toNat_natCast, Bool.or_true, Bool.true_or, Bool.and_true]
      · simp (disch := omega) only [Bool.not_true, dF, dT, qhj, qhl, qgo, Int.toNat_natCast, Bool.or_false, Bool.true_or, Bool.and_true, Bool.and_false]
    · simp only [qqx]
      by_cases h2 : (l.getD (i - 1) zz3).2.1 ≤ (l.getD i zz3).2.1
      · simp (disch := omega) only [Bool.not_true, dF, dT, qhl, qhj, qgo, Int.toNat_natCast, Bool.or_true, Bool.false_or, Bool.true_and]
      · simp (disch := omega) only [Bool.not_true, dF, dT, qhl, qhj, qgo, Int.toNat_natCast, Bool.or_false, Bool.false_or, Bool.false_and, Bool.and_false]
theorem qs2 (k : Nat) (hk : 2000000 ≤ k) (fu : List (Nat × Nat)) (z10 : Bool) (l11 : List Cell) (z12 : Bool) (l13 : List Int) (z14 : Bool) (l15 : List Int) (z16 : Bool) (l17 : List Int) (x18 : Int) (r : Int) (b : List Int) : ∀ (N n : Nat) (s : S3), N < n → StU r s b → 129 ≤ N + s.1.length →
    lp (k + 5) spec_l08Level [] fu 2 (n) (qxl (unb s.1) false s.1 false s.2.1 false s.2.2 false b r z10 l11 z12 l13 z14 l15 z16 l17 x18) = some [.agg [.int .i64 (r), .arr true (false) (.r3 ((lvS N s).1)), .arr true (false) (.ints .i64 ((lvS N s).2.1)), .arr true (false) (.ints .i64 ((lvS N s).2.2)), .arr true (false) (.ints .i64 (b))]]
  | N, 0, s, hn, U, hN => by omega
  | 0, n + 1, s, hn, U, hN => by have := U.len; omega
  | N + 1, n + 1, s, hn, U, hN => by
    rw [qqb]
    have L := U.len
    unfold lvS
    by_cases g : unb s.1 < 0
    · rw [if_pos g]; simp (disch := omega) only [dF, qhj]
    · rw [if_neg g]
      obtain ⟨j, e, h1, h2⟩ := qz1 (by omega : 0 ≤ unb s.1)
      have c := qhh U.mesh h1 h2
      rw [e, Int.toNat_natCast]
      have U' := rf_U U c.1 c.2
      have L' := U'.len
      have IH := qs2 k hk fu z10 l11 z12 l13 z14 l15 z16 l17 x18 r b N n _ (by omega) U' (by show 129 ≤ N + (qym s.1 _).length; rw [qyn c.1]; omega)
      have eC := qfp (k + 4) (by omega) r false s.1 j (by omega) h1
      have eR := qf0 k (by omega) r s b U (qhg s.1 j) c.1 c.2
      have eT := qfr (k + 4) (by omega) r false (rfS s (qhg s.1 j)).1 (by omega) (qts _ _ _ U'.mesh)
      simp (disch := omega) only [dT, eC, qa9, nth0, qzu, eR, qgr, qgs, qt3, quv, eT, qg3, qob, qg5, qg6, IH, qhl]
theorem qgk (k : Nat) (hk : 2000000 ≤ k) (r : Int) (s : S3) (b : List Int) (U : StU r s b) : go (k + 6) spec_l08Level [.agg [.int .i64 (r), .arr true (false) (.r3 (s.1)), .arr true (false) (.ints .i64 (s.2.1)), .arr true (false) (.ints .i64 (s.2.2)), .arr true (false) (.ints .i64 (b))]] = some [.agg [.int .i64 (r), .arr true (false) (.r3 ((lvS 128 s).1)), .arr true (false) (.ints .i64 ((lvS 128 s).2.1)), .arr true (false) (.ints .i64 ((lvS 128 s).2.2)), .arr true (false) (.ints .i64 (b))]] := by
  rw [qml]
  have L := U.len
  have eT := qfr (k + 4) (by omega) r false s.1 (by omega) (qts _ _ _ U.mesh)
  simp (disch := omega) only [eT, qa9, nth0, qzu]
  exact qs2 k hk [] _ _ _ _ _ _ _ _ _ r b 128 _ s (by omega) U (by omega)
end Go.Proofs.YtoldpdhhfmlckaaGreat
end
section
namespace Go.Proofs.YtoldpdhhfmlckaaGreat
open Go.Ev
set_option maxRecDepth 20000
theorem qf9 (k : Nat) (hk : 2000000 ≤ k) (r : Int) (z1 z2 z3 z4 : Bool) (l : List Cell) (m t b : List Int) (F : StF r l m t b) (i : Nat) (hi : i < l.length) :
    go (k + 2) spec_l16Jump [.agg [.int .i64 (r), .arr false (z1) (.r3 (l)), .arr false (z2) (.ints .i64 (m)), .arr false (z3) (.ints .i64 (t)), .arr false (z4) (.ints .i64 (b))], .int .i64 (i : Int)] = some [.int .i64 (jmp l m b i)] := by
  rw [qm0]
  have L := F.len; have ml := F.ml
  have s0 := qza F i; have s1 := qza F (i - 1); have s2 := qza F (i + 1)
  have g1 := qnu (surf l m b i) (surf l m b (i - 1)); have g2 := qnu (surf l m b i) (surf l m b (i + 1))
  have e0 := qf4 k (by omega) r z1 z2 z3 z4 l m t b F i hi
  unfold jmp
  by_cases h0 : 0 < i
  · have ci : (i : Int) - 1 = ((i - 1 : Nat) : Int) := by omega
    have e1 := qf4 k (by omega) r z1 z2 z3 z4 l m t b F (i - 1) (by omega)
    rw [if_pos h0]
    by_cases h1 : i + 1 < l.length
    · have e2 := qf4 k (by omega) r z1 z2 z3 z4 l m t b F (i + 1) (by omega)
      rw [if_pos h1]
      simp (disch := omega) only [dT, e0, ci, q0l, e1, qgp, nI, e2, imax, qa9, nth0, qzu, qf2, qhl]
      rw [show ∀ x y : Int, max x y = max y x from fun x y => by omega]
    · rw [if_neg h1]
      simp (disch := omega) only [dT, e0, ci, q0l, e1, qgp, nI, dF, imax, qa9, nth0, qzu, qhj, qf2, qhl]
      rw [show max (gap (surf l m b i) (surf l m b (i - 1))) 0 = gap (surf l m b i) (surf l m b (i - 1)) by omega]
  · rw [if_neg h0]
    by_cases h1 : i + 1 < l.length
    · have e2 := qf4 k (by omega) r z1 z2 z3 z4 l m t b F (i + 1) (by omega)
      rw [if_pos h1]
      simp (disch := omega) only [dF, e0, q0l, qgp, nI, dT, e2, imax, qa9, nth0, qzu, qf2, qhl, qhj]
      rw [show ∀ x y : Int, max x y = max y x from fun x y => by omega]
    · rw [if_neg h1]
      simp (disch := omega) only [dF, q0l, qgp, nI, imax, qhj]
      rfl
theorem qss (k : Nat) (hk : 2000000 ≤ k) (fu : List (Nat × Nat)) (hi lo r : Int) (z1 z2 z3 z4 : Bool) (l : List Cell) (m t b : List Int) (F : StF r l m t b) : ∀ (N i : Nat), i ≤ l.length → l.length - i < N →
    lp (k + 2) spec_l16Wishes [] fu 3 (N) (qxs hi lo (i : Int) z1 l z2 m z3 t z4 b r false (tab i (wsh l m b hi lo))) = some [.arr true false (.ints .i64 (tab l.length (wsh l m b hi lo)))]
  | 0, i, hl, hN => by omega
  | N + 1, i, hl, hN => by
    rw [qqi]
    have L := F.len; have ml := F.ml
    by_cases g : i < l.length
    · have IH := qss k hk fu hi lo r z1 z2 z3 z4 l m t b F N (i + 1) (by omega) (by omega)
      have eJ := qf9 k (by omega) r z1 z2 z3 z4 l m t b F i g
      have la : ∀ x : Int, (tab i (wsh l m b hi lo) ++ [x]).length = i + 1 := fun x => by rw [List.length_append, qzf]; rfl
      rw [qzi] at IH
      have jb := qom F i
      simp only [wsh, qqx] at IH
      by_cases h1 : hi < jmp l m b i
      · by_cases h2 : (l.getD i zz3).2.1 < 4
        · rw [if_pos ⟨h1, h2⟩] at IH; simp (disch := omega) only [nI, dT, eJ, Bool.and_true, Int.toNat_natCast, la, big0, qgp, q0l, dF, Bool.and_false, IH, qhl, qa9, nth0, qzu]
        · rw [if_neg (fun h => h2 h.2)] at IH
          by_cases h3 : jmp l m b i < lo
          · have h4 : 0 < (l.getD i zz3).2.1 := by omega
            rw [if_pos ⟨h3, h4⟩] at IH; simp (disch := omega) only [nI, dT, eJ, Bool.and_true, Int.toNat_natCast, dF, la, big0, qgp, q0l, Bool.and_false, qhl, IH, qhj, qa9, nth0, qzu]
          · rw [if_neg (fun h => h3 h.1)] at IH; simp (disch := omega) only [nI, dT, eJ, Bool.and_true, Int.toNat_natCast, dF, la, big0, qgp, q0l, Bool.and_false, qhl, IH, qhj, qa9, nth0, qzu]
      · rw [if_neg (fun h => h1 h.1)] at IH
        by_cases h3 : jmp l m b i < lo
        · by_cases h4 : 0 < (l.getD i zz3).2.1
          · rw [if_pos ⟨h3, h4⟩] at IH; simp (disch := omega) only [nI, dT, eJ, Bool.and_true, Int.toNat_natCast, la, big0, qgp, q0l, dF, Bool.and_false, qhl, IH, qa9, nth0, qzu, qhj]
          · rw [if_neg (fun h => h4 h.2)] at IH; simp (disch := omega) only [nI, dT, eJ, Bool.and_true, Int.toNat_natCast, la, big0, qgp, q0l, dF, Bool.and_false, qhl, IH, qhj, qa9, nth0, qzu]
        · rw [if_neg (fun h => h3 h.1)] at IH; simp (disch := omega) only [nI, dT, eJ, Bool.and_true, Int.toNat_natCast, la, big0, qgp, q0l, dF, Bool.and_false, qhl, IH, qa9, nth0, qzu, qhj]
    · simp (disch := omega) only [nI, dF, dT, Bool.and_false, Int.toNat_natCast, big0, qgp, q0l, Bool.false_and, qhj]
      rw [show i = l.length by omega]
theorem qfa (k : Nat) (hk : 2000000 ≤ k) (hi lo r : Int) (z1 z2 z3 z4 : Bool) (l : List Cell) (m t b : List Int) (F : StF r l m t b) :
    go (k + 3) spec_l16Wishes [.agg [.int .i64 (r), .arr false (z1) (.r3 (l)), .arr false (z2) (.ints .i64 (m)), .arr false (z3) (.ints .i64 (t)), .arr false (z4) (.ints .i64 (b))], .int .i64 hi, .int .i64 lo] = some [.arr true false (.ints .i64 (tab l.length (wsh l m b hi lo)))] := by
  rw [qm1]
  have L := F.len
  exact qss k hk [] hi lo r z1 z2 z3 z4 l m t b F _ 0 (by omega) (by omega)
end Go.Proofs.YtoldpdhhfmlckaaGreat
end
section
namespace Go.Proofs.YtoldpdhhfmlckaaGreat
open Go.Ev
set_option maxRecDepth 20000
theorem qsi (k : Nat) (hk : 2000000 ≤ k) (fu : List (Nat × Nat)) (r : Int) (z : Bool) (l : List Cell) (x : Cell) (hl : l.length ≤ 1048576) : ∀ (N i : Nat), i ≤ l.length → l.length - i < N →
    lp k spec_LeafOf [] fu 2 (N) (qw8 (i : Int) z l r x.1 x.2.1 x.2.2) = some [.int .i64 (qq1 x (l.drop i) i)]
  | 0, i, hi, hN => by omega
  | N + 1, i, hi, hN => by
    rw [qpy]
    by_cases g : i < l.length
    · have IH := qsi k hk fu r z l x hl N (i + 1) (by omega) (by omega)
      rw [qh2 g zz3, qq1]
      by_cases h : l.getD i zz3 = x
      · rw [if_pos h]; simp (disch := omega) only [nI, dT, Bool.and_true, Int.toNat_natCast, h, dTT, qgp, q0l, qhl]
      · rw [if_neg h]
        have : (decide ((l.getD i zz3).1 = x.1) && (decide ((l.getD i zz3).2.1 = x.2.1) && decide ((l.getD i zz3).2.2 = x.2.2))) = false := by
          rw [← Bool.not_eq_true]
          intro e
          simp only [Bool.and_eq_true, decide_eq_true_eq] at e
          exact h (Prod.ext e.1 (Prod.ext e.2.1 e.2.2))
        simp (disch := omega) only [nI, dT, Bool.and_true, Int.toNat_natCast, this, qgp, q0l, IH, qhj, qhl]
    · rw [List.drop_of_length_le (by omega)]; simp (disch := omega) only [nI, dF, dT, Bool.and_false, Int.toNat_natCast, Bool.and_true, qgp, q0l, qhj]; rfl
theorem qes (k : Nat) (hk : 2000000 ≤ k) (r : Int) (z : Bool) (l : List Cell) (x : Cell) (hl : l.length ≤ 1048576) : go (k + 1) spec_LeafOf [.agg [.int .i64 r, .arr false z (.r3 l)], .agg [.int .i64 x.1, .int .i64 x.2.1, .int .i64 x.2.2]] = some [.int .i64 (lof l x)] := by
  rw [qlj]
  exact qsi k hk [] r z l x hl _ 0 (by omega) (by omega)
set_option maxHeartbeats 1000000 in
theorem qs3 (k : Nat) (hk : 2000000 ≤ k) (fu : List (Nat × Nat)) (z1 z2 z3 z4 : Bool) (l0 : List Cell) (m0 t0 b0 : List Int) (r0 : Int) (q1 : Bool) (p1 : List Cell) (q2 : Bool) (p2 : List Int) (q3 : Bool) (p3 : List Int) (q4 : Bool) (p4 : List Int) (x18 : Int) (zw : Bool) (w : List Int) (r : Int) (b : List Int) (hl0 : l0.length ≤ 128) (hw : w.length = l0.length) : ∀ (F N i : Nat) (s : S3), s.1.length - i ≤ F → F < N → i + F ≤ 4096 → StU r s b →
    lp (k + 6) spec_l17Adapt [] fu 10 (N) (qxt (i : Int) z1 l0 z2 m0 z3 t0 z4 b0 r0 q1 p1 q2 p2 q3 p3 q4 p4 x18 zw w false s.1 false s.2.1 false s.2.2 false b r) = some [.agg [.int .i64 (r), .arr true (false) (.r3 ((mgS (Pw w l0) F i s).1)), .arr true (false) (.ints .i64 ((mgS (Pw w l0) F i s).2.1)), .arr true (false) (.ints .i64 ((mgS (Pw w l0) F i s).2.2)), .arr true (false) (.ints .i64 (b))]]
  | F, 0, i, s, hF, hN, hi, U => by omega
  | 0, N + 1, i, s, hF, hN, hi, U => by
    rw [qqj]
    have L := U.len; have ml := U.ml; have tl := U.tl
    simp (disch := omega) only [qgp, q0l, nI, dF, dT, Bool.and_false, Int.toNat_natCast, bit, qhj]; rfl
  | F + 1, N + 1, i, s, hF, hN, hi, U => by
    rw [qqj]
    have L := U.len; have ml := U.ml; have tl := U.tl
    unfold mgS
    by_cases g : i + 1 < s.1.length
    · rw [if_pos g]
      have IH0 := qs3 k hk fu z1 z2 z3 z4 l0 m0 t0 b0 r0 q1 p1 q2 p2 q3 p3 q4 p4 x18 zw w r b hl0 hw F N (i + 1) s (by omega) (by omega) (by omega) U
      have eX := qes (k + 5) (by omega) r0 z1 l0 (s.1.getD i zz3) (by omega)
      have eY := qes (k + 5) (by omega) r0 z1 l0 (s.1.getD (i + 1) zz3) (by omega)
      have eM := qfu (k + 2) (by omega) r false s.1 U.mesh i g
      rcases qq3 l0 (s.1.getD i zz3) with ⟨ex, _⟩ | ⟨j, hj, ex, _⟩
      · have pX : Pw w l0 (s.1.getD i zz3) = false := by unfold Pw; rw [ex]; simp
        rw [ex] at eX
        rw [if_neg (by rw [pX]; simp)]
        simp (disch := omega) only [qgp, q0l, nI, dT, Bool.and_true, Int.toNat_natCast, eX, eY, bit, IH0, qa9, nth0, qzu, qhl, dF, qhj]
      have pX : Pw w l0 (s.1.getD i zz3) = decide (w.getD j 0 = -1) := by unfold Pw; rw [ex]; simp
      rw [ex] at eX
      rcases qq3 l0 (s.1.getD (i + 1) zz3) with ⟨ey, _⟩ | ⟨q, hq, ey, _⟩
      · have pY : Pw w l0 (s.1.getD (i + 1) zz3) = false := by unfold Pw; rw [ey]; simp
        rw [ey] at eY
        rw [if_neg (by rw [pY]; simp)]
        simp (disch := omega) only [qgp, q0l, nI, dT, Bool.and_true, Int.toNat_natCast, eX, eY, bit, IH0, qa9, nth0, qzu, dF, qhj, qhl]
      have pY : Pw w l0 (s.1.getD (i + 1) zz3) = decide (w.getD q 0 = -1) := by unfold Pw; rw [ey]; simp
      rw [ey] at eY
      by_cases h1 : w.getD j 0 = -1
      · by_cases h2 : w.getD q 0 = -1
        · rw [dT h1] at pX
          rw [dT h2] at pY
          cases hm : mayC s.1 i
          · rw [if_neg (by rw [pX, pY]; simp)]
            simp (disch := omega) only [qgp, q0l, nI, dT, Bool.and_true, Int.toNat_natCast, eX, eY, eM, hm, bit, IH0, qa9, nth0, qzt, qhj, qzu, h2, dTT, qhl, h1]
          · have hs := hm
            simp only [mayC, Bool.and_eq_true] at hs
            have sl := qyf hs.1
            have U' := cm_U U g hs.1
            have ln := qti g
            have IH1 := qs3 k hk fu z1 z2 z3 z4 l0 m0 t0 b0 r0 q1 p1 q2 p2 q3 p3 q4 p4 x18 zw w r b hl0 hw F N (i + 1) (cmS s i) (by show (qth s.1 i).length - (i + 1) ≤ F; omega) (by omega) (by omega) U'
            have eG := qfz (k + 1) (by omega) r s b U i g sl
            rw [if_pos (by rw [pX, pY]; simp)]
            simp (disch := omega) only [qgp, q0l, nI, dT, Bool.and_true, Int.toNat_natCast, eX, eY, eM, hm, bit, eG, qa9, nth0, qgs, qt3, quv, qg3, qob, qg5, qg6, qgr, qzu, IH1, qzt, qhl, h2, dTT, h1]
        · rw [dF h2] at pY
          rw [if_neg (by rw [pY]; simp)]
          simp (disch := omega) only [qgp, q0l, nI, dT, Bool.and_true, Int.toNat_natCast, eX, eY, bit, IH0, qa9, nth0, qzu, h2, dFF, qhj, qhl, h1, dTT]
      · rw [dF h1] at pX
        rw [if_neg (by rw [pX]; simp)]
        simp (disch := omega) only [qgp, q0l, nI, dT, Bool.and_true, Int.toNat_natCast, eX, eY, bit, IH0, qa9, nth0, qzu, qhl, h1, dFF, qhj]
    · rw [if_neg g]; simp (disch := omega) only [qgp, q0l, nI, dF, dT, Bool.true_and, Int.toNat_natCast, Bool.and_false, bit, qhj]
theorem qs6 (k : Nat) (hk : 2000000 ≤ k) (fu : List (Nat × Nat)) (z1 z2 z3 z4 : Bool) (l0 : List Cell) (m0 t0 b0 : List Int) (r0 : Int) (q1 : Bool) (p1 : List Cell) (q2 : Bool) (p2 : List Int) (q3 : Bool) (p3 : List Int) (q4 : Bool) (p4 : List Int) (x18 : Int) (zw : Bool) (w : List Int) (r : Int) (b : List Int) (hl0 : l0.length ≤ 128) (hw : w.length = l0.length) (hw1 : ∀ j, w.getD j 0 = 1 → qqx l0 j < 4) : ∀ (N n : Nat) (s : S3), n < N → n ≤ l0.length → n ≤ s.1.length → (∀ j, j < n → s.1.getD j zz3 = l0.getD j zz3) → StU r s b →
    lp (k + 6) spec_l17Adapt [] fu 4 (N) (qxu ((n : Int) - 1) z1 l0 z2 m0 z3 t0 z4 b0 r0 q1 p1 q2 p2 q3 p3 q4 p4 x18 zw w false s.1 false s.2.1 false s.2.2 false b r) = some [.agg [.int .i64 (r), .arr true (false) (.r3 ((mgS (Pw w l0) 128 0 (lvS 128 (spS w n s))).1)), .arr true (false) (.ints .i64 ((mgS (Pw w l0) 128 0 (lvS 128 (spS w n s))).2.1)), .arr true (false) (.ints .i64 ((mgS (Pw w l0) 128 0 (lvS 128 (spS w n s))).2.2)), .arr true (false) (.ints .i64 (b))]]
  | 0, n, s, hN, hn, hs, he, U => by omega
  | N + 1, 0, s, hN, hn, hs, he, U => by
    rw [qqk]
    have L := U.len
    have eL := qgk k (by omega) r s b U
    have U' := (qq4 128 s U (by omega)).1
    have L' := U'.len
    have e := qs3 k hk fu z1 z2 z3 z4 l0 m0 t0 b0 r0 q1 p1 q2 p2 q3 p3 q4 p4 x18 zw w r b hl0 hw 128 (k + 6) 0 (lvS 128 s) (by omega) (by omega) (by omega) U'
    rw [show ((0 : Nat) : Int) = 0 from rfl] at e ⊢
    simp (disch := omega) only [dF, nI, dT, Bool.and_true, q0l, qhj, eL, qa9, nth0, qgs, qt3, quv, qg3, qob, qg5, qg6, qgr, qzu, e]
    rfl
  | N + 1, n + 1, s, hN, hn, hs, he, U => by
    rw [show ((n + 1 : Nat) : Int) - 1 = (n : Int) by omega, qqk]
    have L := U.len
    unfold spS
    by_cases h1 : w.getD n 0 = 1
    · rw [if_pos h1]
      have hl : qqx s.1 n < 4 := by have := hw1 n h1; unfold qqx at *; rw [he n (by omega)]; exact this
      have U' := rf_U U (show n < s.1.length by omega) hl
      have ln := qyn (show n < s.1.length by omega)
      have IH := qs6 k hk fu z1 z2 z3 z4 l0 m0 t0 b0 r0 q1 p1 q2 p2 q3 p3 q4 p4 x18 zw w r b hl0 hw hw1 N n (rfS s n) (by omega) (by omega) (by show n ≤ (qym s.1 n).length; omega) (fun j hj => by
        show (qym s.1 n).getD j zz3 = _
        rw [qyo (by omega) hj]; exact he j (by omega)) U'
      have eS := qf0 (k + 1) (by omega) r s b U n (by omega) hl
      simp (disch := omega) only [dT, nI, Bool.and_true, Int.toNat_natCast, h1, dTT, eS, q0l, qa9, nth0, qgs, qt3, quv, qg3, qob, qg5, qg6, qgr, qzu, IH, qhl]
    · rw [if_neg h1]
      have IH := qs6 k hk fu z1 z2 z3 z4 l0 m0 t0 b0 r0 q1 p1 q2 p2 q3 p3 q4 p4 x18 zw w r b hl0 hw hw1 N n s (by omega) (by omega) (by omega) (fun j hj => he j (by omega)) U
      simp (disch := omega) only [dT, nI, Bool.and_true, Int.toNat_natCast, dF, q0l, IH, qhj, qhl]
theorem qga (k : Nat) (hk : 2000000 ≤ k) (r : Int) (l : List Cell) (m t b : List Int) (F : StF r l m t b) (hi lo : Int) :
    go (k + 7) spec_l17Adapt [.agg [.int .i64 (r), .arr false (false) (.r3 (l)), .arr false (false) (.ints .i64 (m)), .arr false (false) (.ints .i64 (t)), .arr false (false) (.ints .i64 (b))], .int .i64 hi, .int .i64 lo] = some [.agg [.int .i64 (r), .arr true (false) (.r3 ((adS (tab l.length (wsh l m b hi lo)) (l, m, t)).1)), .arr true (false) (.ints .i64 ((adS (tab l.length (wsh l m b hi lo)) (l, m, t)).2.1)), .arr true (false) (.ints .i64 ((adS (tab l.length (wsh l m b hi lo)) (l, m, t)).2.2)), .arr true (false) (.ints .i64 (b))]] := by
  rw [qm2]
  have L := F.len; have ml := F.ml; have tl := F.tl; have bl := F.bl; have rr := F.rr
  have eW := qfa (k + 3) (by omega) hi lo r false false false false l m t b F
  simp (disch := omega) only [eW, qfw, nI, qa9, nth0, qgs, qt3, quv, qg3, qob, qg5, qg6, qgr, qzu, qzf, q0l]
  exact qs6 k hk [] false false false false l m t b r true [] true [] true [] true [] 0 false _ r b (by omega) (qzf _ _) q0n (k + 6) l.length (l, m, t) (by omega) (by omega) (by show l.length ≤ l.length; omega) (fun j hj => rfl) F.toU
end Go.Proofs.YtoldpdhhfmlckaaGreat
end
section
namespace Go.Proofs.YtoldpdhhfmlckaaGreat
open Go.Ev
theorem qmt (k : Nat) (a0 : Int) (a1z : Bool) (a1 : List (Int × Int × Int)) (a2z : Bool) (a2 : List Int) (a3z : Bool) (a3 : List Int) (a4z : Bool) (a4 : List Int) (b0 b1 b2 : Int) : go (k + 1) spec_l13Apply [(.agg [(.int .i64 a0), (.arr false a1z (.r3 a1)), (.arr false a2z (.ints .i64 a2)), (.arr false a3z (.ints .i64 a3)), (.arr false a4z (.ints .i64 a4))]), (.agg [(.int .i64 b0), (.int .i64 b1), (.int .i64 b2)])] =
 (go k spec_l07Copy [(.agg [(.int .i64 a0), (.arr false a1z (.r3 a1)), (.arr false a2z (.ints .i64 a2)), (.arr false a3z (.ints .i64 a3)), (.arr false a4z (.ints .i64 a4))])]).bind fun r0 =>
 cond (decide ((0 : Int) ≤ IntKind.wrap .i64 (nI (List.length a2) - (1 : Int))) && decide (IntKind.wrap .i64 (nI (List.length a2) - (1 : Int)) < nI (List.length a2)))
 (cond (decide ((0 : Int) ≤ IntKind.wrap .i64 (nI (List.length a2) - (1 : Int))) && decide (IntKind.wrap .i64 (nI (List.length a2) - (1 : Int)) < nI (List.length a3)))
 (cond (decide ((0 : Int) ≤ IntKind.wrap .i64 (nI (List.length a2) - (1 : Int))) && decide (IntKind.wrap .i64 (nI (List.length a2) - (1 : Int)) < nI (List.length a2)))
 ((go k spec_ShareOut [(.int .i64 (List.getD a3 (Int.toNat (IntKind.wrap .i64 (nI (List.length a2) - (1 : Int)))) (0 : Int))), (.int .i64 (IntKind.wrap .i64 (Int.tdiv (IntKind.wrap .i64 (List.getD a2 (Int.toNat (IntKind.wrap .i64 (nI (List.length a2) - (1 : Int)))) (0 : Int) * b2)) (1000 : Int)))), (.int .i64 (List.getD a2 (Int.toNat (IntKind.wrap .i64 (nI (List.length a2) - (1 : Int)))) (0 : Int)))]).bind fun r1 =>
 cond (decide ((0 : Int) ≤ IntKind.wrap .i64 (nI (List.length a2) - (1 : Int))) && decide (IntKind.wrap .i64 (nI (List.length a2) - (1 : Int)) < nI (List.length (D.ints (D.cell 2 (nth r0 0))))))
 (cond (decide ((0 : Int) ≤ IntKind.wrap .i64 (nI (List.length a2) - (1 : Int))) && decide (IntKind.wrap .i64 (nI (List.length a2) - (1 : Int)) < nI (List.length (D.ints (D.cell 2 (nth r0 0))))))
 (cond (decide ((0 : Int) ≤ IntKind.wrap .i64 (nI (List.length a2) - (1 : Int))) && decide (IntKind.wrap .i64 (nI (List.length a2) - (1 : Int)) < nI (List.length (D.ints (D.cell 3 (nth r0 0))))))
 (cond (decide ((0 : Int) ≤ IntKind.wrap .i64 (nI (List.length a2) - (1 : Int))) && decide (IntKind.wrap .i64 (nI (List.length a2) - (1 : Int)) < nI (List.length (D.ints (D.cell 3 (nth r0 0))))))
 ((go k spec_l07Sum [(.arr false (D.nil (D.cell 2 (nth r0 0))) (.ints .i64 (List.set (D.ints (D.cell 2 (nth r0 0))) (Int.toNat (IntKind.wrap .i64 (nI (List.length a2) - (1 : Int)))) (IntKind.wrap .i64 (List.getD (D.ints (D.cell 2 (nth r0 0))) (Int.toNat (IntKind.wrap .i64 (nI (List.length a2) - (1 : Int)))) (0 : Int) - IntKind.wrap .i64 (Int.tdiv (IntKind.wrap .i64 (List.getD a2 (Int.toNat (IntKind.wrap .i64 (nI (List.length a2) - (1 : Int)))) (0 : Int) * b2)) (1000 : Int)))))))]).bind fun r2 =>
 cond (decide (IntKind.wrap .i64 (D.toInt (nth r2 0) + b0) ≤ (10000000 : Int)))
 (cond (decide ((0 : Int) ≤ (0 : Int)) && decide ((0 : Int) < nI (List.length (List.set (D.ints (D.cell 2 (nth r0 0))) (Int.toNat (IntKind.wrap .i64 (nI (List.length a2) - (1 : Int)))) (IntKind.wrap .i64 (List.getD (D.ints (D.cell 2 (nth r0 0))) (Int.toNat (IntKind.wrap .i64 (nI (List.length a2) - (1 : Int)))) (0 : Int) - IntKind.wrap .i64 (Int.tdiv (IntKind.wrap .i64 (List.getD a2 (Int.toNat (IntKind.wrap .i64 (nI (List.length a2) - (1 : Int)))) (0 : Int) * b2)) (1000 : Int))))))))
 (cond (decide ((0 : Int) ≤ (0 : Int)) && decide ((0 : Int) < nI (List.length (List.set (D.ints (D.cell 2 (nth r0 0))) (Int.toNat (IntKind.wrap .i64 (nI (List.length a2) - (1 : Int)))) (IntKind.wrap .i64 (List.getD (D.ints (D.cell 2 (nth r0 0))) (Int.toNat (IntKind.wrap .i64 (nI (List.length a2) - (1 : Int)))) (0 : Int) - IntKind.wrap .i64 (Int.tdiv (IntKind.wrap .i64 (List.getD a2 (Int.toNat (IntKind.wrap .i64 (nI (List.length a2) - (1 : Int)))) (0 : Int) * b2)) (1000 : Int))))))))
 (cond (decide ((0 : Int) ≤ (0 : Int)) && decide ((0 : Int) < nI (List.length (List.set (D.ints (D.cell 3 (nth r0 0))) (Int.toNat (IntKind.wrap .i64 (nI (List.length a2) - (1 : Int)))) (IntKind.wrap .i64 (List.getD (D.ints (D.cell 3 (nth r0 0))) (Int.toNat (IntKind.wrap .i64 (nI (List.length a2) - (1 : Int)))) (0 : Int) - D.toInt (nth r1 0)))))))
 (cond (decide ((0 : Int) ≤ (0 : Int)) && decide ((0 : Int) < nI (List.length (List.set (D.ints (D.cell 3 (nth r0 0))) (Int.toNat (IntKind.wrap .i64 (nI (List.length a2) - (1 : Int)))) (IntKind.wrap .i64 (List.getD (D.ints (D.cell 3 (nth r0 0))) (Int.toNat (IntKind.wrap .i64 (nI (List.length a2) - (1 : Int)))) (0 : Int) - D.toInt (nth r1 0)))))))
 (some [(.agg [(.int .i64 (D.toInt (D.cell 0 (nth r0 0)))), (.arr true (D.nil (D.cell 1 (nth r0 0))) (.r3 (D.r3 (D.cell 1 (nth r0 0))))), (.arr true (D.nil (D.cell 2 (nth r0 0))) (.ints .i64 (List.set (List.set (D.ints (D.cell 2 (nth r0 0))) (Int.toNat (IntKind.wrap .i64 (nI (List.length a2) - (1 : Int)))) (IntKind.wrap .i64 (List.getD (D.ints (D.cell 2 (nth r0 0))) (Int.toNat (IntKind.wrap .i64 (nI (List.length a2) - (1 : Int)))) (0 : Int) - IntKind.wrap .i64 (Int.tdiv (IntKind.wrap .i64 (List.getD a2 (Int.toNat (IntKind.wrap .i64 (nI (List.length a2) - (1 : Int)))) (0 : Int) * b2)) (1000 : Int))))) (Int.toNat (0 : Int)) (IntKind.wrap .i64 (List.getD (List.set (D.ints (D.cell 2 (nth r0 0))) (Int.toNat (IntKind.wrap .i64 (nI (List.length a2) - (1 : Int)))) (IntKind.wrap .i64 (List.getD (D.ints (D.cell 2 (nth r0 0))) (Int.toNat (IntKind.wrap .i64 (nI (List.length a2) - (1 : Int)))) (0 : Int) - IntKind.wrap .i64 (Int.tdiv (IntKind.wrap .i64 (List.getD a2 (Int.toNat (IntKind.wrap .i64 (nI (List.length a2) - (1 : Int)))) (0 : Int) * b2)) (1000 : Int))))) (Int.toNat (0 : Int)) (0 : Int) + b0))))), (.arr true (D.nil (D.cell 3 (nth r0 0))) (.ints .i64 (List.set (List.set (D.ints (D.cell 3 (nth r0 0))) (Int.toNat (IntKind.wrap .i64 (nI (List.length a2) - (1 : Int)))) (IntKind.wrap .i64 (List.getD (D.ints (D.cell 3 (nth r0 0))) (Int.toNat (IntKind.wrap .i64 (nI (List.length a2) - (1 : Int)))) (0 : Int) - D.toInt (nth r1 0)))) (Int.toNat (0 : Int)) (IntKind.wrap .i64 (List.getD (List.set (D.ints (D.cell 3 (nth r0 0))) (Int.toNat (IntKind.wrap .i64 (nI (List.length a2) - (1 : Int)))) (IntKind.wrap .i64 (List.getD (D.ints (D.cell 3 (nth r0 0))) (Int.toNat (IntKind.wrap .i64 (nI (List.length a2) - (1 : Int)))) (0 : Int) - D.toInt (nth r1 0)))) (Int.toNat (0 : Int)) (0 : Int) + IntKind.wrap .i64 (b0 * b1)))))), (.arr true (D.nil (D.cell 4 (nth r0 0))) (.ints .i64 (D.ints (D.cell 4 (nth r0 0)))))]), (.agg [(.int .i64 b0), (.int .i64 (IntKind.wrap .i64 (Int.tdiv (IntKind.wrap .i64 (List.getD a2 (Int.toNat (IntKind.wrap .i64 (nI (List.length a2) - (1 : Int)))) (0 : Int) * b2)) (1000 : Int)))), (.int .i64 (IntKind.wrap .i64 (b0 * b1))), (.int .i64 (D.toInt (nth r1 0)))])])
 none)
 none)
 none)
 none)
 (some [(.agg [(.int .i64 (D.toInt (D.cell 0 (nth r0 0)))), (.arr true (D.nil (D.cell 1 (nth r0 0))) (.r3 (D.r3 (D.cell 1 (nth r0 0))))), (.arr true (D.nil (D.cell 2 (nth r0 0))) (.ints .i64 (List.set (D.ints (D.cell 2 (nth r0 0))) (Int.toNat (IntKind.wrap .i64 (nI (List.length a2) - (1 : Int)))) (IntKind.wrap .i64 (List.getD (D.ints (D.cell 2 (nth r0 0))) (Int.toNat (IntKind.wrap .i64 (nI (List.length a2) - (1 : Int)))) (0 : Int) - IntKind.wrap .i64 (Int.tdiv (IntKind.wrap .i64 (List.getD a2 (Int.toNat (IntKind.wrap .i64 (nI (List.length a2) - (1 : Int)))) (0 : Int) * b2)) (1000 : Int))))))), (.arr true (D.nil (D.cell 3 (nth r0 0))) (.ints .i64 (List.set (D.ints (D.cell 3 (nth r0 0))) (Int.toNat (IntKind.wrap .i64 (nI (List.length a2) - (1 : Int)))) (IntKind.wrap .i64 (List.getD (D.ints (D.cell 3 (nth r0 0))) (Int.toNat (IntKind.wrap .i64 (nI (List.length a2) - (1 : Int)))) (0 : Int) - D.toInt (nth r1 0)))))), (.arr true (D.nil (D.cell 4 (nth r0 0))) (.ints .i64 (D.ints (D.cell 4 (nth r0 0)))))]), (.agg [(.int .i64 (0 : Int)), (.int .i64 (IntKind.wrap .i64 (Int.tdiv (IntKind.wrap .i64 (List.getD a2 (Int.toNat (IntKind.wrap .i64 (nI (List.length a2) - (1 : Int)))) (0 : Int) * b2)) (1000 : Int)))), (.int .i64 (0 : Int)), (.int .i64 (D.toInt (nth r1 0)))])]))
 none)
 none)
 none)
 none)
 none)
 none)
 none := by kernel_rfl
theorem qmv (k : Nat) (a b : Int) : go (k + 1) spec_l14Part [(.int .i64 a), (.int .i64 b)] =
 (go k spec_WidthOf [(.int .i64 b)]).bind fun r0 =>
 some [(.int .i64 (IntKind.wrap .i64 (Int.tdiv (IntKind.wrap .i64 (a * D.toInt (nth r0 0))) (16 : Int))))] := by kernel_rfl
def qxo (x0 x1 x2 : Int) (z3 : Bool) (l4 : List (Int × Int × Int)) (z5 : Bool) (l6 : List Int) (z7 : Bool) (l8 : List Int) (z9 : Bool) (l10 : List Int) (x11 : Int) (z12 : Bool) (l13 : List (Int × Int × Int)) (z14 : Bool) (l15 : List Int) (z16 : Bool) (l17 : List Int) (z18 : Bool) (l19 : List Int) (x20 x21 x22 x23 x24 : Int) (z25 : Bool) (l26 : List (Int × Int × Int)) (z27 : Bool) (l28 : List Int) (z29 : Bool) (l30 : List Int) (z31 : Bool) (l32 : List Int) (x33 : Int) : St := ⟨fill 52 [(1, (.int .i64 x0)), (2, (.ptr 4 0 0)), (4, (.ptr 9 0 0)), (5, (.ptr 10 0 0)), (6, (.ptr 15 0 0)), (7, (.int .i64 x1)), (8, (.int .i64 x2))], [], [(.arr false z3 (.r3 l4)), (.arr false z5 (.ints .i64 l6)), (.arr false z7 (.ints .i64 l8)), (.arr false z9 (.ints .i64 l10)), (.box true [(.int .i64 x11), (.sl 0 none), (.sl 1 none), (.sl 2 none), (.sl 3 none)]), (.arr true z12 (.r3 l13)), (.arr true z14 (.ints .i64 l15)), (.arr true z16 (.ints .i64 l17)), (.arr true z18 (.ints .i64 l19)), (.box true [(.int .i64 x20), (.sl 5 none), (.sl 6 none), (.sl 7 none), (.sl 8 none)]), (.box true [(.int .i64 x21), (.int .i64 x22), (.int .i64 x23), (.int .i64 x24)]), (.arr true z25 (.r3 l26)), (.arr true z27 (.ints .i64 l28)), (.arr true z29 (.ints .i64 l30)), (.arr true z31 (.ints .i64 l32)), (.box true [(.int .i64 x33), (.sl 11 none), (.sl 12 none), (.sl 13 none), (.sl 14 none)])]⟩
theorem qmw (k : Nat) (a0 : Int) (a1z : Bool) (a1 : List (Int × Int × Int)) (a2z : Bool) (a2 : List Int) (a3z : Bool) (a3 : List Int) (a4z : Bool) (a4 : List Int) (b : Int) : go (k + 1) spec_l14Rain [(.agg [(.int .i64 a0), (.arr false a1z (.r3 a1)), (.arr false a2z (.ints .i64 a2)), (.arr false a3z (.ints .i64 a3)), (.arr false a4z (.ints .i64 a4))]), (.int .i64 b)] =
 (go k spec_l07Copy [(.agg [(.int .i64 a0), (.arr false a1z (.r3 a1)), (.arr false a2z (.ints .i64 a2)), (.arr false a3z (.ints .i64 a3)), (.arr false a4z (.ints .i64 a4))])]).bind fun r0 =>
 lp k spec_l14Rain [] [] 4 k (qxo b (0 : Int) (0 : Int) a1z a1 a2z a2 a3z a3 a4z a4 a0 true [] true [] true [] true [] (0 : Int) (0 : Int) (0 : Int) (0 : Int) (0 : Int) (D.nil (D.cell 1 (nth r0 0))) (D.r3 (D.cell 1 (nth r0 0))) (D.nil (D.cell 2 (nth r0 0))) (D.ints (D.cell 2 (nth r0 0))) (D.nil (D.cell 3 (nth r0 0))) (D.ints (D.cell 3 (nth r0 0))) (D.nil (D.cell 4 (nth r0 0))) (D.ints (D.cell 4 (nth r0 0))) (D.toInt (D.cell 0 (nth r0 0)))) := by kernel_rfl
theorem qqe (k n : Nat) (fu : List (Nat × Nat)) (x0 x1 x2 : Int) (z3 : Bool) (l4 : List (Int × Int × Int)) (z5 : Bool) (l6 : List Int) (z7 : Bool) (l8 : List Int) (z9 : Bool) (l10 : List Int) (x11 : Int) (z12 : Bool) (l13 : List (Int × Int × Int)) (z14 : Bool) (l15 : List Int) (z16 : Bool) (l17 : List Int) (z18 : Bool) (l19 : List Int) (x20 x21 x22 x23 x24 : Int) (z25 : Bool) (l26 : List (Int × Int × Int)) (z27 : Bool) (l28 : List Int) (z29 : Bool) (l30 : List Int) (z31 : Bool) (l32 : List Int) (x33 : Int) : lp k spec_l14Rain [] fu 4 (n + 1) (qxo x0 x1 x2 z3 l4 z5 l6 z7 l8 z9 l10 x11 z12 l13 z14 l15 z16 l17 z18 l19 x20 x21 x22 x23 x24 z25 l26 z27 l28 z29 l30 z31 l32 x33) =
 cond (decide (x2 < nI (List.length l6)))
 (cond (decide ((0 : Int) ≤ x2) && decide (x2 < nI (List.length l4)))
 ((go k spec_l14Part [(.int .i64 x0), (.int .i64 (Prod.fst (Prod.snd (List.getD l4 (Int.toNat x2) zz3))))]).bind fun r0 =>
 cond (decide ((0 : Int) ≤ x2) && decide (x2 < nI (List.length l28)))
 (cond (decide ((0 : Int) ≤ x2) && decide (x2 < nI (List.length l28)))
 (lp k spec_l14Rain [] fu 4 n (qxo x0 (IntKind.wrap .i64 (x1 + D.toInt (nth r0 0))) (IntKind.wrap .i64 (x2 + (1 : Int))) z3 l4 z5 l6 z7 l8 z9 l10 x11 z12 l13 z14 l15 z16 l17 z18 l19 x20 x21 x22 x23 x24 z25 l26 z27 (List.set l28 (Int.toNat x2) (IntKind.wrap .i64 (List.getD l28 (Int.toNat x2) (0 : Int) + D.toInt (nth r0 0)))) z29 l30 z31 l32 x33))
 none)
 none)
 none)
 ((go k spec_l07Sum [(.arr false z27 (.ints .i64 l28))]).bind fun r1 =>
 cond (decide ((10000000 : Int) < D.toInt (nth r1 0)))
 ((go k spec_l07Copy [(.agg [(.int .i64 x11), (.arr false z3 (.r3 l4)), (.arr false z5 (.ints .i64 l6)), (.arr false z7 (.ints .i64 l8)), (.arr false z9 (.ints .i64 l10))])]).bind fun r2 =>
 some [(.agg [(.int .i64 (D.toInt (D.cell 0 (nth r2 0)))), (.arr true (D.nil (D.cell 1 (nth r2 0))) (.r3 (D.r3 (D.cell 1 (nth r2 0))))), (.arr true (D.nil (D.cell 2 (nth r2 0))) (.ints .i64 (D.ints (D.cell 2 (nth r2 0))))), (.arr true (D.nil (D.cell 3 (nth r2 0))) (.ints .i64 (D.ints (D.cell 3 (nth r2 0))))), (.arr true (D.nil (D.cell 4 (nth r2 0))) (.ints .i64 (D.ints (D.cell 4 (nth r2 0)))))]), (.agg [(.int .i64 (0 : Int)), (.int .i64 (0 : Int)), (.int .i64 (0 : Int)), (.int .i64 (0 : Int))])])
 (some [(.agg [(.int .i64 x33), (.arr true z25 (.r3 l26)), (.arr true z27 (.ints .i64 l28)), (.arr true z29 (.ints .i64 l30)), (.arr true z31 (.ints .i64 l32))]), (.agg [(.int .i64 x1), (.int .i64 (0 : Int)), (.int .i64 (0 : Int)), (.int .i64 (0 : Int))])])) := by kernel_rfl
def qxp (x0 x1 : Int) (z2 : Bool) (l3 : List (Int × Int × Int)) (z4 : Bool) (l5 : List Int) (z6 : Bool) (l7 : List Int) (z8 : Bool) (l9 : List Int) (x10 : Int) (z11 : Bool) (l12 : List (Int × Int × Int)) (z13 : Bool) (l14 : List Int) (z15 : Bool) (l16 : List Int) (z17 : Bool) (l18 : List Int) (x19 x20 x21 x22 x23 : Int) (z24 : Bool) (l25 : List (Int × Int × Int)) (z26 : Bool) (l27 : List Int) (z28 : Bool) (l29 : List Int) (z30 : Bool) (l31 : List Int) (x32 x33 x34 x35 x36 : Int) : St := ⟨fill 82 [(1, (.int .i64 x0)), (2, (.ptr 4 0 0)), (4, (.ptr 9 0 0)), (5, (.ptr 10 0 0)), (6, (.ptr 15 0 0)), (7, (.ptr 16 0 0)), (8, (.int .i64 x1))], [], [(.arr false z2 (.r3 l3)), (.arr false z4 (.ints .i64 l5)), (.arr false z6 (.ints .i64 l7)), (.arr false z8 (.ints .i64 l9)), (.box true [(.int .i64 x10), (.sl 0 none), (.sl 1 none), (.sl 2 none), (.sl 3 none)]), (.arr true z11 (.r3 l12)), (.arr true z13 (.ints .i64 l14)), (.arr true z15 (.ints .i64 l16)), (.arr true z17 (.ints .i64 l18)), (.box true [(.int .i64 x19), (.sl 5 none), (.sl 6 none), (.sl 7 none), (.sl 8 none)]), (.box true [(.int .i64 x20), (.int .i64 x21), (.int .i64 x22), (.int .i64 x23)]), (.arr true z24 (.r3 l25)), (.arr true z26 (.ints .i64 l27)), (.arr true z28 (.ints .i64 l29)), (.arr true z30 (.ints .i64 l31)), (.box true [(.int .i64 x32), (.sl 11 none), (.sl 12 none), (.sl 13 none), (.sl 14 none)]), (.box true [(.int .i64 x33), (.int .i64 x34), (.int .i64 x35), (.int .i64 x36)])]⟩
theorem qmx (k : Nat) (a0 : Int) (a1z : Bool) (a1 : List (Int × Int × Int)) (a2z : Bool) (a2 : List Int) (a3z : Bool) (a3 : List Int) (a4z : Bool) (a4 : List Int) (b : Int) : go (k + 1) spec_l14Soak [(.agg [(.int .i64 a0), (.arr false a1z (.r3 a1)), (.arr false a2z (.ints .i64 a2)), (.arr false a3z (.ints .i64 a3)), (.arr false a4z (.ints .i64 a4))]), (.int .i64 b)] =
 (go k spec_l07Copy [(.agg [(.int .i64 a0), (.arr false a1z (.r3 a1)), (.arr false a2z (.ints .i64 a2)), (.arr false a3z (.ints .i64 a3)), (.arr false a4z (.ints .i64 a4))])]).bind fun r0 =>
 lp k spec_l14Soak [] [] 4 k (qxp b (0 : Int) a1z a1 a2z a2 a3z a3 a4z a4 a0 true [] true [] true [] true [] (0 : Int) (0 : Int) (0 : Int) (0 : Int) (0 : Int) (D.nil (D.cell 1 (nth r0 0))) (D.r3 (D.cell 1 (nth r0 0))) (D.nil (D.cell 2 (nth r0 0))) (D.ints (D.cell 2 (nth r0 0))) (D.nil (D.cell 3 (nth r0 0))) (D.ints (D.cell 3 (nth r0 0))) (D.nil (D.cell 4 (nth r0 0))) (D.ints (D.cell 4 (nth r0 0))) (D.toInt (D.cell 0 (nth r0 0))) (0 : Int) (0 : Int) (0 : Int) (0 : Int)) := by kernel_rfl
theorem qqf (k n : Nat) (fu : List (Nat × Nat)) (x0 x1 : Int) (z2 : Bool) (l3 : List (Int × Int × Int)) (z4 : Bool) (l5 : List Int) (z6 : Bool) (l7 : List Int) (z8 : Bool) (l9 : List Int) (x10 : Int) (z11 : Bool) (l12 : List (Int × Int × Int)) (z13 : Bool) (l14 : List Int) (z15 : Bool) (l16 : List Int) (z17 : Bool) (l18 : List Int) (x19 x20 x21 x22 x23 : Int) (z24 : Bool) (l25 : List (Int × Int × Int)) (z26 : Bool) (l27 : List Int) (z28 : Bool) (l29 : List Int) (z30 : Bool) (l31 : List Int) (x32 x33 x34 x35 x36 : Int) : lp k spec_l14Soak [] fu 4 (n + 1) (qxp x0 x1 z2 l3 z4 l5 z6 l7 z8 l9 x10 z11 l12 z13 l14 z15 l16 z17 l18 x19 x20 x21 x22 x23 z24 l25 z26 l27 z28 l29 z30 l31 x32 x33 x34 x35 x36) =
 cond (decide (x1 < nI (List.length l5)))
 (cond (decide ((0 : Int) ≤ x1) && decide (x1 < nI (List.length l3)))
 ((go k spec_l14Part [(.int .i64 x0), (.int .i64 (Prod.fst (Prod.snd (List.getD l3 (Int.toNat x1) zz3))))]).bind fun r0 =>
 cond (decide ((0 : Int) ≤ x1) && decide (x1 < nI (List.length l5)))
 (cond (decide ((0 : Int) ≤ x1) && decide (x1 < nI (List.length l7)))
 (cond (decide ((0 : Int) ≤ x1) && decide (x1 < nI (List.length l5)))
 ((go k spec_ShareOut [(.int .i64 (List.getD l7 (Int.toNat x1) (0 : Int))), (.int .i64 (if List.getD l5 (Int.toNat x1) (0 : Int) < D.toInt (nth r0 0) then List.getD l5 (Int.toNat x1) (0 : Int) else D.toInt (nth r0 0))), (.int .i64 (List.getD l5 (Int.toNat x1) (0 : Int)))]).bind fun r1 =>
 cond (decide ((0 : Int) ≤ x1) && decide (x1 < nI (List.length l27)))
 (cond (decide ((0 : Int) ≤ x1) && decide (x1 < nI (List.length l27)))
 (cond (decide ((0 : Int) ≤ x1) && decide (x1 < nI (List.length l29)))
 (cond (decide ((0 : Int) ≤ x1) && decide (x1 < nI (List.length l29)))
 (lp k spec_l14Soak [] fu 4 n (qxp x0 (IntKind.wrap .i64 (x1 + (1 : Int))) z2 l3 z4 l5 z6 l7 z8 l9 x10 z11 l12 z13 l14 z15 l16 z17 l18 x19 x20 x21 x22 x23 z24 l25 z26 (List.set l27 (Int.toNat x1) (IntKind.wrap .i64 (List.getD l27 (Int.toNat x1) (0 : Int) - if List.getD l5 (Int.toNat x1) (0 : Int) < D.toInt (nth r0 0) then List.getD l5 (Int.toNat x1) (0 : Int) else D.toInt (nth r0 0)))) z28 (List.set l29 (Int.toNat x1) (IntKind.wrap .i64 (List.getD l29 (Int.toNat x1) (0 : Int) - D.toInt (nth r1 0)))) z30 l31 x32 x33 (IntKind.wrap .i64 (x34 + if List.getD l5 (Int.toNat x1) (0 : Int) < D.toInt (nth r0 0) then List.getD l5 (Int.toNat x1) (0 : Int) else D.toInt (nth r0 0))) x35 (IntKind.wrap .i64 (x36 + D.toInt (nth r1 0)))))
 none)
 none)
 none)
 none)
 none)
 none)
 none)
 none)
 (some [(.agg [(.int .i64 x32), (.arr true z24 (.r3 l25)), (.arr true z26 (.ints .i64 l27)), (.arr true z28 (.ints .i64 l29)), (.arr true z30 (.ints .i64 l31))]), (.agg [(.int .i64 x33), (.int .i64 x34), (.int .i64 x35), (.int .i64 x36)])]) := by kernel_rfl
def qxq (x0 x1 : Int) (z2 : Bool) (l3 : List (Int × Int × Int)) (z4 : Bool) (l5 : List Int) (z6 : Bool) (l7 : List Int) (z8 : Bool) (l9 : List Int) (x10 : Int) (z11 : Bool) (l12 : List (Int × Int × Int)) (z13 : Bool) (l14 : List Int) (z15 : Bool) (l16 : List Int) (z17 : Bool) (l18 : List Int) (x19 x20 x21 x22 x23 : Int) (z24 : Bool) (l25 : List (Int × Int × Int)) (z26 : Bool) (l27 : List Int) (z28 : Bool) (l29 : List Int) (z30 : Bool) (l31 : List Int) (x32 x33 x34 x35 x36 : Int) : St := ⟨fill 46 [(1, (.int .i64 x0)), (2, (.ptr 4 0 0)), (4, (.ptr 9 0 0)), (5, (.ptr 10 0 0)), (6, (.ptr 15 0 0)), (7, (.ptr 16 0 0)), (8, (.int .i64 x1))], [], [(.arr false z2 (.r3 l3)), (.arr false z4 (.ints .i64 l5)), (.arr false z6 (.ints .i64 l7)), (.arr false z8 (.ints .i64 l9)), (.box true [(.int .i64 x10), (.sl 0 none), (.sl 1 none), (.sl 2 none), (.sl 3 none)]), (.arr true z11 (.r3 l12)), (.arr true z13 (.ints .i64 l14)), (.arr true z15 (.ints .i64 l16)), (.arr true z17 (.ints .i64 l18)), (.box true [(.int .i64 x19), (.sl 5 none), (.sl 6 none), (.sl 7 none), (.sl 8 none)]), (.box true [(.int .i64 x20), (.int .i64 x21), (.int .i64 x22), (.int .i64 x23)]), (.arr true z24 (.r3 l25)), (.arr true z26 (.ints .i64 l27)), (.arr true z28 (.ints .i64 l29)), (.arr true z30 (.ints .i64 l31)), (.box true [(.int .i64 x32), (.sl 11 none), (.sl 12 none), (.sl 13 none), (.sl 14 none)]), (.box true [(.int .i64 x33), (.int .i64 x34), (.int .i64 x35), (.int .i64 x36)])]⟩
theorem qmy (k : Nat) (a0 : Int) (a1z : Bool) (a1 : List (Int × Int × Int)) (a2z : Bool) (a2 : List Int) (a3z : Bool) (a3 : List Int) (a4z : Bool) (a4 : List Int) (b : Int) : go (k + 1) spec_l15Decay [(.agg [(.int .i64 a0), (.arr false a1z (.r3 a1)), (.arr false a2z (.ints .i64 a2)), (.arr false a3z (.ints .i64 a3)), (.arr false a4z (.ints .i64 a4))]), (.int .i64 b)] =
 (go k spec_l07Copy [(.agg [(.int .i64 a0), (.arr false a1z (.r3 a1)), (.arr false a2z (.ints .i64 a2)), (.arr false a3z (.ints .i64 a3)), (.arr false a4z (.ints .i64 a4))])]).bind fun r0 =>
 lp k spec_l15Decay [] [] 4 k (qxq b (0 : Int) a1z a1 a2z a2 a3z a3 a4z a4 a0 true [] true [] true [] true [] (0 : Int) (0 : Int) (0 : Int) (0 : Int) (0 : Int) (D.nil (D.cell 1 (nth r0 0))) (D.r3 (D.cell 1 (nth r0 0))) (D.nil (D.cell 2 (nth r0 0))) (D.ints (D.cell 2 (nth r0 0))) (D.nil (D.cell 3 (nth r0 0))) (D.ints (D.cell 3 (nth r0 0))) (D.nil (D.cell 4 (nth r0 0))) (D.ints (D.cell 4 (nth r0 0))) (D.toInt (D.cell 0 (nth r0 0))) (0 : Int) (0 : Int) (0 : Int) (0 : Int)) := by kernel_rfl
theorem qqg (k n : Nat) (fu : List (Nat × Nat)) (x0 x1 : Int) (z2 : Bool) (l3 : List (Int × Int × Int)) (z4 : Bool) (l5 : List Int) (z6 : Bool) (l7 : List Int) (z8 : Bool) (l9 : List Int) (x10 : Int) (z11 : Bool) (l12 : List (Int × Int × Int)) (z13 : Bool) (l14 : List Int) (z15 : Bool) (l16 : List Int) (z17 : Bool) (l18 : List Int) (x19 x20 x21 x22 x23 : Int) (z24 : Bool) (l25 : List (Int × Int × Int)) (z26 : Bool) (l27 : List Int) (z28 : Bool) (l29 : List Int) (z30 : Bool) (l31 : List Int) (x32 x33 x34 x35 x36 : Int) : lp k spec_l15Decay [] fu 4 (n + 1) (qxq x0 x1 z2 l3 z4 l5 z6 l7 z8 l9 x10 z11 l12 z13 l14 z15 l16 z17 l18 x19 x20 x21 x22 x23 z24 l25 z26 l27 z28 l29 z30 l31 x32 x33 x34 x35 x36) =
 cond (decide (x1 < nI (List.length l7)))
 (cond (decide ((0 : Int) ≤ x1) && decide (x1 < nI (List.length l7)))
 (cond (decide ((0 : Int) ≤ x1) && decide (x1 < nI (List.length l29)))
 (cond (decide ((0 : Int) ≤ x1) && decide (x1 < nI (List.length l29)))
 (lp k spec_l15Decay [] fu 4 n (qxq x0 (IntKind.wrap .i64 (x1 + (1 : Int))) z2 l3 z4 l5 z6 l7 z8 l9 x10 z11 l12 z13 l14 z15 l16 z17 l18 x19 x20 x21 x22 x23 z24 l25 z26 l27 z28 (List.set l29 (Int.toNat x1) (IntKind.wrap .i64 (List.getD l29 (Int.toNat x1) (0 : Int) - IntKind.wrap .i64 (Int.tdiv (IntKind.wrap .i64 (List.getD l7 (Int.toNat x1) (0 : Int) * x0)) (1000 : Int))))) z30 l31 x32 x33 x34 x35 (IntKind.wrap .i64 (x36 + IntKind.wrap .i64 (Int.tdiv (IntKind.wrap .i64 (List.getD l7 (Int.toNat x1) (0 : Int) * x0)) (1000 : Int))))))
 none)
 none)
 none)
 (some [(.agg [(.int .i64 x32), (.arr true z24 (.r3 l25)), (.arr true z26 (.ints .i64 l27)), (.arr true z28 (.ints .i64 l29)), (.arr true z30 (.ints .i64 l31))]), (.agg [(.int .i64 x33), (.int .i64 x34), (.int .i64 x35), (.int .i64 x36)])]) := by kernel_rfl
def qxv (x0 x1 x2 x3 x4 x5 x6 x7 x8 x9 x10 : Int) (z11 : Bool) (l12 : List (Int × Int × Int)) (z13 : Bool) (l14 : List Int) (z15 : Bool) (l16 : List Int) (z17 : Bool) (l18 : List Int) (x19 x20 x21 x22 x23 : Int) (z24 : Bool) (l25 : List (Int × Int × Int)) (z26 : Bool) (l27 : List Int) (z28 : Bool) (l29 : List Int) (z30 : Bool) (l31 : List Int) (x32 x33 x34 x35 x36 : Int) : St := ⟨fill 79 [(2, (.int .i64 x0)), (4, (.ptr 0 0 0)), (6, (.ptr 5 0 0)), (7, (.ptr 6 0 0)), (8, (.ptr 11 0 0)), (9, (.ptr 12 0 0)), (16, (.int .i64 x1))], [], [(.box true [(.int .i64 x2), (.int .i64 x3), (.int .i64 x4), (.int .i64 x5), (.int .i64 x6), (.int .i64 x7), (.int .i64 x8), (.int .i64 x9), (.int .i64 x10)]), (.arr true z11 (.r3 l12)), (.arr true z13 (.ints .i64 l14)), (.arr true z15 (.ints .i64 l16)), (.arr true z17 (.ints .i64 l18)), (.box true [(.int .i64 x19), (.sl 1 none), (.sl 2 none), (.sl 3 none), (.sl 4 none)]), (.box true [(.int .i64 x20), (.int .i64 x21), (.int .i64 x22), (.int .i64 x23)]), (.arr true z24 (.r3 l25)), (.arr true z26 (.ints .i64 l27)), (.arr true z28 (.ints .i64 l29)), (.arr true z30 (.ints .i64 l31)), (.box true [(.int .i64 x32), (.sl 7 none), (.sl 8 none), (.sl 9 none), (.sl 10 none)]), (.box true [(.int .i64 x33), (.int .i64 x34), (.int .i64 x35), (.int .i64 x36)])]⟩
theorem qm3 (k : Nat) (a0 : Int) (a1z : Bool) (a1 : List (Int × Int × Int)) (a2z : Bool) (a2 : List Int) (a3z : Bool) (a3 : List Int) (a4z : Bool) (a4 : List Int) (b0 b1 b2 b3 b4 b5 b6 b7 b8 c : Int) : go (k + 1) spec_l18Macro [(.agg [(.int .i64 a0), (.arr false a1z (.r3 a1)), (.arr false a2z (.ints .i64 a2)), (.arr false a3z (.ints .i64 a3)), (.arr false a4z (.ints .i64 a4))]), (.agg [(.int .i64 b0), (.int .i64 b1), (.int .i64 b2), (.int .i64 b3), (.int .i64 b4), (.int .i64 b5), (.int .i64 b6), (.int .i64 b7), (.int .i64 b8)]), (.int .i64 c)] =
 (go k spec_l13Apply [(.agg [(.int .i64 a0), (.arr false a1z (.r3 a1)), (.arr false a2z (.ints .i64 a2)), (.arr false a3z (.ints .i64 a3)), (.arr false a4z (.ints .i64 a4))]), (.agg [(.int .i64 b0), (.int .i64 b1), (.int .i64 b2)])]).bind fun r0 =>
 (go k spec_l14Rain [(.agg [(.int .i64 (D.toInt (D.cell 0 (nth r0 0)))), (.arr false (D.nil (D.cell 1 (nth r0 0))) (.r3 (D.r3 (D.cell 1 (nth r0 0))))), (.arr false (D.nil (D.cell 2 (nth r0 0))) (.ints .i64 (D.ints (D.cell 2 (nth r0 0))))), (.arr false (D.nil (D.cell 3 (nth r0 0))) (.ints .i64 (D.ints (D.cell 3 (nth r0 0))))), (.arr false (D.nil (D.cell 4 (nth r0 0))) (.ints .i64 (D.ints (D.cell 4 (nth r0 0)))))]), (.int .i64 b3)]).bind fun r1 =>
 (go k spec_l14Soak [(.agg [(.int .i64 (D.toInt (D.cell 0 (nth r1 0)))), (.arr false (D.nil (D.cell 1 (nth r1 0))) (.r3 (D.r3 (D.cell 1 (nth r1 0))))), (.arr false (D.nil (D.cell 2 (nth r1 0))) (.ints .i64 (D.ints (D.cell 2 (nth r1 0))))), (.arr false (D.nil (D.cell 3 (nth r1 0))) (.ints .i64 (D.ints (D.cell 3 (nth r1 0))))), (.arr false (D.nil (D.cell 4 (nth r1 0))) (.ints .i64 (D.ints (D.cell 4 (nth r1 0)))))]), (.int .i64 b4)]).bind fun r2 =>
 (go k spec_l15Decay [(.agg [(.int .i64 (D.toInt (D.cell 0 (nth r2 0)))), (.arr false (D.nil (D.cell 1 (nth r2 0))) (.r3 (D.r3 (D.cell 1 (nth r2 0))))), (.arr false (D.nil (D.cell 2 (nth r2 0))) (.ints .i64 (D.ints (D.cell 2 (nth r2 0))))), (.arr false (D.nil (D.cell 3 (nth r2 0))) (.ints .i64 (D.ints (D.cell 3 (nth r2 0))))), (.arr false (D.nil (D.cell 4 (nth r2 0))) (.ints .i64 (D.ints (D.cell 4 (nth r2 0)))))]), (.int .i64 b5)]).bind fun r3 =>
 (go k spec_LedgerAdd [(.agg [(.int .i64 (D.toInt (D.cell 0 (nth r0 1)))), (.int .i64 (D.toInt (D.cell 1 (nth r0 1)))), (.int .i64 (D.toInt (D.cell 2 (nth r0 1)))), (.int .i64 (D.toInt (D.cell 3 (nth r0 1))))]), (.agg [(.int .i64 (D.toInt (D.cell 0 (nth r1 1)))), (.int .i64 (D.toInt (D.cell 1 (nth r1 1)))), (.int .i64 (D.toInt (D.cell 2 (nth r1 1)))), (.int .i64 (D.toInt (D.cell 3 (nth r1 1))))])]).bind fun r4 =>
 (go k spec_LedgerAdd [(.agg [(.int .i64 (D.toInt (D.cell 0 (nth r2 1)))), (.int .i64 (D.toInt (D.cell 1 (nth r2 1)))), (.int .i64 (D.toInt (D.cell 2 (nth r2 1)))), (.int .i64 (D.toInt (D.cell 3 (nth r2 1))))]), (.agg [(.int .i64 (D.toInt (D.cell 0 (nth r3 1)))), (.int .i64 (D.toInt (D.cell 1 (nth r3 1)))), (.int .i64 (D.toInt (D.cell 2 (nth r3 1)))), (.int .i64 (D.toInt (D.cell 3 (nth r3 1))))])]).bind fun r5 =>
 (go k spec_LedgerAdd [(.agg [(.int .i64 (D.toInt (D.cell 0 (nth r4 0)))), (.int .i64 (D.toInt (D.cell 1 (nth r4 0)))), (.int .i64 (D.toInt (D.cell 2 (nth r4 0)))), (.int .i64 (D.toInt (D.cell 3 (nth r4 0))))]), (.agg [(.int .i64 (D.toInt (D.cell 0 (nth r5 0)))), (.int .i64 (D.toInt (D.cell 1 (nth r5 0)))), (.int .i64 (D.toInt (D.cell 2 (nth r5 0)))), (.int .i64 (D.toInt (D.cell 3 (nth r5 0))))])]).bind fun r6 =>
 lp k spec_l18Macro [] [] 8 k (qxv c (0 : Int) b0 b1 b2 b3 b4 b5 b6 b7 b8 true [] true [] true [] true [] (0 : Int) (0 : Int) (0 : Int) (0 : Int) (0 : Int) (D.nil (D.cell 1 (nth r3 0))) (D.r3 (D.cell 1 (nth r3 0))) (D.nil (D.cell 2 (nth r3 0))) (D.ints (D.cell 2 (nth r3 0))) (D.nil (D.cell 3 (nth r3 0))) (D.ints (D.cell 3 (nth r3 0))) (D.nil (D.cell 4 (nth r3 0))) (D.ints (D.cell 4 (nth r3 0))) (D.toInt (D.cell 0 (nth r3 0))) (D.toInt (D.cell 0 (nth r6 0))) (D.toInt (D.cell 1 (nth r6 0))) (D.toInt (D.cell 2 (nth r6 0))) (D.toInt (D.cell 3 (nth r6 0)))) := by kernel_rfl
theorem qql (k n : Nat) (fu : List (Nat × Nat)) (x0 x1 x2 x3 x4 x5 x6 x7 x8 x9 x10 : Int) (z11 : Bool) (l12 : List (Int × Int × Int)) (z13 : Bool) (l14 : List Int) (z15 : Bool) (l16 : List Int) (z17 : Bool) (l18 : List Int) (x19 x20 x21 x22 x23 : Int) (z24 : Bool) (l25 : List (Int × Int × Int)) (z26 : Bool) (l27 : List Int) (z28 : Bool) (l29 : List Int) (z30 : Bool) (l31 : List Int) (x32 x33 x34 x35 x36 : Int) : lp k spec_l18Macro [] fu 8 (n + 1) (qxv x0 x1 x2 x3 x4 x5 x6 x7 x8 x9 x10 z11 l12 z13 l14 z15 l16 z17 l18 x19 x20 x21 x22 x23 z24 l25 z26 l27 z28 l29 z30 l31 x32 x33 x34 x35 x36) =
 cond (decide (x1 < (16 : Int)))
 ((go k spec_l11Step [(.agg [(.int .i64 x32), (.arr false z24 (.r3 l25)), (.arr false z26 (.ints .i64 l27)), (.arr false z28 (.ints .i64 l29)), (.arr false z30 (.ints .i64 l31))]), (.int .i64 x1)]).bind fun r0 =>
 lp k spec_l18Macro [] fu 8 n (qxv x0 (IntKind.wrap .i64 (x1 + (1 : Int))) x2 x3 x4 x5 x6 x7 x8 x9 x10 z11 l12 z13 l14 z15 l16 z17 l18 x19 x20 x21 x22 x23 (D.nil (D.cell 1 (nth r0 0))) (D.r3 (D.cell 1 (nth r0 0))) (D.nil (D.cell 2 (nth r0 0))) (D.ints (D.cell 2 (nth r0 0))) (D.nil (D.cell 3 (nth r0 0))) (D.ints (D.cell 3 (nth r0 0))) (D.nil (D.cell 4 (nth r0 0))) (D.ints (D.cell 4 (nth r0 0))) (D.toInt (D.cell 0 (nth r0 0))) x33 x34 x35 x36))
 (cond (decide ((0 : Int) < x10))
 (cond (!decide (x10 = (0 : Int)))
 (cond (decide (Int.tmod (IntKind.wrap .i64 (x0 + (1 : Int))) x10 = (0 : Int)))
 ((go k spec_l17Adapt [(.agg [(.int .i64 x32), (.arr false z24 (.r3 l25)), (.arr false z26 (.ints .i64 l27)), (.arr false z28 (.ints .i64 l29)), (.arr false z30 (.ints .i64 l31))]), (.int .i64 x8), (.int .i64 x9)]).bind fun r1 =>
 some [(.agg [(.int .i64 (D.toInt (D.cell 0 (nth r1 0)))), (.arr true (D.nil (D.cell 1 (nth r1 0))) (.r3 (D.r3 (D.cell 1 (nth r1 0))))), (.arr true (D.nil (D.cell 2 (nth r1 0))) (.ints .i64 (D.ints (D.cell 2 (nth r1 0))))), (.arr true (D.nil (D.cell 3 (nth r1 0))) (.ints .i64 (D.ints (D.cell 3 (nth r1 0))))), (.arr true (D.nil (D.cell 4 (nth r1 0))) (.ints .i64 (D.ints (D.cell 4 (nth r1 0)))))]), (.agg [(.int .i64 x33), (.int .i64 x34), (.int .i64 x35), (.int .i64 x36)])])
 (some [(.agg [(.int .i64 x32), (.arr true z24 (.r3 l25)), (.arr true z26 (.ints .i64 l27)), (.arr true z28 (.ints .i64 l29)), (.arr true z30 (.ints .i64 l31))]), (.agg [(.int .i64 x33), (.int .i64 x34), (.int .i64 x35), (.int .i64 x36)])]))
 none)
 (some [(.agg [(.int .i64 x32), (.arr true z24 (.r3 l25)), (.arr true z26 (.ints .i64 l27)), (.arr true z28 (.ints .i64 l29)), (.arr true z30 (.ints .i64 l31))]), (.agg [(.int .i64 x33), (.int .i64 x34), (.int .i64 x35), (.int .i64 x36)])])) := by kernel_rfl

end Go.Proofs.YtoldpdhhfmlckaaGreat
end
section
namespace Go.Proofs.YtoldpdhhfmlckaaGreat
open Go.Ev
set_option maxRecDepth 20000
theorem qf7 (k : Nat) (hk : 2000000 ≤ k) (l : List Cell) (a : Int) (ha : 0 ≤ a ∧ a ≤ 10000) (i : Nat) :
    go (k + 3) spec_l14Part [.int .i64 a, .int .i64 (l.getD i zz3).2.1] = some [.int .i64 (part a l i)] := by
  rw [qmv]
  have d := qzn ha l i; have p := quk ha l i
  have e := d.2
  simp (disch := omega) only [qe9, qa9, nth0, qzu, q0l, e]
theorem qs4 (k : Nat) (hk : 2000000 ≤ k) (fu : List (Nat × Nat)) (z1 z2 z3 z4 : Bool) (r : Int) (l : List Cell) (m t b : List Int) (a : Int) (ha : 0 ≤ a ∧ a ≤ 10000) (F : StF r l m t b) (y1 y2 y3 y4 : Bool) (q1 : List Cell) (q2 q3 q4 : List Int) (p0 p1 p2 p3 p4 : Int) (v1 v2 v3 v4 : Bool) : ∀ (N i : Nat), i ≤ l.length → l.length - i < N →
    lp (k + 3) spec_l14Rain [] fu 4 (N) (qxo a (qy4 (part a l) i) (i : Int) z1 l z2 m z3 t z4 b r y1 q1 y2 q2 y3 q3 y4 q4 p0 p1 p2 p3 p4 false l false (upto l.length i (raF a l m) (fun j => m.getD j 0)) false t false b r) = some [.agg [.int .i64 (r), .arr true (false) (.r3 (l)), .arr true (false) (.ints .i64 ((raS a l (m, t)).1.1)), .arr true (false) (.ints .i64 (t)), .arr true (false) (.ints .i64 (b))], .agg [.int .i64 (raS a l (m, t)).2.mi, .int .i64 0, .int .i64 0, .int .i64 0]]
  | 0, i, hi, hN => by omega
  | N + 1, i, hi, hN => by
    rw [qqe]
    have L := F.len; have p := quk ha l i; have ps := qul ha l i; have ml := F.ml; have ms := F.msum; have f := F.at i; have tl := F.tl; have bl := F.bl; have rr := F.rr
    by_cases g : i < l.length
    · have IH := qs4 k hk fu z1 z2 z3 z4 r l m t b a ha F y1 y2 y3 y4 q1 q2 q3 q4 p0 p1 p2 p3 p4 v1 v2 v3 v4 N (i + 1) (by omega) (by omega)
      rw [show qy4 (part a l) (i + 1) = qy4 (part a l) i + part a l i from rfl] at IH
      have es : (upto l.length i (raF a l m) (fun j => m.getD j 0)).set i (m.getD i 0 + part a l i) = upto l.length (i + 1) (raF a l m) (fun j => m.getD j 0) := q0a _ _ _ _ _ rfl
      have eg : (upto l.length i (raF a l m) (fun j => m.getD j 0)).getD i 0 = m.getD i 0 := qz8 g
      simp (disch := omega) only [nI, dT, Bool.and_true, Int.toNat_natCast, qf7, qz9, qgp, q0l, eg, qhl, qa9, nth0, qzu, es, IH]
    · have : i = l.length := by omega
      subst this
      have e1 : isum (tab l.length (raF a l m)) = isum m + qy4 (part a l) l.length := by rw [qol, qy5, qok m, ml]
      have mem : ∀ x ∈ tab l.length (raF a l m), 0 ≤ x ∧ x ≤ 1000000000000 := by
        intro x hx
        simp only [tab, List.mem_map] at hx
        obtain ⟨j, _, rfl⟩ := hx
        have f := F.at j; have p := quk ha l j
        show 0 ≤ m.getD j 0 + part a l j ∧ m.getD j 0 + part a l j ≤ _
        omega
      have es := qfy (k + 2) (by omega) false (tab l.length (raF a l m)) (by rw [qzf]; omega) mem
      unfold raS
      by_cases h : isum m + qy4 (part a l) l.length ≤ 10000000
      · rw [if_pos h]
        simp (disch := omega) only [nI, dF, dT, Bool.and_false, Int.toNat_natCast, qz7, Bool.true_and, qgp, q0l, qhj, es, e1, qa9, nth0, qzu]
      · rw [if_neg h]
        simp (disch := omega) only [nI, dF, dT, Bool.and_false, Int.toNat_natCast, qz7, Bool.true_and, qgp, q0l, qhj, es, e1, qfw, qa9, nth0, qgr, qzu, qgs, qt3, quv, qg3, qob, qg5, qg6, qhl]
theorem qgl (k : Nat) (hk : 2000000 ≤ k) (z1 z2 z3 z4 : Bool) (r : Int) (l : List Cell) (m t b : List Int) (a : Int) (ha : 0 ≤ a ∧ a ≤ 10000) (F : StF r l m t b) :
    go (k + 4) spec_l14Rain [.agg [.int .i64 (r), .arr false (z1) (.r3 (l)), .arr false (z2) (.ints .i64 (m)), .arr false (z3) (.ints .i64 (t)), .arr false (z4) (.ints .i64 (b))], .int .i64 a] = some [.agg [.int .i64 (r), .arr true (false) (.r3 (l)), .arr true (false) (.ints .i64 ((raS a l (m, t)).1.1)), .arr true (false) (.ints .i64 (t)), .arr true (false) (.ints .i64 (b))], .agg [.int .i64 (raS a l (m, t)).2.mi, .int .i64 0, .int .i64 0, .int .i64 0]] := by
  rw [qmw]
  have L := F.len; have ml := F.ml; have tl := F.tl; have bl := F.bl; have rr := F.rr
  have e := qs4 k hk [] z1 z2 z3 z4 r l m t b a ha F true true true true [] [] [] [] 0 0 0 0 0 true true true true (k + 3) 0 (by omega) (by omega)
  rw [show ((0 : Nat) : Int) = 0 from rfl, show qy4 (part a l) 0 = 0 from rfl, q0b m l.length ml] at e
  simp (disch := omega) only [qfw, qa9, nth0, qgs, qt3, quv, qg3, qob, qg5, qg6, qgr, qzu]
  exact e
end Go.Proofs.YtoldpdhhfmlckaaGreat
end
section
namespace Go.Proofs.YtoldpdhhfmlckaaGreat
open Go.Ev
set_option maxRecDepth 20000
theorem qs5 (k : Nat) (hk : 2000000 ≤ k) (fu : List (Nat × Nat)) (z1 z2 z3 z4 : Bool) (r : Int) (l : List Cell) (m t b : List Int) (a : Int) (ha : 0 ≤ a ∧ a ≤ 10000) (F : StF r l m t b) (y1 y2 y3 y4 : Bool) (q1 : List Cell) (q2 q3 q4 : List Int) (p0 p1 p2 p3 p4 : Int) : ∀ (N i : Nat), i ≤ l.length → l.length - i < N →
    lp (k + 3) spec_l14Soak [] fu 4 (N) (qxp a (i : Int) z1 l z2 m z3 t z4 b r y1 q1 y2 q2 y3 q3 y4 q4 p0 p1 p2 p3 p4 false l false (upto l.length i (soF a l m) (fun j => m.getD j 0)) false (upto l.length i (soG a l m t) (fun j => t.getD j 0)) false b r 0 (qy4 (soX a l m) i) 0 (qy4 (soY a l m t) i)) = some [.agg [.int .i64 (r), .arr true (false) (.r3 (l)), .arr true (false) (.ints .i64 (tab l.length (soF a l m))), .arr true (false) (.ints .i64 (tab l.length (soG a l m t))), .arr true (false) (.ints .i64 (b))], .agg [.int .i64 0, .int .i64 (qy4 (soX a l m) l.length), .int .i64 0, .int .i64 (qy4 (soY a l m t) l.length)]]
  | 0, i, hi, hN => by omega
  | N + 1, i, hi, hN => by
    rw [qqf]
    have L := F.len; have f := F.at i; have p := quk ha l i; have ml := F.ml; have tl := F.tl
    by_cases g : i < l.length
    · have IH := qs5 k hk fu z1 z2 z3 z4 r l m t b a ha F y1 y2 y3 y4 q1 q2 q3 q4 p0 p1 p2 p3 p4 N (i + 1) (by omega) (by omega)
      rw [show qy4 (soX a l m) (i + 1) = qy4 (soX a l m) i + soX a l m i from rfl, show qy4 (soY a l m t) (i + 1) = qy4 (soY a l m t) i + soY a l m t i from rfl] at IH
      have s1 : (upto l.length i (soF a l m) (fun j => m.getD j 0)).set i (m.getD i 0 - soX a l m i) = upto l.length (i + 1) (soF a l m) (fun j => m.getD j 0) := q0a _ _ _ _ _ rfl
      have s2 : (upto l.length i (soG a l m t) (fun j => t.getD j 0)).set i (t.getD i 0 - soY a l m t i) = upto l.length (i + 1) (soG a l m t) (fun j => t.getD j 0) := q0a _ _ _ _ _ rfl
      have g1 : (upto l.length i (soF a l m) (fun j => m.getD j 0)).getD i 0 = m.getD i 0 := qz8 g
      have g2 : (upto l.length i (soG a l m t) (fun j => t.getD j 0)).getD i 0 = t.getD i 0 := qz8 g
      have x1 := qyh F ha i; have y1 := (qyi F ha i).1
      have q := qyj F ha i
      have ms := F.msum; have ts := F.tle
      have d1 := qy7 F.mmem i; have d2 := qy7 F.tmem i
      have ex : min (m.getD i 0) (part a l i) = soX a l m i := rfl
      have ey : qx7 (t.getD i 0) (soX a l m i) (m.getD i 0) = soY a l m t i := rfl
      simp (disch := omega) only [nI, dT, Bool.and_true, Int.toNat_natCast, qf7, imin, qe4, qz9, qgp, q0l, g1, g2, qhl, qa9, nth0, qzu, ex, s1, ey, s2, IH]
    · have : i = l.length := by omega
      subst this
      simp (disch := omega) only [nI, dF, dT, Bool.and_false, Int.toNat_natCast, imin, qz7, Bool.true_and, qgp, q0l, qhj]
theorem qgn (k : Nat) (hk : 2000000 ≤ k) (z1 z2 z3 z4 : Bool) (r : Int) (l : List Cell) (m t b : List Int) (a : Int) (ha : 0 ≤ a ∧ a ≤ 10000) (F : StF r l m t b) :
    go (k + 4) spec_l14Soak [.agg [.int .i64 (r), .arr false (z1) (.r3 (l)), .arr false (z2) (.ints .i64 (m)), .arr false (z3) (.ints .i64 (t)), .arr false (z4) (.ints .i64 (b))], .int .i64 a] = some [.agg [.int .i64 (r), .arr true (false) (.r3 (l)), .arr true (false) (.ints .i64 ((soS a l (m, t)).1.1)), .arr true (false) (.ints .i64 ((soS a l (m, t)).1.2)), .arr true (false) (.ints .i64 (b))], .agg [.int .i64 0, .int .i64 (soS a l (m, t)).2.mo, .int .i64 0, .int .i64 (soS a l (m, t)).2.ou]] := by
  rw [qmx]
  have L := F.len; have ml := F.ml; have tl := F.tl; have bl := F.bl; have rr := F.rr
  have e := qs5 k hk [] z1 z2 z3 z4 r l m t b a ha F true true true true [] [] [] [] 0 0 0 0 0 (k + 3) 0 (by omega) (by omega)
  rw [show ((0 : Nat) : Int) = 0 from rfl, show qy4 (soX a l m) 0 = 0 from rfl, show qy4 (soY a l m t) 0 = 0 from rfl, q0b m l.length ml, q0b t l.length tl] at e
  simp (disch := omega) only [qfw, qa9, nth0, qgs, qt3, quv, qg3, qob, qg5, qg6, qgr, qzu]
  exact e
theorem qst (k : Nat) (hk : 2000000 ≤ k) (fu : List (Nat × Nat)) (z1 z2 z3 z4 : Bool) (r : Int) (l : List Cell) (m t b : List Int) (a : Int) (ha : 0 ≤ a ∧ a ≤ 1000) (F : StF r l m t b) (y1 y2 y3 y4 : Bool) (q1 : List Cell) (q2 q3 q4 : List Int) (p0 p1 p2 p3 p4 : Int) : ∀ (N i : Nat), i ≤ l.length → l.length - i < N →
    lp (k + 2) spec_l15Decay [] fu 4 (N) (qxq a (i : Int) z1 l z2 m z3 t z4 b r y1 q1 y2 q2 y3 q3 y4 q4 p0 p1 p2 p3 p4 false l false m false (upto l.length i (deF a t) (fun j => t.getD j 0)) false b r 0 0 0 (qy4 (deX a t) i)) = some [.agg [.int .i64 (r), .arr true (false) (.r3 (l)), .arr true (false) (.ints .i64 (m)), .arr true (false) (.ints .i64 (tab l.length (deF a t))), .arr true (false) (.ints .i64 (b))], .agg [.int .i64 0, .int .i64 0, .int .i64 0, .int .i64 (qy4 (deX a t) l.length)]]
  | 0, i, hi, hN => by omega
  | N + 1, i, hi, hN => by
    rw [qqg]
    have L := F.len; have f := F.at i; have d := qzl F ha i; have tl := F.tl
    by_cases g : i < l.length
    · have IH := qst k hk fu z1 z2 z3 z4 r l m t b a ha F y1 y2 y3 y4 q1 q2 q3 q4 p0 p1 p2 p3 p4 N (i + 1) (by omega) (by omega)
      rw [show qy4 (deX a t) (i + 1) = qy4 (deX a t) i + deX a t i from rfl] at IH
      have s2 : (upto l.length i (deF a t) (fun j => t.getD j 0)).set i (t.getD i 0 - deX a t i) = upto l.length (i + 1) (deF a t) (fun j => t.getD j 0) := q0a _ _ _ _ _ rfl
      have g2 : (upto l.length i (deF a t) (fun j => t.getD j 0)).getD i 0 = t.getD i 0 := qz8 g
      have x1 := qhx F ha i; have q := qhy F ha i; have ts := F.tle; have d2 := qy7 F.tmem i
      have ed := d.2
      simp (disch := omega) only [nI, dT, Bool.and_true, qz9, qgp, q0l, Int.toNat_natCast, g2, ed, s2, IH, qhl]
    · have : i = l.length := by omega
      subst this
      simp (disch := omega) only [nI, dF, dT, Bool.and_false, qz7, Bool.true_and, qgp, q0l, Int.toNat_natCast, qhj]
theorem qfg (k : Nat) (hk : 2000000 ≤ k) (z1 z2 z3 z4 : Bool) (r : Int) (l : List Cell) (m t b : List Int) (a : Int) (ha : 0 ≤ a ∧ a ≤ 1000) (F : StF r l m t b) :
    go (k + 3) spec_l15Decay [.agg [.int .i64 (r), .arr false (z1) (.r3 (l)), .arr false (z2) (.ints .i64 (m)), .arr false (z3) (.ints .i64 (t)), .arr false (z4) (.ints .i64 (b))], .int .i64 a] = some [.agg [.int .i64 (r), .arr true (false) (.r3 (l)), .arr true (false) (.ints .i64 (m)), .arr true (false) (.ints .i64 ((deS a l (m, t)).1.2)), .arr true (false) (.ints .i64 (b))], .agg [.int .i64 0, .int .i64 0, .int .i64 0, .int .i64 (deS a l (m, t)).2.ou]] := by
  rw [qmy]
  have L := F.len; have ml := F.ml; have tl := F.tl; have bl := F.bl; have rr := F.rr
  have e := qst k hk [] z1 z2 z3 z4 r l m t b a ha F true true true true [] [] [] [] 0 0 0 0 0 (k + 2) 0 (by omega) (by omega)
  rw [show ((0 : Nat) : Int) = 0 from rfl, show qy4 (deX a t) 0 = 0 from rfl, q0b t l.length tl] at e
  simp (disch := omega) only [qfw, qa9, nth0, qgs, qt3, quv, qg3, qob, qg5, qg6, qgr, qzu]
  exact e
end Go.Proofs.YtoldpdhhfmlckaaGreat
end
section
namespace Go.Proofs.YtoldpdhhfmlckaaGreat
open Go.Ev
set_option maxRecDepth 20000
theorem qff (k : Nat) (hk : 2000000 ≤ k) (z1 z2 z3 z4 : Bool) (r : Int) (l : List Cell) (m t b : List Int) (F : StF r l m t b) (a c o : Int) (ha : 0 ≤ a ∧ a ≤ 10000) (hc : 0 ≤ c ∧ c ≤ 1000) (ho : 0 ≤ o ∧ o ≤ 250) :
    go (k + 3) spec_l13Apply [.agg [.int .i64 (r), .arr false (z1) (.r3 (l)), .arr false (z2) (.ints .i64 (m)), .arr false (z3) (.ints .i64 (t)), .arr false (z4) (.ints .i64 (b))], .agg [.int .i64 a, .int .i64 c, .int .i64 o]] =
      some [.agg [.int .i64 (r), .arr true (false) (.r3 (l)), .arr true (false) (.ints .i64 ((boS a c o (m, t)).1.1)), .arr true (false) (.ints .i64 ((boS a c o (m, t)).1.2)), .arr true (false) (.ints .i64 (b))], ldD (boS a c o (m, t)).2] := by
  rw [qmt]
  have L := F.len; have ml := F.ml; have tl := F.tl; have bl := F.bl; have rr := F.rr
  have f := F.at (m.length - 1)
  have d := qzm ⟨f.1, f.2.1⟩ ho
  have ed : Int.tdiv (m.getD (m.length - 1) 0 * o) 1000 = boX o m := d.2
  have G := qbb F ho
  have bx := qbd F ho; have bY := qbe F ho; have ip := qoa ha hc
  have ey : qx7 (t.getD (m.length - 1) 0) (boX o m) (m.getD (m.length - 1) 0) = boY o m t := rfl
  unfold boS
  change StF r l (m.set (m.length - 1) (m.getD (m.length - 1) 0 - boX o m)) (t.set (m.length - 1) (t.getD (m.length - 1) 0 - boY o m t)) b ∧ _ at G
  rw [show bo1 o (m, t) = (m.set (m.length - 1) (m.getD (m.length - 1) 0 - boX o m), t.set (m.length - 1) (t.getD (m.length - 1) 0 - boY o m t)) from rfl] at G ⊢
  simp (disch := omega) only [qfw, nI, qgo, q0l, dT, Bool.and_true, Int.toNat_natCast, ed, qe4, ey, Bool.true_and, List.length_set, qa9, nth0, qzu, qhl, qg3, qob, qg5, qt3, qgr, qgs, quv, qg6]
  generalize m.set (m.length - 1) (m.getD (m.length - 1) 0 - boX o m) = M at *
  generalize t.set (m.length - 1) (t.getD (m.length - 1) 0 - boY o m t) = T at *
  obtain ⟨G, g1, g2⟩ := G
  have Ml := G.ml; have Tl := G.tl; have Mf := G.at 0; have Ms := G.msum
  have eS := qfy (k + 1) (by omega) false M (by omega) G.mmem
  by_cases h : isum M + a ≤ 10000000
  · rw [if_pos h]
    simp (disch := omega) only [eS, tnz, q0l, qa9, nth0, qzu, dT, qhl]
    rfl
  · rw [if_neg h]
    simp (disch := omega) only [eS, qa9, nth0, qzu, q0l, dF, qhj]
theorem qeu (k : Nat) (x y : Ld) (h1 : 0 ≤ x.mi + y.mi ∧ x.mi + y.mi ≤ 1000000000000000000) (h2 : 0 ≤ x.mo + y.mo ∧ x.mo + y.mo ≤ 1000000000000000000) (h3 : 0 ≤ x.ti + y.ti ∧ x.ti + y.ti ≤ 1000000000000000000) (h4 : 0 ≤ x.ou + y.ou ∧ x.ou + y.ou ≤ 1000000000000000000) :
    go (k + 1) spec_LedgerAdd [ldD x, ldD y] = some [ldD (x.add y)] := by
  rw [qll]
  simp (disch := omega) only [q0l]
  rfl
end Go.Proofs.YtoldpdhhfmlckaaGreat
end
section
namespace Go.Proofs.YtoldpdhhfmlckaaGreat
open Go.Ev
set_option maxRecDepth 20000
theorem qgm (k : Nat) (hk : 2000000 ≤ k) (z1 z2 z3 z4 : Bool) (r : Int) (l : List Cell) (s : S2) (b : List Int) (a : Int) (ha : 0 ≤ a ∧ a ≤ 10000) (F : StF r l s.1 s.2 b) :
    go (k + 4) spec_l14Rain [.agg [.int .i64 (r), .arr false (z1) (.r3 (l)), .arr false (z2) (.ints .i64 (s.1)), .arr false (z3) (.ints .i64 (s.2)), .arr false (z4) (.ints .i64 (b))], .int .i64 a] = some [.agg [.int .i64 (r), .arr true (false) (.r3 (l)), .arr true (false) (.ints .i64 ((raS a l s).1.1)), .arr true (false) (.ints .i64 ((raS a l s).1.2)), .arr true (false) (.ints .i64 (b))], ldD (raS a l s).2] := by
  have z := quz a l s
  rw [qgl k hk z1 z2 z3 z4 r l s.1 s.2 b a ha F, quy]
  simp only [ldD, z.1, z.2.1, z.2.2]
set_option maxHeartbeats 1000000 in
theorem qsj (k : Nat) (hk : 2000000 ≤ k) (fu : List (Nat × Nat)) (r : Int) (l : List Cell) (b : List Int) (p : Pl) (P : PlF p) (c : Int) (hc : 0 ≤ c ∧ c ≤ 10000000) (L : Ld) (y1 y2 y3 y4 : Bool) (q1 : List Cell) (q2 q3 q4 : List Int) (p0 p1 p2 p3 p4 : Int) : ∀ (N n i : Nat) (s : S2), i + n = 16 → n < N → StF r l s.1 s.2 b →
    lp (k + 7) spec_l18Macro [] fu 8 (N) (qxv c (i : Int) p.bi p.bs p.bo p.rain p.loss p.dec p.high p.low p.every y1 q1 y2 q2 y3 q3 y4 q4 p0 p1 p2 p3 p4 false l false s.1 false s.2 false b r L.mi L.mo L.ti L.ou) =
      some [.agg [.int .i64 (r), .arr true (false) (.r3 ((if 0 < p.every ∧ (c + 1) % p.every = 0 then ada p.high p.low b (l, qzp l b n i s) else (l, qzp l b n i s)).1)), .arr true (false) (.ints .i64 ((if 0 < p.every ∧ (c + 1) % p.every = 0 then ada p.high p.low b (l, qzp l b n i s) else (l, qzp l b n i s)).2.1)), .arr true (false) (.ints .i64 ((if 0 < p.every ∧ (c + 1) % p.every = 0 then ada p.high p.low b (l, qzp l b n i s) else (l, qzp l b n i s)).2.2)), .arr true (false) (.ints .i64 (b))], ldD L]
  | 0, n, i, s, hi, hN, F => by omega
  | N + 1, 0, i, s, hi, hN, F => by
    rw [qql]
    have : i = 16 := by omega
    subst this
    have LL := F.len
    have tm : Int.tmod (c + 1) p.every = (c + 1) % p.every := qzs (by omega)
    have eA := qga k (by omega) r l s.1 s.2 b F p.high p.low
    rw [show qzp l b 0 16 s = s from rfl]
    simp (disch := omega) only [dF, qgp, q0l, tm, qhj]
    by_cases w : 0 < p.every
    · by_cases w2 : (c + 1) % p.every = 0
      · rw [if_pos ⟨w, w2⟩]
        simp (disch := omega) only [dT, dF, Bool.not_false, w2, dTT, eA, qa9, nth0, qgr, qzu, qgs, qt3, quv, qg3, qob, qg5, qg6, qhl]
        rfl
      · rw [if_neg (fun h => w2 h.2)]
        simp (disch := omega) only [dT, dF, Bool.not_false, qhj, qhl]
    · rw [if_neg (fun h => w h.1)]
      simp (disch := omega) only [dF, qhj]
  | N + 1, n + 1, i, s, hi, hN, F => by
    rw [qql]
    have LL := F.len
    have IH := qsj k hk fu r l b p P c hc L y1 y2 y3 y4 q1 q2 q3 q4 p0 p1 p2 p3 p4 N n (i + 1) (tick l b i s) (by omega) (by omega) (qyz F i)
    have eS := qf5 (k + 2) (by omega) r false false false false l s.1 s.2 b F (i : Int)
    rw [show qzp l b (n + 1) i s = qzp l b n (i + 1) (tick l b i s) from rfl]
    simp only [tick] at IH ⊢
    simp (disch := omega) only [dT, eS, qgp, q0l, qa9, nth0, qgs, qt3, quv, qg3, qob, qg5, qg6, qgr, qzu, IH, qhl]
set_option maxHeartbeats 1000000 in
theorem qgb (k : Nat) (hk : 2000000 ≤ k) (r : Int) (s : S3) (b : List Int) (F : StF r s.1 s.2.1 s.2.2 b) (p : Pl) (P : PlF p) (c : Int) (hc : 0 ≤ c ∧ c ≤ 10000000) :
    go (k + 8) spec_l18Macro [.agg [.int .i64 (r), .arr false (false) (.r3 (s.1)), .arr false (false) (.ints .i64 (s.2.1)), .arr false (false) (.ints .i64 (s.2.2)), .arr false (false) (.ints .i64 (b))], plD p, .int .i64 c] = some [.agg [.int .i64 (r), .arr true (false) (.r3 ((mac p b c s).1.1)), .arr true (false) (.ints .i64 ((mac p b c s).1.2.1)), .arr true (false) (.ints .i64 ((mac p b c s).1.2.2)), .arr true (false) (.ints .i64 (b))], ldD (mac p b c s).2] := by
  rw [qm3]
  obtain ⟨l, s⟩ := s
  change StF r l s.1 s.2 b at F
  have h1 := qbc F P.bi P.bs P.bo
  have e1 := qff (k + 4) (by omega) false false false false r l s.1 s.2 b F p.bi p.bs p.bo P.bi P.bs P.bo
  obtain ⟨s1, q1⟩ : ∃ x, x = boS p.bi p.bs p.bo s := ⟨_, rfl⟩
  change StF r l (boS p.bi p.bs p.bo s).1.1 (boS p.bi p.bs p.bo s).1.2 b ∧ Led s (boS p.bi p.bs p.bo s).1 (boS p.bi p.bs p.bo s).2 at h1
  change _ = some [.agg [.int .i64 (r), .arr true (false) (.r3 (l)), .arr true (false) (.ints .i64 ((boS p.bi p.bs p.bo s).1.1)), .arr true (false) (.ints .i64 ((boS p.bi p.bs p.bo s).1.2)), .arr true (false) (.ints .i64 (b))], ldD (boS p.bi p.bs p.bo s).2] at e1
  rw [← q1] at h1 e1
  have h2 := qux h1.1 P.rain
  have e2 := qgm (k + 3) (by omega) false false false false r l s1.1 b p.rain P.rain h1.1
  obtain ⟨s2, q2⟩ : ∃ x, x = raS p.rain l s1.1 := ⟨_, rfl⟩
  change StF r l (raS p.rain l s1.1).1.1 (raS p.rain l s1.1).1.2 b ∧ Led s1.1 (raS p.rain l s1.1).1 (raS p.rain l s1.1).2 at h2
  rw [← q2] at h2 e2
  have h3 := qyg h2.1 P.loss
  have e3 := qgn (k + 3) (by omega) false false false false r l s2.1.1 s2.1.2 b p.loss P.loss h2.1
  obtain ⟨s3, q3⟩ : ∃ x, x = soS p.loss l s2.1 := ⟨_, rfl⟩
  change StF r l (soS p.loss l s2.1).1.1 (soS p.loss l s2.1).1.2 b ∧ Led s2.1 (soS p.loss l s2.1).1 (soS p.loss l s2.1).2 at h3
  change _ = some [.agg [.int .i64 (r), .arr true (false) (.r3 (l)), .arr true (false) (.ints .i64 ((soS p.loss l s2.1).1.1)), .arr true (false) (.ints .i64 ((soS p.loss l s2.1).1.2)), .arr true (false) (.ints .i64 (b))], ldD (soS p.loss l s2.1).2] at e3
  rw [← q3] at h3 e3
  have h4 := qhw h3.1 P.dec
  have e4 := qfg (k + 4) (by omega) false false false false r l s3.1.1 s3.1.2 b p.dec P.dec h3.1
  obtain ⟨s4, q4⟩ : ∃ x, x = deS p.dec l s3.1 := ⟨_, rfl⟩
  change StF r l (deS p.dec l s3.1).1.1 (deS p.dec l s3.1).1.2 b ∧ Led s3.1 (deS p.dec l s3.1).1 (deS p.dec l s3.1).2 at h4
  change _ = some [.agg [.int .i64 (r), .arr true (false) (.r3 (l)), .arr true (false) (.ints .i64 ((deS p.dec l s3.1).1.1)), .arr true (false) (.ints .i64 ((deS p.dec l s3.1).1.2)), .arr true (false) (.ints .i64 (b))], ldD (deS p.dec l s3.1).2] at e4
  rw [← q4] at h4 e4
  have l1 := h1.2; have l2 := h2.2; have l3 := h3.2; have l4 := h4.2
  have a1 := l1.mi; have a2 := l2.mi; have a3 := l3.mi; have a4 := l4.mi
  have b1 := l1.mo; have b2 := l2.mo; have b3 := l3.mo; have b4 := l4.mo
  have c1 := l1.ti; have c2 := l2.ti; have c3 := l3.ti; have c4 := l4.ti
  have d1 := l1.ou; have d2 := l2.ou; have d3 := l3.ou; have d4 := l4.ou
  have g1 := qeu (k + 6) s1.2 s2.2 (by omega) (by omega) (by omega) (by omega)
  have g2 := qeu (k + 6) s3.2 s4.2 (by omega) (by omega) (by omega) (by omega)
  have g3 := qeu (k + 6) (s1.2.add s2.2) (s3.2.add s4.2) (by simp only [Ld.add]; omega) (by simp only [Ld.add]; omega) (by simp only [Ld.add]; omega) (by simp only [Ld.add]; omega)
  have ll : (s1.2.add s2.2).add (s3.2.add s4.2) = ((s1.2.add s2.2).add s3.2).add s4.2 := by simp only [Ld.add, Int.add_assoc]
  have eq : mac p b c (l, s) = (if 0 < p.every ∧ (c + 1) % p.every = 0 then ada p.high p.low b (l, qzp l b 16 0 s4.1) else (l, qzp l b 16 0 s4.1), (s1.2.add s2.2).add (s3.2.add s4.2)) := by
    rw [ll]; subst q4; subst q3; subst q2; subst q1; rfl
  have eM := qsj k hk [] r l b p P c hc ((s1.2.add s2.2).add (s3.2.add s4.2)) true true true true [] [] [] [] 0 0 0 0 0 (k + 7) 16 0 s4.1 rfl (by omega) h4.1
  rw [show ((0 : Nat) : Int) = 0 from rfl] at eM
  rw [eq]
  simp (disch := omega) only [e1, qa9, nth0, qgr, qzu, qgs, qt3, quv, qg3, qob, qg5, qg6, e2, nth1, e3, g1, e4, g2, g3]
  exact eM
end Go.Proofs.YtoldpdhhfmlckaaGreat
end
