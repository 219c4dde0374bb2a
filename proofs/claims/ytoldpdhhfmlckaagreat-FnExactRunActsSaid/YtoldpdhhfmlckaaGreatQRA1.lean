/- What the program's functions compute, and plain facts of it (part 1). No condition beyond those that each theorem states. -/
import Derived.Test.YtoldpdhhfmlckaaGreatQC3
set_option linter.unusedVariables false
set_option linter.unusedSimpArgs false
section
namespace Go.Proofs.YtoldpdhhfmlckaaGreat
open Go.Ev
theorem qhd (d0 d1 d2 d3 d4 d5 d6 d7 d8 d9 : D) (l : List D) : (D.agg (d0 :: d1 :: d2 :: d3 :: d4 :: d5 :: d6 :: d7 :: d8 :: d9 :: l)).cell 9 = d9 := Eq.trans rfl rfl
theorem qgv (d0 d1 d2 d3 d4 d5 d6 d7 d8 d9 d10 : D) (l : List D) : (D.agg (d0 :: d1 :: d2 :: d3 :: d4 :: d5 :: d6 :: d7 :: d8 :: d9 :: d10 :: l)).cell 10 = d10 := Eq.trans rfl rfl
theorem qgw (d0 d1 d2 d3 d4 d5 d6 d7 d8 d9 d10 d11 : D) (l : List D) : (D.agg (d0 :: d1 :: d2 :: d3 :: d4 :: d5 :: d6 :: d7 :: d8 :: d9 :: d10 :: d11 :: l)).cell 11 = d11 := Eq.trans rfl rfl
theorem qgx (d0 d1 d2 d3 d4 d5 d6 d7 d8 d9 d10 d11 d12 : D) (l : List D) : (D.agg (d0 :: d1 :: d2 :: d3 :: d4 :: d5 :: d6 :: d7 :: d8 :: d9 :: d10 :: d11 :: d12 :: l)).cell 12 = d12 := Eq.trans rfl rfl
theorem qgy (d0 d1 d2 d3 d4 d5 d6 d7 d8 d9 d10 d11 d12 d13 : D) (l : List D) : (D.agg (d0 :: d1 :: d2 :: d3 :: d4 :: d5 :: d6 :: d7 :: d8 :: d9 :: d10 :: d11 :: d12 :: d13 :: l)).cell 13 = d13 := Eq.trans rfl rfl
theorem qgz (d0 d1 d2 d3 d4 d5 d6 d7 d8 d9 d10 d11 d12 d13 d14 : D) (l : List D) : (D.agg (d0 :: d1 :: d2 :: d3 :: d4 :: d5 :: d6 :: d7 :: d8 :: d9 :: d10 :: d11 :: d12 :: d13 :: d14 :: l)).cell 14 = d14 := Eq.trans rfl rfl
theorem qg0 (d0 d1 d2 d3 d4 d5 d6 d7 d8 d9 d10 d11 d12 d13 d14 d15 : D) (l : List D) : (D.agg (d0 :: d1 :: d2 :: d3 :: d4 :: d5 :: d6 :: d7 :: d8 :: d9 :: d10 :: d11 :: d12 :: d13 :: d14 :: d15 :: l)).cell 15 = d15 := Eq.trans rfl rfl
theorem qg1 (d0 d1 d2 d3 d4 d5 d6 d7 d8 d9 d10 d11 d12 d13 d14 d15 d16 : D) (l : List D) : (D.agg (d0 :: d1 :: d2 :: d3 :: d4 :: d5 :: d6 :: d7 :: d8 :: d9 :: d10 :: d11 :: d12 :: d13 :: d14 :: d15 :: d16 :: l)).cell 16 = d16 := Eq.trans rfl rfl
theorem qg2 (d0 d1 d2 d3 d4 d5 d6 d7 d8 d9 d10 d11 d12 d13 d14 d15 d16 d17 : D) (l : List D) : (D.agg (d0 :: d1 :: d2 :: d3 :: d4 :: d5 :: d6 :: d7 :: d8 :: d9 :: d10 :: d11 :: d12 :: d13 :: d14 :: d15 :: d16 :: d17 :: l)).cell 17 = d17 := Eq.trans rfl rfl
theorem qg3 (d0 d1 d2 d3 d4 d5 d6 d7 d8 d9 d10 d11 d12 d13 d14 d15 d16 d17 d18 : D) (l : List D) : (D.agg (d0 :: d1 :: d2 :: d3 :: d4 :: d5 :: d6 :: d7 :: d8 :: d9 :: d10 :: d11 :: d12 :: d13 :: d14 :: d15 :: d16 :: d17 :: d18 :: l)).cell 18 = d18 := Eq.trans rfl rfl
theorem qg4 (d0 d1 d2 d3 d4 d5 d6 d7 d8 d9 d10 d11 d12 d13 d14 d15 d16 d17 d18 d19 : D) (l : List D) : (D.agg (d0 :: d1 :: d2 :: d3 :: d4 :: d5 :: d6 :: d7 :: d8 :: d9 :: d10 :: d11 :: d12 :: d13 :: d14 :: d15 :: d16 :: d17 :: d18 :: d19 :: l)).cell 19 = d19 := Eq.trans rfl rfl
theorem qg6 (d0 d1 d2 d3 d4 d5 d6 d7 d8 d9 d10 d11 d12 d13 d14 d15 d16 d17 d18 d19 d20 : D) (l : List D) : (D.agg (d0 :: d1 :: d2 :: d3 :: d4 :: d5 :: d6 :: d7 :: d8 :: d9 :: d10 :: d11 :: d12 :: d13 :: d14 :: d15 :: d16 :: d17 :: d18 :: d19 :: d20 :: l)).cell 20 = d20 := Eq.trans rfl rfl
theorem qu0 (o n : Bool) (l : List (Int × Int × Int × Int)) : (D.arr o n (.r4 l)).r4 = l := Eq.trans rfl rfl
theorem qxy {α : Type} (l m : List α) (i : Nat) (x : α) (t : List α) (h : i < l.length) : (l.set i x).take (i + 1) ++ t = l.take i ++ (x :: t) := by
  have : (l.set i x).take (i + 1) = l.take i ++ [x] := by
    rw [List.take_succ_eq_append_getElem (by simp; omega)]
    simp [List.take_set_of_le]
  rw [this]; simp
end Go.Proofs.YtoldpdhhfmlckaaGreat
end
section
namespace Go.Proofs.YtoldpdhhfmlckaaGreat
open Go.Ev
def qwt (x0 x1 : Int) (z2 : Bool) (l3 : List (Int × Int × Int)) : St := ⟨fill 34 [(0, (.sl 0 none)), (1, (.int .i64 x0)), (5, (.int .i64 x1))], [(.sl 0 none)], [(.arr true z2 (.r3 l3))]⟩
theorem qk6 (k : Nat) (az : Bool) (a : List (Int × Int × Int)) (b : Int) : go (k + 1) laws_markIdS [(.arr true az (.r3 a)), (.int .i64 b)] =
 lp k laws_markIdS [(.arr true az (.r3 a))] [] 2 k (qwt b (0 : Int) az a) := by kernel_rfl
theorem qp1 (k n : Nat) (fu : List (Nat × Nat)) (az : Bool) (a : List (Int × Int × Int)) (x0 x1 : Int) (z2 : Bool) (l3 : List (Int × Int × Int)) : lp k laws_markIdS [(.arr true az (.r3 a))] fu 2 (n + 1) (qwt x0 x1 z2 l3) =
 cond (decide (x1 < nI (List.length l3)))
 (cond (decide ((0 : Int) ≤ x1) && decide (x1 < nI (List.length l3)))
 (cond (decide ((0 : Int) ≤ x1) && decide (x1 < nI (List.length (List.set l3 (Int.toNat x1) (x0, Prod.fst (Prod.snd (List.getD l3 (Int.toNat x1) zz3)), Prod.snd (Prod.snd (List.getD l3 (Int.toNat x1) zz3)))))))
 (cond (decide ((0 : Int) ≤ x1) && decide (x1 < nI (List.length (List.set (List.set l3 (Int.toNat x1) (x0, Prod.fst (Prod.snd (List.getD l3 (Int.toNat x1) zz3)), Prod.snd (Prod.snd (List.getD l3 (Int.toNat x1) zz3)))) (Int.toNat x1) (Prod.fst (List.getD (List.set l3 (Int.toNat x1) (x0, Prod.fst (Prod.snd (List.getD l3 (Int.toNat x1) zz3)), Prod.snd (Prod.snd (List.getD l3 (Int.toNat x1) zz3)))) (Int.toNat x1) zz3), IntKind.wrap .i64 (x0 + (1 : Int)), Prod.snd (Prod.snd (List.getD (List.set l3 (Int.toNat x1) (x0, Prod.fst (Prod.snd (List.getD l3 (Int.toNat x1) zz3)), Prod.snd (Prod.snd (List.getD l3 (Int.toNat x1) zz3)))) (Int.toNat x1) zz3)))))))
 (lp k laws_markIdS [(.arr true az (.r3 a))] fu 2 n (qwt (IntKind.wrap .i64 (IntKind.wrap .i64 (IntKind.wrap .i64 (x0 + (1 : Int)) + (1 : Int)) + (1 : Int))) (IntKind.wrap .i64 (x1 + (1 : Int))) z2 (List.set (List.set (List.set l3 (Int.toNat x1) (x0, Prod.fst (Prod.snd (List.getD l3 (Int.toNat x1) zz3)), Prod.snd (Prod.snd (List.getD l3 (Int.toNat x1) zz3)))) (Int.toNat x1) (Prod.fst (List.getD (List.set l3 (Int.toNat x1) (x0, Prod.fst (Prod.snd (List.getD l3 (Int.toNat x1) zz3)), Prod.snd (Prod.snd (List.getD l3 (Int.toNat x1) zz3)))) (Int.toNat x1) zz3), IntKind.wrap .i64 (x0 + (1 : Int)), Prod.snd (Prod.snd (List.getD (List.set l3 (Int.toNat x1) (x0, Prod.fst (Prod.snd (List.getD l3 (Int.toNat x1) zz3)), Prod.snd (Prod.snd (List.getD l3 (Int.toNat x1) zz3)))) (Int.toNat x1) zz3)))) (Int.toNat x1) (Prod.fst (List.getD (List.set (List.set l3 (Int.toNat x1) (x0, Prod.fst (Prod.snd (List.getD l3 (Int.toNat x1) zz3)), Prod.snd (Prod.snd (List.getD l3 (Int.toNat x1) zz3)))) (Int.toNat x1) (Prod.fst (List.getD (List.set l3 (Int.toNat x1) (x0, Prod.fst (Prod.snd (List.getD l3 (Int.toNat x1) zz3)), Prod.snd (Prod.snd (List.getD l3 (Int.toNat x1) zz3)))) (Int.toNat x1) zz3), IntKind.wrap .i64 (x0 + (1 : Int)), Prod.snd (Prod.snd (List.getD (List.set l3 (Int.toNat x1) (x0, Prod.fst (Prod.snd (List.getD l3 (Int.toNat x1) zz3)), Prod.snd (Prod.snd (List.getD l3 (Int.toNat x1) zz3)))) (Int.toNat x1) zz3)))) (Int.toNat x1) zz3), Prod.fst (Prod.snd (List.getD (List.set (List.set l3 (Int.toNat x1) (x0, Prod.fst (Prod.snd (List.getD l3 (Int.toNat x1) zz3)), Prod.snd (Prod.snd (List.getD l3 (Int.toNat x1) zz3)))) (Int.toNat x1) (Prod.fst (List.getD (List.set l3 (Int.toNat x1) (x0, Prod.fst (Prod.snd (List.getD l3 (Int.toNat x1) zz3)), Prod.snd (Prod.snd (List.getD l3 (Int.toNat x1) zz3)))) (Int.toNat x1) zz3), IntKind.wrap .i64 (x0 + (1 : Int)), Prod.snd (Prod.snd (List.getD (List.set l3 (Int.toNat x1) (x0, Prod.fst (Prod.snd (List.getD l3 (Int.toNat x1) zz3)), Prod.snd (Prod.snd (List.getD l3 (Int.toNat x1) zz3)))) (Int.toNat x1) zz3)))) (Int.toNat x1) zz3)), IntKind.wrap .i64 (IntKind.wrap .i64 (x0 + (1 : Int)) + (1 : Int))))))
 none)
 none)
 none)
 (some [(.int .i64 x0), (.arr true z2 (.r3 l3))]) := by kernel_rfl
theorem qk8 (k : Nat) (a0 : Int) (a1z : Bool) (a1 : List (Int × Int × Int)) (b : Int) : go (k + 1) laws_markMesh [(.agg [(.int .i64 a0), (.arr true a1z (.r3 a1))]), (.int .i64 b)] =
 (go k laws_markIdS [(.arr true a1z (.r3 a1)), (.int .i64 b)]).bind fun r0 =>
 some [(.int .i64 (D.toInt (nth r0 0))), (.agg [(.int .i64 a0), (.arr true a1z (.r3 (D.r3 (nth r0 1))))])] := by kernel_rfl
def qwu (x0 x1 : Int) (z2 : Bool) (l3 : List Int) : St := ⟨fill 19 [(0, (.sl 0 none)), (1, (.int .i64 x0)), (5, (.int .i64 x1))], [(.sl 0 none)], [(.arr true z2 (.ints .i64 l3))]⟩
theorem qk7 (k : Nat) (az : Bool) (a : List Int) (b : Int) : go (k + 1) laws_markIntS [(.arr true az (.ints .i64 a)), (.int .i64 b)] =
 lp k laws_markIntS [(.arr true az (.ints .i64 a))] [] 2 k (qwu b (0 : Int) az a) := by kernel_rfl
theorem qp2 (k n : Nat) (fu : List (Nat × Nat)) (az : Bool) (a : List Int) (x0 x1 : Int) (z2 : Bool) (l3 : List Int) : lp k laws_markIntS [(.arr true az (.ints .i64 a))] fu 2 (n + 1) (qwu x0 x1 z2 l3) =
 cond (decide (x1 < nI (List.length l3)))
 (cond (decide ((0 : Int) ≤ x1) && decide (x1 < nI (List.length l3)))
 (lp k laws_markIntS [(.arr true az (.ints .i64 a))] fu 2 n (qwu (IntKind.wrap .i64 (x0 + (1 : Int))) (IntKind.wrap .i64 (x1 + (1 : Int))) z2 (List.set l3 (Int.toNat x1) x0)))
 none)
 (some [(.int .i64 x0), (.arr true z2 (.ints .i64 l3))]) := by kernel_rfl
def qwr (x0 x1 : Int) (z2 : Bool) (l3 : List Int) : St := ⟨fill 21 [(0, (.sl 0 none)), (1, (.int .i64 x0)), (5, (.int .i64 x1))], [], [(.arr false z2 (.ints .i64 l3))]⟩
theorem qk1 (k : Nat) (az : Bool) (a : List Int) (b : Int) : go (k + 1) laws_heldIntS [(.arr false az (.ints .i64 a)), (.int .i64 b)] =
 lp k laws_heldIntS [] [] 2 k (qwr b (0 : Int) az a) := by kernel_rfl
theorem qpz (k n : Nat) (fu : List (Nat × Nat)) (x0 x1 : Int) (z2 : Bool) (l3 : List Int) : lp k laws_heldIntS [] fu 2 (n + 1) (qwr x0 x1 z2 l3) =
 cond (decide (x1 < nI (List.length l3)))
 (cond (decide ((0 : Int) ≤ x1) && decide (x1 < nI (List.length l3)))
 (cond (!decide (List.getD l3 (Int.toNat x1) (0 : Int) = x0))
 (some [(.int .i64 ((-1 : Int)))])
 (lp k laws_heldIntS [] fu 2 n (qwr (IntKind.wrap .i64 (x0 + (1 : Int))) (IntKind.wrap .i64 (x1 + (1 : Int))) z2 l3)))
 none)
 (some [(.int .i64 x0)]) := by kernel_rfl

end Go.Proofs.YtoldpdhhfmlckaaGreat
end
section
namespace Go.Proofs.YtoldpdhhfmlckaaGreat
open Go.Ev
def marks (b : Int) : Nat → List Int
  | 0 => []
  | n + 1 => b :: marks (b + 1) n
theorem qtj : ∀ (n : Nat) (b : Int), (marks b n).length = n
  | 0, b => rfl
  | n + 1, b => by simp [marks, qtj n]
theorem qti : ∀ (n i : Nat) (b : Int), i < n → (marks b n).getD i 0 = b + i
  | 0, i, b, h => by omega
  | n + 1, 0, b, h => by simp [marks]
  | n + 1, i + 1, b, h => by
    have := qti n i (b + 1) (by omega)
    simp only [marks, List.getD_cons_succ, this]; omega
theorem qse (k : Nat) (hk : 2000000 ≤ k) (fu : List (Nat × Nat)) (az : Bool) (a : List Int) (z : Bool) (L : Nat) (hl : (L : Int) ≤ 1048576) : ∀ (n i : Nat) (l : List Int) (b : Int), l.length = L → i ≤ L → 0 ≤ b → b ≤ 8796093022208 + i → L - i < n →
    lp k laws_markIntS [(.arr true (az) (.ints .i64 (a)))] fu 2 (n) (qwu b (i : Int) z l) = some [.int .i64 (b + (L - i : Nat)), .arr true z (.ints .i64 (l.take i ++ marks b (L - i)))]
  | 0, i, l, b, hL, hi, h0, hb, hn => by omega
  | n + 1, i, l, b, hL, hi, h0, hb, hn => by
    rw [qp2]
    by_cases h : i < L
    · simp (disch := omega) only [nI, dT, Bool.and_true, q0f, qgr, Int.toNat_natCast, qhn]
      rw [qse k hk fu az a z L hl n (i + 1) (l.set i b) (b + 1) (by simp [hL]) (by omega) (by omega) (by omega) (by omega)]
      rw [qxy l l i b _ (by omega), show L - i = (L - (i + 1)) + 1 by omega]
      simp only [marks]
      rw [show b + 1 + ((L - (i + 1) : Nat) : Int) = b + ((L - (i + 1) + 1 : Nat) : Int) by omega]
    · simp (disch := omega) only [nI, dF, dT, Bool.and_false, q0f, qgr, Int.toNat_natCast, qhl]
      rw [show L - i = 0 by omega]
      simp only [marks, List.append_nil]
      rw [List.take_of_length_le (by omega)]
      simp
theorem qd3 (k : Nat) (hk : 2000000 ≤ k) (az : Bool) (a : List Int) (b : Int) (hl : (a.length : Int) ≤ 1048576) (h0 : 0 ≤ b) (hb : b ≤ 8796093022208) : go (k + 1) laws_markIntS [(.arr true (az) (.ints .i64 (a))), (.int .i64 (b))] = some [.int .i64 (b + a.length), .arr true az (.ints .i64 (marks b a.length))] := by
  rw [qk7]
  have e := qse k hk [] az a az a.length hl k 0 a b rfl (by omega) h0 (by omega) (by omega)
  simpa using e
theorem qsb (k : Nat) (hk : 2000000 ≤ k) (fu : List (Nat × Nat)) (z : Bool) (L : Nat) (b0 : Int) (hl : (L : Int) ≤ 1048576) (h0 : 0 ≤ b0) (hb : b0 ≤ 8796093022208) : ∀ (n i : Nat), i ≤ L → L - i < n →
    lp k laws_heldIntS [] fu 2 (n) (qwr (b0 + (i : Int)) (i : Int) z (marks b0 L)) = some [.int .i64 (b0 + L)]
  | 0, i, hi, hn => by omega
  | n + 1, i, hi, hn => by
    rw [qpz]
    simp only [qtj]
    by_cases h : i < L
    · simp (disch := omega) only [nI, dT, Bool.and_true, Int.toNat_natCast, qti, dTT, Bool.not_true, q0f, qgr, qhl, qhn]
      have := qsb k hk fu z L b0 hl h0 hb n (i + 1) (by omega) (by omega)
      rw [show b0 + ((i + 1 : Nat) : Int) = b0 + (i : Int) + 1 by omega] at this
      exact this
    · simp (disch := omega) only [nI, dF, dT, Bool.and_false, Int.toNat_natCast, q0f, qgr, qhl]
      rw [show i = L by omega]
theorem qdx (k : Nat) (hk : 2000000 ≤ k) (z : Bool) (L : Nat) (b0 : Int) (hl : (L : Int) ≤ 1048576) (h0 : 0 ≤ b0) (hb : b0 ≤ 8796093022208) : go (k + 1) laws_heldIntS [.arr false z (.ints .i64 (marks b0 L)), .int .i64 b0] = some [.int .i64 (b0 + L)] := by
  rw [qk1]
  have e := qsb k hk [] z L b0 hl h0 hb k 0 (by omega) (by omega)
  simpa using e
end Go.Proofs.YtoldpdhhfmlckaaGreat
end
section
namespace Go.Proofs.YtoldpdhhfmlckaaGreat
open Go.Ev
theorem qjx (k : Nat) (a0 : Int) (a1z : Bool) (a1 : List (Int × Int × Int)) (a2z : Bool) (a2 : List Int) (a3z : Bool) (a3 : List Int) (a4z : Bool) (a4 : List Int) : go (k + 1) impl_TotalMass [(.agg [(.int .i64 a0), (.arr false a1z (.r3 a1)), (.arr false a2z (.ints .i64 a2)), (.arr false a3z (.ints .i64 a3)), (.arr false a4z (.ints .i64 a4))])] =
 (go k impl_StateOk [(.agg [(.int .i64 a0), (.arr false a1z (.r3 a1)), (.arr false a2z (.ints .i64 a2)), (.arr false a3z (.ints .i64 a3)), (.arr false a4z (.ints .i64 a4))])]).bind fun r0 =>
 cond (!bit (nth r0 0))
 (some [(.int .i64 (0 : Int))])
 ((go k impl_sum [(.arr false a2z (.ints .i64 a2))]).bind fun r1 =>
 some [(.int .i64 (D.toInt (nth r1 0)))]) := by kernel_rfl
end Go.Proofs.YtoldpdhhfmlckaaGreat
end
section
namespace Go.Proofs.YtoldpdhhfmlckaaGreat
open Go.Ev
theorem qk9 (k : Nat) (a0 : Int) (a1z : Bool) (a1 : List (Int × Int × Int)) (a2z : Bool) (a2 : List Int) (a3z : Bool) (a3 : List Int) (a4z : Bool) (a4 : List Int) (b : Int) : go (k + 1) laws_markState [(.agg [(.int .i64 a0), (.arr true a1z (.r3 a1)), (.arr true a2z (.ints .i64 a2)), (.arr true a3z (.ints .i64 a3)), (.arr true a4z (.ints .i64 a4))]), (.int .i64 b)] =
 (go k laws_markMesh [(.agg [(.int .i64 a0), (.arr true a1z (.r3 a1))]), (.int .i64 b)]).bind fun r0 =>
 (go k laws_markIntS [(.arr true a2z (.ints .i64 a2)), (.int .i64 (D.toInt (nth r0 0)))]).bind fun r1 =>
 (go k laws_markIntS [(.arr true a3z (.ints .i64 a3)), (.int .i64 (D.toInt (nth r1 0)))]).bind fun r2 =>
 (go k laws_markIntS [(.arr true a4z (.ints .i64 a4)), (.int .i64 (D.toInt (nth r2 0)))]).bind fun r3 =>
 some [(.int .i64 (D.toInt (nth r3 0))), (.agg [(.int .i64 a0), (.arr true a1z (.r3 (D.r3 (D.cell 1 (nth r0 1))))), (.arr true a2z (.ints .i64 (D.ints (nth r1 1)))), (.arr true a3z (.ints .i64 (D.ints (nth r2 1)))), (.arr true a4z (.ints .i64 (D.ints (nth r3 1))))])] := by kernel_rfl
theorem qk3 (k : Nat) (a0 : Int) (a1z : Bool) (a1 : List (Int × Int × Int)) (a2z : Bool) (a2 : List Int) (a3z : Bool) (a3 : List Int) (a4z : Bool) (a4 : List Int) (b : Int) : go (k + 1) laws_heldState [(.agg [(.int .i64 a0), (.arr false a1z (.r3 a1)), (.arr false a2z (.ints .i64 a2)), (.arr false a3z (.ints .i64 a3)), (.arr false a4z (.ints .i64 a4))]), (.int .i64 b)] =
 (go k laws_heldMesh [(.agg [(.int .i64 a0), (.arr false a1z (.r3 a1))]), (.int .i64 b)]).bind fun r0 =>
 cond (decide (D.toInt (nth r0 0) < (0 : Int)))
 (some [(.int .i64 ((-1 : Int)))])
 ((go k laws_heldIntS [(.arr false a2z (.ints .i64 a2)), (.int .i64 (D.toInt (nth r0 0)))]).bind fun r1 =>
 cond (decide (D.toInt (nth r1 0) < (0 : Int)))
 (some [(.int .i64 ((-1 : Int)))])
 ((go k laws_heldIntS [(.arr false a3z (.ints .i64 a3)), (.int .i64 (D.toInt (nth r1 0)))]).bind fun r2 =>
 cond (decide (D.toInt (nth r2 0) < (0 : Int)))
 (some [(.int .i64 ((-1 : Int)))])
 ((go k laws_heldIntS [(.arr false a4z (.ints .i64 a4)), (.int .i64 (D.toInt (nth r2 0)))]).bind fun r3 =>
 cond (decide (D.toInt (nth r3 0) < (0 : Int)))
 (some [(.int .i64 ((-1 : Int)))])
 (some [(.int .i64 (D.toInt (nth r3 0)))])))) := by kernel_rfl
theorem qk2 (k : Nat) (a0 : Int) (a1z : Bool) (a1 : List (Int × Int × Int)) (b : Int) : go (k + 1) laws_heldMesh [(.agg [(.int .i64 a0), (.arr false a1z (.r3 a1))]), (.int .i64 b)] =
 (go k laws_heldIdS [(.arr false a1z (.r3 a1)), (.int .i64 b)]).bind fun r0 =>
 cond (decide (D.toInt (nth r0 0) < (0 : Int)))
 (some [(.int .i64 ((-1 : Int)))])
 (some [(.int .i64 (D.toInt (nth r0 0)))]) := by kernel_rfl
def qwq (x0 x1 : Int) (z2 : Bool) (l3 : List (Int × Int × Int)) : St := ⟨fill 40 [(0, (.sl 0 none)), (1, (.int .i64 x0)), (5, (.int .i64 x1))], [], [(.arr false z2 (.r3 l3))]⟩
theorem qk0 (k : Nat) (az : Bool) (a : List (Int × Int × Int)) (b : Int) : go (k + 1) laws_heldIdS [(.arr false az (.r3 a)), (.int .i64 b)] =
 lp k laws_heldIdS [] [] 2 k (qwq b (0 : Int) az a) := by kernel_rfl
theorem qpy (k n : Nat) (fu : List (Nat × Nat)) (x0 x1 : Int) (z2 : Bool) (l3 : List (Int × Int × Int)) : lp k laws_heldIdS [] fu 2 (n + 1) (qwq x0 x1 z2 l3) =
 cond (decide (x1 < nI (List.length l3)))
 (cond (decide ((0 : Int) ≤ x1) && decide (x1 < nI (List.length l3)))
 (cond (!decide (Prod.fst (List.getD l3 (Int.toNat x1) zz3) = x0))
 (some [(.int .i64 ((-1 : Int)))])
 (cond (decide ((0 : Int) ≤ x1) && decide (x1 < nI (List.length l3)))
 (cond (!decide (Prod.fst (Prod.snd (List.getD l3 (Int.toNat x1) zz3)) = IntKind.wrap .i64 (x0 + (1 : Int))))
 (some [(.int .i64 ((-1 : Int)))])
 (cond (decide ((0 : Int) ≤ x1) && decide (x1 < nI (List.length l3)))
 (cond (!decide (Prod.snd (Prod.snd (List.getD l3 (Int.toNat x1) zz3)) = IntKind.wrap .i64 (IntKind.wrap .i64 (x0 + (1 : Int)) + (1 : Int))))
 (some [(.int .i64 ((-1 : Int)))])
 (lp k laws_heldIdS [] fu 2 n (qwq (IntKind.wrap .i64 (IntKind.wrap .i64 (IntKind.wrap .i64 (x0 + (1 : Int)) + (1 : Int)) + (1 : Int))) (IntKind.wrap .i64 (x1 + (1 : Int))) z2 l3)))
 none))
 none))
 none)
 (some [(.int .i64 x0)]) := by kernel_rfl

end Go.Proofs.YtoldpdhhfmlckaaGreat
end
section
namespace Go.Proofs.YtoldpdhhfmlckaaGreat
open Go.Ev
def qte (b : Int) : Nat → List Cell
  | 0 => []
  | n + 1 => (b, b + 1, b + 2) :: qte (b + 3) n
theorem qtg : ∀ (n : Nat) (b : Int), (qte b n).length = n
  | 0, b => rfl
  | n + 1, b => by simp [qte, qtg n]
theorem qtf : ∀ (n i : Nat) (b : Int), i < n → (qte b n).getD i zz3 = (b + 3 * i, b + 3 * i + 1, b + 3 * i + 2)
  | 0, i, b, h => by omega
  | n + 1, 0, b, h => by simp [qte]
  | n + 1, i + 1, b, h => by
    have := qtf n i (b + 3) (by omega)
    simp only [qte, List.getD_cons_succ, this]
    rw [show b + 3 + 3 * (i : Int) = b + 3 * ((i + 1 : Nat) : Int) by omega]
theorem qx0 {α : Type} (l : List α) (i : Nat) (x y : α) : (l.set i x).set i y = l.set i y := List.set_set ..
theorem qob {α : Type} {l : List α} {i : Nat} (h : i < l.length) (x d : α) : (l.set i x).getD i d = x := by rw [qxx]; simp [h]
theorem qsd (k : Nat) (hk : 2000000 ≤ k) (fu : List (Nat × Nat)) (az : Bool) (a : List Cell) (z : Bool) (L : Nat) (hl : (L : Int) ≤ 1048576) : ∀ (n i : Nat) (l : List Cell) (b : Int), l.length = L → i ≤ L → 0 ≤ b → b ≤ 8796093022208 + 3 * i → L - i < n →
    lp k laws_markIdS [(.arr true (az) (.r3 (a)))] fu 2 (n) (qwt b (i : Int) z l) = some [.int .i64 (b + 3 * (L - i : Nat)), .arr true z (.r3 (l.take i ++ qte b (L - i)))]
  | 0, i, l, b, hL, hi, h0, hb, hn => by omega
  | n + 1, i, l, b, hL, hi, h0, hb, hn => by
    rw [qp1]
    by_cases h : i < L
    · have e := qsd k hk fu az a z L hl n (i + 1) (l.set i (b, b + 1, b + 2)) (b + 3) (by simp [hL]) (by omega) (by omega) (by omega) (by omega)
      rw [qxy l l i _ _ (by omega)] at e
      rw [show L - i = (L - (i + 1)) + 1 by omega]
      simp only [qte]
      simp (disch := omega) only [nI, dT, Bool.and_true, Int.toNat_natCast, List.length_set, qob, q0f, qx0, show b + 1 + 1 = b + 2 by omega, show b + 2 + 1 = b + 3 by omega, qgr, qhn]
      rw [e, show b + 3 + 3 * ((L - (i + 1) : Nat) : Int) = b + 3 * ((L - (i + 1) + 1 : Nat) : Int) by omega]
    · simp (disch := omega) only [nI, dF, dT, Bool.and_false, Int.toNat_natCast, List.length_set, q0f, qgr, qhl]
      rw [show L - i = 0 by omega]
      simp only [qte, List.append_nil]
      rw [List.take_of_length_le (by omega)]
      simp
theorem qd2 (k : Nat) (hk : 2000000 ≤ k) (az : Bool) (a : List (Int × Int × Int)) (b : Int) (hl : (a.length : Int) ≤ 1048576) (h0 : 0 ≤ b) (hb : b ≤ 8796093022208) : go (k + 1) laws_markIdS [(.arr true (az) (.r3 (a))), (.int .i64 (b))] = some [.int .i64 (b + 3 * a.length), .arr true az (.r3 (qte b a.length))] := by
  rw [qk6]
  have e := qsd k hk [] az a az a.length hl (k + 0) 0 a b rfl (by omega) h0 (by omega) (by omega)
  simpa using e
theorem qd4 (k : Nat) (hk : 2000000 ≤ k) (a0 : Int) (a1z : Bool) (a1 : List (Int × Int × Int)) (b : Int) (hl : (a1.length : Int) ≤ 1048576) (h0 : 0 ≤ b) (hb : b ≤ 8796093022208) : go (k + 2) laws_markMesh [(.agg [(.int .i64 (a0)), (.arr true (a1z) (.r3 (a1)))]), (.int .i64 (b))] = some [.int .i64 (b + 3 * a1.length), .agg [.int .i64 a0, .arr true a1z (.r3 (qte b a1.length))]] := by
  rw [qk8]
  simp (disch := omega) only [qd2, qa2, nth0, qzo, nth1, quz]
theorem qd5 (k : Nat) (hk : 2000000 ≤ k) (a0 : Int) (a1z : Bool) (a1 : List (Int × Int × Int)) (a2z : Bool) (a2 : List Int) (a3z : Bool) (a3 : List Int) (a4z : Bool) (a4 : List Int) (b : Int) (h1 : (a1.length : Int) ≤ 1048576) (h2 : (a2.length : Int) ≤ 1048576) (h3 : (a3.length : Int) ≤ 1048576) (h4 : (a4.length : Int) ≤ 1048576) (h0 : 0 ≤ b) (hb : b ≤ 8700000000000) :
    go (k + 3) laws_markState [(.agg [(.int .i64 (a0)), (.arr true (a1z) (.r3 (a1))), (.arr true (a2z) (.ints .i64 (a2))), (.arr true (a3z) (.ints .i64 (a3))), (.arr true (a4z) (.ints .i64 (a4)))]), (.int .i64 (b))] = some [.int .i64 (b + 3 * a1.length + a2.length + a3.length + a4.length), .agg [.int .i64 a0, .arr true a1z (.r3 (qte b a1.length)), .arr true a2z (.ints .i64 (marks (b + 3 * a1.length) a2.length)), .arr true a3z (.ints .i64 (marks (b + 3 * a1.length + a2.length) a3.length)), .arr true a4z (.ints .i64 (marks (b + 3 * a1.length + a2.length + a3.length) a4.length))]] := by
  rw [qk9]
  simp (disch := omega) only [qd4, qa2, nth0, qzo, qd3, nth1, qgu, quz, qoq]
theorem qsa (k : Nat) (hk : 2000000 ≤ k) (fu : List (Nat × Nat)) (z : Bool) (L : Nat) (b0 : Int) (hl : (L : Int) ≤ 1048576) (h0 : 0 ≤ b0) (hb : b0 ≤ 8796093022208) : ∀ (n i : Nat), i ≤ L → L - i < n →
    lp k laws_heldIdS [] fu 2 (n) (qwq (b0 + 3 * (i : Int)) (i : Int) z (qte b0 L)) = some [.int .i64 (b0 + 3 * L)]
  | 0, i, hi, hn => by omega
  | n + 1, i, hi, hn => by
    rw [qpy]
    simp only [qtg]
    by_cases h : i < L
    · have e := qsa k hk fu z L b0 hl h0 hb n (i + 1) (by omega) (by omega)
      rw [show b0 + 3 * ((i + 1 : Nat) : Int) = b0 + 3 * (i : Int) + 3 by omega] at e
      simp (disch := omega) only [nI, dT, Bool.and_true, Int.toNat_natCast, qtf, dTT, Bool.not_true, q0f, show b0 + 3 * (i : Int) + 1 + 1 = b0 + 3 * (i : Int) + 2 by omega, show b0 + 3 * (i : Int) + 2 + 1 = b0 + 3 * (i : Int) + 3 by omega, qgr, qhl, qhn]
      exact e
    · simp (disch := omega) only [nI, dF, dT, Bool.and_false, Int.toNat_natCast, q0f, qgr, qhl]
      rw [show i = L by omega]
theorem qdw (k : Nat) (hk : 2000000 ≤ k) (z : Bool) (L : Nat) (b0 : Int) (hl : (L : Int) ≤ 1048576) (h0 : 0 ≤ b0) (hb : b0 ≤ 8796093022208) : go (k + 1) laws_heldIdS [.arr false z (.r3 (qte b0 L)), .int .i64 b0] = some [.int .i64 (b0 + 3 * L)] := by
  rw [qk0]
  have e := qsa k hk [] z L b0 hl h0 hb (k + 0) 0 (by omega) (by omega)
  simpa using e
theorem qdy (k : Nat) (hk : 2000000 ≤ k) (r : Int) (z : Bool) (L : Nat) (b0 : Int) (hl : (L : Int) ≤ 1048576) (h0 : 0 ≤ b0) (hb : b0 ≤ 8796093022208) : go (k + 2) laws_heldMesh [.agg [.int .i64 r, .arr false z (.r3 (qte b0 L))], .int .i64 b0] = some [.int .i64 (b0 + 3 * L)] := by
  rw [qk2]
  simp (disch := omega) only [qdw, qa2, nth0, qzo, dF, qhl]
theorem qdz (k : Nat) (hk : 2000000 ≤ k) (r : Int) (z1 z2 z3 z4 : Bool) (L1 L2 L3 L4 : Nat) (b : Int) (h1 : (L1 : Int) ≤ 1048576) (h2 : (L2 : Int) ≤ 1048576) (h3 : (L3 : Int) ≤ 1048576) (h4 : (L4 : Int) ≤ 1048576) (h0 : 0 ≤ b) (hb : b ≤ 8700000000000) :
    go (k + 3) laws_heldState [.agg [.int .i64 r, .arr false z1 (.r3 (qte b L1)), .arr false z2 (.ints .i64 (marks (b + 3 * L1) L2)), .arr false z3 (.ints .i64 (marks (b + 3 * L1 + L2) L3)), .arr false z4 (.ints .i64 (marks (b + 3 * L1 + L2 + L3) L4))], .int .i64 b] = some [.int .i64 (b + 3 * L1 + L2 + L3 + L4)] := by
  rw [qk3]
  simp (disch := omega) only [qdy, qa2, nth0, qzo, dF, qdx, qhl]
end Go.Proofs.YtoldpdhhfmlckaaGreat
end
section
namespace Go.Proofs.YtoldpdhhfmlckaaGreat
open Go.Ev
theorem qln (k : Nat) (a0 a1 a2 a3 : Int) : go (k + 1) laws_toLedger [(.agg [(.int .i64 a0), (.int .i64 a1), (.int .i64 a2), (.int .i64 a3)])] =
 some [(.agg [(.int .i64 a0), (.int .i64 a1), (.int .i64 a2), (.int .i64 a3)])] := by kernel_rfl
theorem qlr (k : Nat) (a0 : Int) (a1z : Bool) (a1 : List (Int × Int × Int)) (a2z : Bool) (a2 : List Int) (a3z : Bool) (a3 : List Int) (a4z : Bool) (a4 : List Int) (a5 a6 a7 a8 a9 a10 a11 a12 a13 a14 a15 a16 a17 a18 a19 a20 : Int) : go (k + 1) laws_toWorld [(.agg [(.int .i64 a0), (.arr false a1z (.r3 a1)), (.arr false a2z (.ints .i64 a2)), (.arr false a3z (.ints .i64 a3)), (.arr false a4z (.ints .i64 a4)), (.int .i64 a5), (.int .i64 a6), (.int .i64 a7), (.int .i64 a8), (.int .i64 a9), (.int .i64 a10), (.int .i64 a11), (.int .i64 a12), (.int .i64 a13), (.int .i64 a14), (.int .i64 a15), (.int .i64 a16), (.int .i64 a17), (.int .i64 a18), (.int .i64 a19), (.int .i64 a20)])] =
 (go k laws_toState [(.agg [(.int .i64 a0), (.arr false a1z (.r3 a1)), (.arr false a2z (.ints .i64 a2)), (.arr false a3z (.ints .i64 a3)), (.arr false a4z (.ints .i64 a4))])]).bind fun r0 =>
 (go k laws_toPlan [(.agg [(.int .i64 a5), (.int .i64 a6), (.int .i64 a7), (.int .i64 a8), (.int .i64 a9), (.int .i64 a10), (.int .i64 a11), (.int .i64 a12), (.int .i64 a13)])]).bind fun r1 =>
 (go k laws_toLedger [(.agg [(.int .i64 a15), (.int .i64 a16), (.int .i64 a17), (.int .i64 a18)])]).bind fun r2 =>
 some [(.agg [(.int .i64 (D.toInt (D.cell 0 (nth r0 0)))), (.arr true (D.nil (D.cell 1 (nth r0 0))) (.r3 (D.r3 (D.cell 1 (nth r0 0))))), (.arr true (D.nil (D.cell 2 (nth r0 0))) (.ints .i64 (D.ints (D.cell 2 (nth r0 0))))), (.arr true (D.nil (D.cell 3 (nth r0 0))) (.ints .i64 (D.ints (D.cell 3 (nth r0 0))))), (.arr true (D.nil (D.cell 4 (nth r0 0))) (.ints .i64 (D.ints (D.cell 4 (nth r0 0))))), (.int .i64 (D.toInt (D.cell 0 (nth r1 0)))), (.int .i64 (D.toInt (D.cell 1 (nth r1 0)))), (.int .i64 (D.toInt (D.cell 2 (nth r1 0)))), (.int .i64 (D.toInt (D.cell 3 (nth r1 0)))), (.int .i64 (D.toInt (D.cell 4 (nth r1 0)))), (.int .i64 (D.toInt (D.cell 5 (nth r1 0)))), (.int .i64 (D.toInt (D.cell 6 (nth r1 0)))), (.int .i64 (D.toInt (D.cell 7 (nth r1 0)))), (.int .i64 (D.toInt (D.cell 8 (nth r1 0)))), (.int .i64 a14), (.int .i64 (D.toInt (D.cell 0 (nth r2 0)))), (.int .i64 (D.toInt (D.cell 1 (nth r2 0)))), (.int .i64 (D.toInt (D.cell 2 (nth r2 0)))), (.int .i64 (D.toInt (D.cell 3 (nth r2 0)))), (.int .i64 a19), (.int .i64 a20)])] := by kernel_rfl
theorem qlg (k : Nat) (a0 : Int) (a1z : Bool) (a1 : List (Int × Int × Int)) (a2z : Bool) (a2 : List Int) (a3z : Bool) (a3 : List Int) (a4z : Bool) (a4 : List Int) (a5 a6 a7 a8 a9 a10 a11 a12 a13 a14 a15 a16 a17 a18 a19 a20 b : Int) : go (k + 1) laws_szWorld [(.agg [(.int .i64 a0), (.arr false a1z (.r3 a1)), (.arr false a2z (.ints .i64 a2)), (.arr false a3z (.ints .i64 a3)), (.arr false a4z (.ints .i64 a4)), (.int .i64 a5), (.int .i64 a6), (.int .i64 a7), (.int .i64 a8), (.int .i64 a9), (.int .i64 a10), (.int .i64 a11), (.int .i64 a12), (.int .i64 a13), (.int .i64 a14), (.int .i64 a15), (.int .i64 a16), (.int .i64 a17), (.int .i64 a18), (.int .i64 a19), (.int .i64 a20)]), (.int .i64 b)] =
 (go k laws_szState [(.agg [(.int .i64 a0), (.arr false a1z (.r3 a1)), (.arr false a2z (.ints .i64 a2)), (.arr false a3z (.ints .i64 a3)), (.arr false a4z (.ints .i64 a4))]), (.int .i64 b)]).bind fun r0 =>
 cond (decide (D.toInt (nth r0 0) < (0 : Int)))
 (some [(.int .i64 ((-1 : Int)))])
 (some [(.int .i64 (D.toInt (nth r0 0)))]) := by kernel_rfl
theorem qkr (k : Nat) (a0 a1 a2 b0 b1 b2 : Int) : go (k + 1) laws_eqBorder [(.agg [(.int .i64 a0), (.int .i64 a1), (.int .i64 a2)]), (.agg [(.int .i64 b0), (.int .i64 b1), (.int .i64 b2)])] =
 cond (!decide (a0 = b0))
 (some [(.bool false)])
 (cond (!decide (a1 = b1))
 (some [(.bool false)])
 (cond (!decide (a2 = b2))
 (some [(.bool false)])
 (some [(.bool true)]))) := by kernel_rfl
theorem qkx (k : Nat) (a0 a1 a2 a3 a4 a5 a6 a7 a8 b0 b1 b2 b3 b4 b5 b6 b7 b8 : Int) : go (k + 1) laws_eqPlan [(.agg [(.int .i64 a0), (.int .i64 a1), (.int .i64 a2), (.int .i64 a3), (.int .i64 a4), (.int .i64 a5), (.int .i64 a6), (.int .i64 a7), (.int .i64 a8)]), (.agg [(.int .i64 b0), (.int .i64 b1), (.int .i64 b2), (.int .i64 b3), (.int .i64 b4), (.int .i64 b5), (.int .i64 b6), (.int .i64 b7), (.int .i64 b8)])] =
 (go k laws_eqBorder [(.agg [(.int .i64 a0), (.int .i64 a1), (.int .i64 a2)]), (.agg [(.int .i64 b0), (.int .i64 b1), (.int .i64 b2)])]).bind fun r0 =>
 cond (!bit (nth r0 0))
 (some [(.bool false)])
 (cond (!decide (a3 = b3))
 (some [(.bool false)])
 (cond (!decide (a4 = b4))
 (some [(.bool false)])
 (cond (!decide (a5 = b5))
 (some [(.bool false)])
 (cond (!decide (a6 = b6))
 (some [(.bool false)])
 (cond (!decide (a7 = b7))
 (some [(.bool false)])
 (cond (!decide (a8 = b8))
 (some [(.bool false)])
 (some [(.bool true)]))))))) := by kernel_rfl
theorem qkv (k : Nat) (a0 a1 a2 a3 b0 b1 b2 b3 : Int) : go (k + 1) laws_eqLedger [(.agg [(.int .i64 a0), (.int .i64 a1), (.int .i64 a2), (.int .i64 a3)]), (.agg [(.int .i64 b0), (.int .i64 b1), (.int .i64 b2), (.int .i64 b3)])] =
 cond (!decide (a0 = b0))
 (some [(.bool false)])
 (cond (!decide (a1 = b1))
 (some [(.bool false)])
 (cond (!decide (a2 = b2))
 (some [(.bool false)])
 (cond (!decide (a3 = b3))
 (some [(.bool false)])
 (some [(.bool true)])))) := by kernel_rfl
theorem qkz (k : Nat) (a0 : Int) (a1z : Bool) (a1 : List (Int × Int × Int)) (a2z : Bool) (a2 : List Int) (a3z : Bool) (a3 : List Int) (a4z : Bool) (a4 : List Int) (a5 a6 a7 a8 a9 a10 a11 a12 a13 a14 a15 a16 a17 a18 a19 a20 b0 : Int) (b1z : Bool) (b1 : List (Int × Int × Int)) (b2z : Bool) (b2 : List Int) (b3z : Bool) (b3 : List Int) (b4z : Bool) (b4 : List Int) (b5 b6 b7 b8 b9 b10 b11 b12 b13 b14 b15 b16 b17 b18 b19 b20 : Int) : go (k + 1) laws_eqWorld [(.agg [(.int .i64 a0), (.arr false a1z (.r3 a1)), (.arr false a2z (.ints .i64 a2)), (.arr false a3z (.ints .i64 a3)), (.arr false a4z (.ints .i64 a4)), (.int .i64 a5), (.int .i64 a6), (.int .i64 a7), (.int .i64 a8), (.int .i64 a9), (.int .i64 a10), (.int .i64 a11), (.int .i64 a12), (.int .i64 a13), (.int .i64 a14), (.int .i64 a15), (.int .i64 a16), (.int .i64 a17), (.int .i64 a18), (.int .i64 a19), (.int .i64 a20)]), (.agg [(.int .i64 b0), (.arr false b1z (.r3 b1)), (.arr false b2z (.ints .i64 b2)), (.arr false b3z (.ints .i64 b3)), (.arr false b4z (.ints .i64 b4)), (.int .i64 b5), (.int .i64 b6), (.int .i64 b7), (.int .i64 b8), (.int .i64 b9), (.int .i64 b10), (.int .i64 b11), (.int .i64 b12), (.int .i64 b13), (.int .i64 b14), (.int .i64 b15), (.int .i64 b16), (.int .i64 b17), (.int .i64 b18), (.int .i64 b19), (.int .i64 b20)])] =
 (go k laws_eqState [(.agg [(.int .i64 a0), (.arr false a1z (.r3 a1)), (.arr false a2z (.ints .i64 a2)), (.arr false a3z (.ints .i64 a3)), (.arr false a4z (.ints .i64 a4))]), (.agg [(.int .i64 b0), (.arr false b1z (.r3 b1)), (.arr false b2z (.ints .i64 b2)), (.arr false b3z (.ints .i64 b3)), (.arr false b4z (.ints .i64 b4))])]).bind fun r0 =>
 cond (!bit (nth r0 0))
 (some [(.bool false)])
 ((go k laws_eqPlan [(.agg [(.int .i64 a5), (.int .i64 a6), (.int .i64 a7), (.int .i64 a8), (.int .i64 a9), (.int .i64 a10), (.int .i64 a11), (.int .i64 a12), (.int .i64 a13)]), (.agg [(.int .i64 b5), (.int .i64 b6), (.int .i64 b7), (.int .i64 b8), (.int .i64 b9), (.int .i64 b10), (.int .i64 b11), (.int .i64 b12), (.int .i64 b13)])]).bind fun r1 =>
 cond (!bit (nth r1 0))
 (some [(.bool false)])
 (cond (!decide (a14 = b14))
 (some [(.bool false)])
 ((go k laws_eqLedger [(.agg [(.int .i64 a15), (.int .i64 a16), (.int .i64 a17), (.int .i64 a18)]), (.agg [(.int .i64 b15), (.int .i64 b16), (.int .i64 b17), (.int .i64 b18)])]).bind fun r2 =>
 cond (!bit (nth r2 0))
 (some [(.bool false)])
 (cond (!decide (a19 = b19))
 (some [(.bool false)])
 (cond (!decide (a20 = b20))
 (some [(.bool false)])
 (some [(.bool true)])))))) := by kernel_rfl
theorem qlh (k : Nat) (a0 a1 a2 a3 : Int) : go (k + 1) laws_toAct [(.agg [(.int .i64 a0), (.int .i64 a1), (.int .i64 a2), (.int .i64 a3)])] =
 some [(.agg [(.int .i64 a0), (.int .i64 a1), (.int .i64 a2), (.int .i64 a3)])] := by kernel_rfl
theorem qkp (k : Nat) (a0 a1 a2 a3 b0 b1 b2 b3 : Int) : go (k + 1) laws_eqAct [(.agg [(.int .i64 a0), (.int .i64 a1), (.int .i64 a2), (.int .i64 a3)]), (.agg [(.int .i64 b0), (.int .i64 b1), (.int .i64 b2), (.int .i64 b3)])] =
 cond (!decide (a0 = b0))
 (some [(.bool false)])
 (cond (!decide (a1 = b1))
 (some [(.bool false)])
 (cond (!decide (a2 = b2))
 (some [(.bool false)])
 (cond (!decide (a3 = b3))
 (some [(.bool false)])
 (some [(.bool true)])))) := by kernel_rfl
theorem qla (k : Nat) (a0 : Int) (a1z : Bool) (a1 : List (Int × Int × Int)) (a2z : Bool) (a2 : List Int) (a3z : Bool) (a3 : List Int) (a4z : Bool) (a4 : List Int) (a5 a6 a7 a8 a9 a10 a11 a12 a13 a14 a15 a16 a17 a18 a19 a20 b : Int) : go (k + 1) laws_markWorld [(.agg [(.int .i64 a0), (.arr true a1z (.r3 a1)), (.arr true a2z (.ints .i64 a2)), (.arr true a3z (.ints .i64 a3)), (.arr true a4z (.ints .i64 a4)), (.int .i64 a5), (.int .i64 a6), (.int .i64 a7), (.int .i64 a8), (.int .i64 a9), (.int .i64 a10), (.int .i64 a11), (.int .i64 a12), (.int .i64 a13), (.int .i64 a14), (.int .i64 a15), (.int .i64 a16), (.int .i64 a17), (.int .i64 a18), (.int .i64 a19), (.int .i64 a20)]), (.int .i64 b)] =
 (go k laws_markState [(.agg [(.int .i64 a0), (.arr true a1z (.r3 a1)), (.arr true a2z (.ints .i64 a2)), (.arr true a3z (.ints .i64 a3)), (.arr true a4z (.ints .i64 a4))]), (.int .i64 b)]).bind fun r0 =>
 some [(.int .i64 (D.toInt (nth r0 0))), (.agg [(.int .i64 a0), (.arr true a1z (.r3 (D.r3 (D.cell 1 (nth r0 1))))), (.arr true a2z (.ints .i64 (D.ints (D.cell 2 (nth r0 1))))), (.arr true a3z (.ints .i64 (D.ints (D.cell 3 (nth r0 1))))), (.arr true a4z (.ints .i64 (D.ints (D.cell 4 (nth r0 1))))), (.int .i64 a5), (.int .i64 a6), (.int .i64 a7), (.int .i64 a8), (.int .i64 a9), (.int .i64 a10), (.int .i64 a11), (.int .i64 a12), (.int .i64 a13), (.int .i64 a14), (.int .i64 a15), (.int .i64 a16), (.int .i64 a17), (.int .i64 a18), (.int .i64 a19), (.int .i64 a20)])] := by kernel_rfl
theorem qk4 (k : Nat) (a0 : Int) (a1z : Bool) (a1 : List (Int × Int × Int)) (a2z : Bool) (a2 : List Int) (a3z : Bool) (a3 : List Int) (a4z : Bool) (a4 : List Int) (a5 a6 a7 a8 a9 a10 a11 a12 a13 a14 a15 a16 a17 a18 a19 a20 b : Int) : go (k + 1) laws_heldWorld [(.agg [(.int .i64 a0), (.arr false a1z (.r3 a1)), (.arr false a2z (.ints .i64 a2)), (.arr false a3z (.ints .i64 a3)), (.arr false a4z (.ints .i64 a4)), (.int .i64 a5), (.int .i64 a6), (.int .i64 a7), (.int .i64 a8), (.int .i64 a9), (.int .i64 a10), (.int .i64 a11), (.int .i64 a12), (.int .i64 a13), (.int .i64 a14), (.int .i64 a15), (.int .i64 a16), (.int .i64 a17), (.int .i64 a18), (.int .i64 a19), (.int .i64 a20)]), (.int .i64 b)] =
 (go k laws_heldState [(.agg [(.int .i64 a0), (.arr false a1z (.r3 a1)), (.arr false a2z (.ints .i64 a2)), (.arr false a3z (.ints .i64 a3)), (.arr false a4z (.ints .i64 a4))]), (.int .i64 b)]).bind fun r0 =>
 cond (decide (D.toInt (nth r0 0) < (0 : Int)))
 (some [(.int .i64 ((-1 : Int)))])
 (some [(.int .i64 (D.toInt (nth r0 0)))]) := by kernel_rfl

end Go.Proofs.YtoldpdhhfmlckaaGreat
end
section
namespace Go.Proofs.YtoldpdhhfmlckaaGreat
open Go.Ev
theorem qej (k : Nat) (hk : 2000000 ≤ k) (a0 : Int) (a1 : Int) (a2 : Int) (a3 : Int) : go (k + 1) laws_toLedger [(.agg [(.int .i64 (a0)), (.int .i64 (a1)), (.int .i64 (a2)), (.int .i64 (a3))])] = some [.agg [.int .i64 a0, .int .i64 a1, .int .i64 a2, .int .i64 a3]] := by
  rw [qln]
theorem qed (k : Nat) (hk : 2000000 ≤ k) (a0 : Int) (a1 : Int) (a2 : Int) (a3 : Int) : go (k + 1) laws_toAct [(.agg [(.int .i64 (a0)), (.int .i64 (a1)), (.int .i64 (a2)), (.int .i64 (a3))])] = some [.agg [.int .i64 a0, .int .i64 a1, .int .i64 a2, .int .i64 a3]] := by
  rw [qlh]
theorem qdn (k : Nat) (hk : 2000000 ≤ k) (a0 : Int) (a1 : Int) (a2 : Int) : go (k + 1) laws_eqBorder [.agg [.int .i64 a0, .int .i64 a1, .int .i64 a2], .agg [.int .i64 a0, .int .i64 a1, .int .i64 a2]] = some [.bool true] := by
  rw [qkr]
  simp (disch := omega) only [dTT, Bool.not_true, qhl]
theorem qdr (k : Nat) (hk : 2000000 ≤ k) (a0 : Int) (a1 : Int) (a2 : Int) (a3 : Int) : go (k + 1) laws_eqLedger [.agg [.int .i64 a0, .int .i64 a1, .int .i64 a2, .int .i64 a3], .agg [.int .i64 a0, .int .i64 a1, .int .i64 a2, .int .i64 a3]] = some [.bool true] := by
  rw [qkv]
  simp (disch := omega) only [dTT, Bool.not_true, qhl]
theorem qdt (k : Nat) (hk : 2000000 ≤ k) (a0 : Int) (a1 : Int) (a2 : Int) (a3 : Int) (a4 : Int) (a5 : Int) (a6 : Int) (a7 : Int) (a8 : Int) : go (k + 2) laws_eqPlan [.agg [.int .i64 a0, .int .i64 a1, .int .i64 a2, .int .i64 a3, .int .i64 a4, .int .i64 a5, .int .i64 a6, .int .i64 a7, .int .i64 a8], .agg [.int .i64 a0, .int .i64 a1, .int .i64 a2, .int .i64 a3, .int .i64 a4, .int .i64 a5, .int .i64 a6, .int .i64 a7, .int .i64 a8]] = some [.bool true] := by
  rw [qkx]
  simp (disch := omega) only [qdn, bit, dTT, Bool.not_true, qhl, qa2, nth0, qzn]
theorem qdl (k : Nat) (hk : 2000000 ≤ k) (a0 : Int) (a1 : Int) (a2 : Int) (a3 : Int) : go (k + 1) laws_eqAct [.agg [.int .i64 a0, .int .i64 a1, .int .i64 a2, .int .i64 a3], .agg [.int .i64 a0, .int .i64 a1, .int .i64 a2, .int .i64 a3]] = some [.bool true] := by
  rw [qkp]
  simp (disch := omega) only [dTT, Bool.not_true, qhl]
theorem qen (k : Nat) (hk : 2000000 ≤ k) (a0 : Int) (a1z : Bool) (a1 : List (Int × Int × Int)) (a2z : Bool) (a2 : List Int) (a3z : Bool) (a3 : List Int) (a4z : Bool) (a4 : List Int) (a5 : Int) (a6 : Int) (a7 : Int) (a8 : Int) (a9 : Int) (a10 : Int) (a11 : Int) (a12 : Int) (a13 : Int) (a14 : Int) (a15 : Int) (a16 : Int) (a17 : Int) (a18 : Int) (a19 : Int) (a20 : Int) (h1 : (a1.length : Int) ≤ 1048576) (h2 : (a2.length : Int) ≤ 1048576) (h3 : (a3.length : Int) ≤ 1048576) (h4 : (a4.length : Int) ≤ 1048576) : go (k + 5) laws_toWorld [(.agg [(.int .i64 (a0)), (.arr false (a1z) (.r3 (a1))), (.arr false (a2z) (.ints .i64 (a2))), (.arr false (a3z) (.ints .i64 (a3))), (.arr false (a4z) (.ints .i64 (a4))), (.int .i64 (a5)), (.int .i64 (a6)), (.int .i64 (a7)), (.int .i64 (a8)), (.int .i64 (a9)), (.int .i64 (a10)), (.int .i64 (a11)), (.int .i64 (a12)), (.int .i64 (a13)), (.int .i64 (a14)), (.int .i64 (a15)), (.int .i64 (a16)), (.int .i64 (a17)), (.int .i64 (a18)), (.int .i64 (a19)), (.int .i64 (a20))])] = some [.agg [.int .i64 a0, .arr true false (.r3 a1), .arr true false (.ints .i64 a2), .arr true false (.ints .i64 a3), .arr true false (.ints .i64 a4), .int .i64 a5, .int .i64 a6, .int .i64 a7, .int .i64 a8, .int .i64 a9, .int .i64 a10, .int .i64 a11, .int .i64 a12, .int .i64 a13, .int .i64 a14, .int .i64 a15, .int .i64 a16, .int .i64 a17, .int .i64 a18, .int .i64 a19, .int .i64 a20]] := by
  rw [qlr]
  simp (disch := omega) only [qem, qel, qej, qa2, nth0, qgt, qzo, qgu, qg5, qg7, qg8, qg9, qha, qhb, qhc, qt9, quz, qoq]
theorem qec (k : Nat) (hk : 2000000 ≤ k) (a0 : Int) (a1z : Bool) (a1 : List (Int × Int × Int)) (a2z : Bool) (a2 : List Int) (a3z : Bool) (a3 : List Int) (a4z : Bool) (a4 : List Int) (a5 : Int) (a6 : Int) (a7 : Int) (a8 : Int) (a9 : Int) (a10 : Int) (a11 : Int) (a12 : Int) (a13 : Int) (a14 : Int) (a15 : Int) (a16 : Int) (a17 : Int) (a18 : Int) (a19 : Int) (a20 : Int) (b : Int) (h1 : (a1.length : Int) ≤ 9223372036854775807) (h2 : (a2.length : Int) ≤ 9223372036854775807) (h3 : (a3.length : Int) ≤ 9223372036854775807) (h4 : (a4.length : Int) ≤ 9223372036854775807) (hb : 0 ≤ b) (hb' : b ≤ 1048576) :
    go (k + 4) laws_szWorld [(.agg [(.int .i64 (a0)), (.arr false (a1z) (.r3 (a1))), (.arr false (a2z) (.ints .i64 (a2))), (.arr false (a3z) (.ints .i64 (a3))), (.arr false (a4z) (.ints .i64 (a4))), (.int .i64 (a5)), (.int .i64 (a6)), (.int .i64 (a7)), (.int .i64 (a8)), (.int .i64 (a9)), (.int .i64 (a10)), (.int .i64 (a11)), (.int .i64 (a12)), (.int .i64 (a13)), (.int .i64 (a14)), (.int .i64 (a15)), (.int .i64 (a16)), (.int .i64 (a17)), (.int .i64 (a18)), (.int .i64 (a19)), (.int .i64 (a20))]), (.int .i64 (b))] = some [.int .i64 (if (a1.length : Int) + a2.length + a3.length + a4.length ≤ b then b - a1.length - a2.length - a3.length - a4.length else -1)] := by
  rw [qlg]
  by_cases g : (a1.length : Int) + a2.length + a3.length + a4.length ≤ b
  · rw [if_pos g]; simp (disch := omega) only [qeb, if_pos g, qa2, nth0, qzo, dF, qhl]
  · rw [if_neg g]; simp (disch := omega) only [qeb, if_neg g, qa2, nth0, qzo, dT, qhn]
theorem qdv (k : Nat) (hk : 2000000 ≤ k) (a0 : Int) (z1 z2 z3 z4 y1 y2 y3 y4 : Bool) (a1 : List Cell) (a2 a3 a4 : List Int) (a5 : Int) (a6 : Int) (a7 : Int) (a8 : Int) (a9 : Int) (a10 : Int) (a11 : Int) (a12 : Int) (a13 : Int) (a14 : Int) (a15 : Int) (a16 : Int) (a17 : Int) (a18 : Int) (a19 : Int) (a20 : Int) (h1 : (a1.length : Int) ≤ 1048576) (h2 : (a2.length : Int) ≤ 1048576) (h3 : (a3.length : Int) ≤ 1048576) (h4 : (a4.length : Int) ≤ 1048576) :
    go (k + 5) laws_eqWorld [.agg [.int .i64 a0, .arr false z1 (.r3 a1), .arr false z2 (.ints .i64 a2), .arr false z3 (.ints .i64 a3), .arr false z4 (.ints .i64 a4), .int .i64 a5, .int .i64 a6, .int .i64 a7, .int .i64 a8, .int .i64 a9, .int .i64 a10, .int .i64 a11, .int .i64 a12, .int .i64 a13, .int .i64 a14, .int .i64 a15, .int .i64 a16, .int .i64 a17, .int .i64 a18, .int .i64 a19, .int .i64 a20], .agg [.int .i64 a0, .arr false y1 (.r3 a1), .arr false y2 (.ints .i64 a2), .arr false y3 (.ints .i64 a3), .arr false y4 (.ints .i64 a4), .int .i64 a5, .int .i64 a6, .int .i64 a7, .int .i64 a8, .int .i64 a9, .int .i64 a10, .int .i64 a11, .int .i64 a12, .int .i64 a13, .int .i64 a14, .int .i64 a15, .int .i64 a16, .int .i64 a17, .int .i64 a18, .int .i64 a19, .int .i64 a20]] = some [.bool true] := by
  rw [qkz]
  simp (disch := omega) only [qdu, bit, qdt, dTT, Bool.not_true, qdr, qhl, qa2, nth0, qzn]
end Go.Proofs.YtoldpdhhfmlckaaGreat
end
section
namespace Go.Proofs.YtoldpdhhfmlckaaGreat
open Go.Ev
theorem qnp (k : Nat) (a : Int) : go (k + 1) spec_l36Amount [(.int .i64 a)] =
 (go k spec_l01In [(.int .i64 a), (.int .i64 (0 : Int)), (.int .i64 ((1000000000000000 : Int)))]).bind fun r0 =>
 some [(.bool (bit (nth r0 0)))] := by kernel_rfl
theorem qkd (k : Nat) (a0 a1 a2 a3 : Int) : go (k + 1) impl_ledgerOk [(.agg [(.int .i64 a0), (.int .i64 a1), (.int .i64 a2), (.int .i64 a3)])] =
 (go k impl_within [(.int .i64 a0), (.int .i64 (0 : Int)), (.int .i64 ((1000000000000000 : Int)))]).bind fun r0 =>
 cond (bit (nth r0 0))
 ((go k impl_within [(.int .i64 a1), (.int .i64 (0 : Int)), (.int .i64 ((1000000000000000 : Int)))]).bind fun r1 =>
 cond (bit (nth r1 0))
 ((go k impl_within [(.int .i64 a2), (.int .i64 (0 : Int)), (.int .i64 ((1000000000000000 : Int)))]).bind fun r2 =>
 cond (bit (nth r2 0))
 ((go k impl_within [(.int .i64 a3), (.int .i64 (0 : Int)), (.int .i64 ((1000000000000000 : Int)))]).bind fun r3 =>
 some [(.bool (bit (nth r3 0)))])
 (some [(.bool false)]))
 (some [(.bool false)]))
 (some [(.bool false)]) := by kernel_rfl
end Go.Proofs.YtoldpdhhfmlckaaGreat
end
section
namespace Go.Proofs.YtoldpdhhfmlckaaGreat
open Go.Ev
theorem qmt (k : Nat) (a0 : Int) (a1z : Bool) (a1 : List (Int × Int × Int)) (a2z : Bool) (a2 : List Int) (a3z : Bool) (a3 : List Int) (a4z : Bool) (a4 : List Int) (a5 a6 a7 a8 a9 a10 a11 a12 a13 a14 a15 a16 a17 a18 a19 a20 : Int) : go (k + 1) spec_WorldOk [(.agg [(.int .i64 a0), (.arr false a1z (.r3 a1)), (.arr false a2z (.ints .i64 a2)), (.arr false a3z (.ints .i64 a3)), (.arr false a4z (.ints .i64 a4)), (.int .i64 a5), (.int .i64 a6), (.int .i64 a7), (.int .i64 a8), (.int .i64 a9), (.int .i64 a10), (.int .i64 a11), (.int .i64 a12), (.int .i64 a13), (.int .i64 a14), (.int .i64 a15), (.int .i64 a16), (.int .i64 a17), (.int .i64 a18), (.int .i64 a19), (.int .i64 a20)])] =
 (go k spec_StateOk [(.agg [(.int .i64 a0), (.arr false a1z (.r3 a1)), (.arr false a2z (.ints .i64 a2)), (.arr false a3z (.ints .i64 a3)), (.arr false a4z (.ints .i64 a4))])]).bind fun r0 =>
 cond (!bit (nth r0 0))
 (some [(.bool false)])
 ((go k spec_PlanOk [(.agg [(.int .i64 a5), (.int .i64 a6), (.int .i64 a7), (.int .i64 a8), (.int .i64 a9), (.int .i64 a10), (.int .i64 a11), (.int .i64 a12), (.int .i64 a13)])]).bind fun r1 =>
 cond (!bit (nth r1 0))
 (some [(.bool false)])
 ((go k spec_l01In [(.int .i64 a14), (.int .i64 (0 : Int)), (.int .i64 ((100000 : Int)))]).bind fun r2 =>
 cond (!bit (nth r2 0))
 (some [(.bool false)])
 ((go k spec_l36Amount [(.int .i64 a15)]).bind fun r3 =>
 cond (!bit (nth r3 0))
 (some [(.bool false)])
 ((go k spec_l36Amount [(.int .i64 a16)]).bind fun r4 =>
 cond (!bit (nth r4 0))
 (some [(.bool false)])
 ((go k spec_l36Amount [(.int .i64 a17)]).bind fun r5 =>
 cond (!bit (nth r5 0))
 (some [(.bool false)])
 ((go k spec_l36Amount [(.int .i64 a18)]).bind fun r6 =>
 cond (!bit (nth r6 0))
 (some [(.bool false)])
 ((go k spec_l07Sum [(.arr false a2z (.ints .i64 a2))]).bind fun r7 =>
 cond (decide (IntKind.wrap .i64 (IntKind.wrap .i64 (D.toInt (nth r7 0) - a15) + a16) = a19))
 ((go k spec_l07Sum [(.arr false a3z (.ints .i64 a3))]).bind fun r8 =>
 some [(.bool (decide (IntKind.wrap .i64 (IntKind.wrap .i64 (D.toInt (nth r8 0) - a17) + a18) = a20)))])
 (some [(.bool false)])))))))) := by kernel_rfl
theorem qj0 (k : Nat) (a0 : Int) (a1z : Bool) (a1 : List (Int × Int × Int)) (a2z : Bool) (a2 : List Int) (a3z : Bool) (a3 : List Int) (a4z : Bool) (a4 : List Int) (a5 a6 a7 a8 a9 a10 a11 a12 a13 a14 a15 a16 a17 a18 a19 a20 : Int) : go (k + 1) impl_WorldOk [(.agg [(.int .i64 a0), (.arr false a1z (.r3 a1)), (.arr false a2z (.ints .i64 a2)), (.arr false a3z (.ints .i64 a3)), (.arr false a4z (.ints .i64 a4)), (.int .i64 a5), (.int .i64 a6), (.int .i64 a7), (.int .i64 a8), (.int .i64 a9), (.int .i64 a10), (.int .i64 a11), (.int .i64 a12), (.int .i64 a13), (.int .i64 a14), (.int .i64 a15), (.int .i64 a16), (.int .i64 a17), (.int .i64 a18), (.int .i64 a19), (.int .i64 a20)])] =
 (go k impl_StateOk [(.agg [(.int .i64 a0), (.arr false a1z (.r3 a1)), (.arr false a2z (.ints .i64 a2)), (.arr false a3z (.ints .i64 a3)), (.arr false a4z (.ints .i64 a4))])]).bind fun r0 =>
 cond (bit (nth r0 0))
 ((go k impl_PlanOk [(.agg [(.int .i64 a5), (.int .i64 a6), (.int .i64 a7), (.int .i64 a8), (.int .i64 a9), (.int .i64 a10), (.int .i64 a11), (.int .i64 a12), (.int .i64 a13)])]).bind fun r1 =>
 cond (bit (nth r1 0))
 ((go k impl_within [(.int .i64 a14), (.int .i64 (0 : Int)), (.int .i64 ((100000 : Int)))]).bind fun r2 =>
 cond (bit (nth r2 0))
 ((go k impl_ledgerOk [(.agg [(.int .i64 a15), (.int .i64 a16), (.int .i64 a17), (.int .i64 a18)])]).bind fun r3 =>
 cond (bit (nth r3 0))
 ((go k impl_sum [(.arr false a2z (.ints .i64 a2))]).bind fun r4 =>
 cond (decide (a19 = IntKind.wrap .i64 (IntKind.wrap .i64 (D.toInt (nth r4 0) - a15) + a16)))
 ((go k impl_sum [(.arr false a3z (.ints .i64 a3))]).bind fun r5 =>
 some [(.bool (decide (a20 = IntKind.wrap .i64 (IntKind.wrap .i64 (D.toInt (nth r5 0) - a17) + a18))))])
 (some [(.bool false)]))
 (some [(.bool false)]))
 (some [(.bool false)]))
 (some [(.bool false)]))
 (some [(.bool false)]) := by kernel_rfl

end Go.Proofs.YtoldpdhhfmlckaaGreat
end
section
namespace Go.Proofs.YtoldpdhhfmlckaaGreat
open Go.Ev
def qq6 (a b c d : Int) : Bool := inR a 0 1000000000000000 && (inR b 0 1000000000000000 && (inR c 0 1000000000000000 && inR d 0 1000000000000000))
theorem qgj (k : Nat) (hk : 2000000 ≤ k) (a : Int) : go (k + 2) spec_l36Amount [(.int .i64 (a))] = some [.bool (inR a 0 1000000000000000)] := by
  rw [qnp]
  simp (disch := omega) only [qfu, bit, qa2, nth0, qzn]
theorem qc2 (k : Nat) (hk : 2000000 ≤ k) (a0 : Int) (a1 : Int) (a2 : Int) (a3 : Int) : go (k + 2) impl_ledgerOk [(.agg [(.int .i64 (a0)), (.int .i64 (a1)), (.int .i64 (a2)), (.int .i64 (a3))])] = some [.bool (qq6 a0 a1 a2 a3)] := by
  rw [qkd]
  simp (disch := omega) only [qdk, bit, qa2, nth0, qzn, qhp]
  rfl
def q0d (a0 : Int) (a1 : List Cell) (a2 a3 a4 : List Int) (b0 b1 b2 b3 b4 b5 b6 b7 b8 s c0 c1 c2 c3 f g : Int) : Bool :=
  stOk a0 a1 a2 a3 a4 && (quu b0 b1 b2 b3 b4 b5 b6 b7 b8 && (inR s 0 100000 && (qq6 c0 c1 c2 c3 && (decide (isum a2 - c0 + c1 = f) && decide (isum a3 - c2 + c3 = g)))))
theorem qon {a m : Int} (h : inR a 0 m = true) : 0 ≤ a ∧ a ≤ m := by
  simp only [inR, Bool.and_eq_true, decide_eq_true_eq] at h
  omega
theorem qhz (a b : Int) : decide (a = b) = decide (b = a) := decide_eq_decide.2 eq_comm
theorem qfq (k : Nat) (hk : 2000000 ≤ k) (a0 : Int) (a1z : Bool) (a1 : List (Int × Int × Int)) (a2z : Bool) (a2 : List Int) (a3z : Bool) (a3 : List Int) (a4z : Bool) (a4 : List Int) (a5 : Int) (a6 : Int) (a7 : Int) (a8 : Int) (a9 : Int) (a10 : Int) (a11 : Int) (a12 : Int) (a13 : Int) (a14 : Int) (a15 : Int) (a16 : Int) (a17 : Int) (a18 : Int) (a19 : Int) (a20 : Int) (h1 : (a1.length : Int) ≤ 1048576) (h4 : (a4.length : Int) ≤ 1048576) :
    go (k + 8) spec_WorldOk [(.agg [(.int .i64 (a0)), (.arr false (a1z) (.r3 (a1))), (.arr false (a2z) (.ints .i64 (a2))), (.arr false (a3z) (.ints .i64 (a3))), (.arr false (a4z) (.ints .i64 (a4))), (.int .i64 (a5)), (.int .i64 (a6)), (.int .i64 (a7)), (.int .i64 (a8)), (.int .i64 (a9)), (.int .i64 (a10)), (.int .i64 (a11)), (.int .i64 (a12)), (.int .i64 (a13)), (.int .i64 (a14)), (.int .i64 (a15)), (.int .i64 (a16)), (.int .i64 (a17)), (.int .i64 (a18)), (.int .i64 (a19)), (.int .i64 (a20))])] = some [.bool (q0d a0 a1 a2 a3 a4 a5 a6 a7 a8 a9 a10 a11 a12 a13 a14 a15 a16 a17 a18 a19 a20)] := by
  rw [qmt]
  simp (disch := omega) only [qfn, bit, qfg, qfu, qgj, qa2, nth0, qzn]
  simp only [q0d, qq6]
  cases g : stOk a0 a1 a2 a3 a4
  · rfl
  cases g2 : quu a5 a6 a7 a8 a9 a10 a11 a12 a13
  · rfl
  cases g3 : inR a14 0 100000
  · rfl
  cases g4 : inR a15 0 1000000000000000
  · rfl
  cases g5 : inR a16 0 1000000000000000
  · rfl
  cases g6 : inR a17 0 1000000000000000
  · rfl
  cases g7 : inR a18 0 1000000000000000
  · rfl
  have F := stF.1 g
  have := F.len; have := F.ml; have := F.tl; have := F.bl; have := F.rr
  have b4 := qon g4; have b5 := qon g5; have b6 := qon g6; have b7 := qon g7
  have s1 := qow _ F.mmem; have s2 := qow _ F.tmem
  simp only [Bool.not_true, qhl, Bool.true_and]
  rw [qf4 _ (by omega) _ _ (by omega) F.mmem, qf4 _ (by omega) _ _ (by omega) F.tmem]
  simp (disch := omega) only [qa2, nth0, qzo, q0f, qhp]
theorem qcd (k : Nat) (hk : 2000000 ≤ k) (a0 : Int) (a1z : Bool) (a1 : List (Int × Int × Int)) (a2z : Bool) (a2 : List Int) (a3z : Bool) (a3 : List Int) (a4z : Bool) (a4 : List Int) (a5 : Int) (a6 : Int) (a7 : Int) (a8 : Int) (a9 : Int) (a10 : Int) (a11 : Int) (a12 : Int) (a13 : Int) (a14 : Int) (a15 : Int) (a16 : Int) (a17 : Int) (a18 : Int) (a19 : Int) (a20 : Int) (h1 : (a1.length : Int) ≤ 1048576) (h4 : (a4.length : Int) ≤ 1048576) :
    go (k + 9) impl_WorldOk [(.agg [(.int .i64 (a0)), (.arr false (a1z) (.r3 (a1))), (.arr false (a2z) (.ints .i64 (a2))), (.arr false (a3z) (.ints .i64 (a3))), (.arr false (a4z) (.ints .i64 (a4))), (.int .i64 (a5)), (.int .i64 (a6)), (.int .i64 (a7)), (.int .i64 (a8)), (.int .i64 (a9)), (.int .i64 (a10)), (.int .i64 (a11)), (.int .i64 (a12)), (.int .i64 (a13)), (.int .i64 (a14)), (.int .i64 (a15)), (.int .i64 (a16)), (.int .i64 (a17)), (.int .i64 (a18)), (.int .i64 (a19)), (.int .i64 (a20))])] = some [.bool (q0d a0 a1 a2 a3 a4 a5 a6 a7 a8 a9 a10 a11 a12 a13 a14 a15 a16 a17 a18 a19 a20)] := by
  rw [qj0]
  simp (disch := omega) only [qb8, bit, qb0, qdk, qc2, qa2, nth0, qzn]
  simp only [q0d]
  cases g : stOk a0 a1 a2 a3 a4
  · rfl
  cases g2 : quu a5 a6 a7 a8 a9 a10 a11 a12 a13
  · rfl
  cases g3 : inR a14 0 100000
  · rfl
  cases g4 : qq6 a15 a16 a17 a18
  · rfl
  have F := stF.1 g
  have := F.len; have := F.ml; have := F.tl; have := F.bl; have := F.rr
  have g4' := g4
  simp only [qq6, Bool.and_eq_true] at g4'
  obtain ⟨i1, i2, i3, i4⟩ := g4'
  have b4 := qon i1; have b5 := qon i2; have b6 := qon i3; have b7 := qon i4
  have s1 := qow _ F.mmem; have s2 := qow _ F.tmem
  simp only [qhn, Bool.true_and]
  rw [qdg _ (by omega) _ _ (by omega) F.mmem, qdg _ (by omega) _ _ (by omega) F.tmem]
  simp (disch := omega) only [qa2, nth0, qzo, q0f, qhp]
  rw [qhz a19, qhz a20]
end Go.Proofs.YtoldpdhhfmlckaaGreat
end
section
namespace Go.Proofs.YtoldpdhhfmlckaaGreat
open Go.Ev
theorem qin (k : Nat) (a0 : Int) (a1z : Bool) (a1 : List (Int × Int × Int)) (b : Int) : go (k + 1) impl_LeafAt [(.agg [(.int .i64 a0), (.arr false a1z (.r3 a1))]), (.int .i64 b)] =
 (go k impl_MeshOk [(.agg [(.int .i64 a0), (.arr false a1z (.r3 a1))])]).bind fun r0 =>
 cond (!bit (nth r0 0))
 (some [(.int .i64 ((-1 : Int)))])
 ((go k slices_IndexFunc_impl_Id_impl_Id [(.arr false a1z (.r3 a1)), (.fn impl_LeafAt_1 [(.ptr false [(.int .i64 b)])])]).bind fun r1 =>
 some [(.int .i64 (D.toInt (nth r1 0)))]) := by kernel_rfl
theorem qio (k : Nat) (v0 v1 v2 v3 : Int) : go (k + 1) impl_LeafAt_1 [(.agg [(.int .i64 v0), (.int .i64 v1), (.int .i64 v2)]), (.ptr false [(.int .i64 v3)])] =
 (go k impl_StartOf [(.agg [(.int .i64 v0), (.int .i64 v1), (.int .i64 v2)])]).bind fun r0 =>
 cond (decide (D.toInt (nth r0 0) ≤ v3))
 ((go k impl_endOf [(.agg [(.int .i64 v0), (.int .i64 v1), (.int .i64 v2)])]).bind fun r1 =>
 some [(.bool (decide (v3 < D.toInt (nth r1 0))))])
 (some [(.bool false)]) := by kernel_rfl
def qw0 (x0 x1 : Int) (z2 : Bool) (l3 : List (Int × Int × Int)) (x4 : Int) : St := ⟨fill 19 [(0, (.sl 0 none)), (1, (.fn impl_LeafAt_1 [(.ptr 1 0 0)])), (7, (.int .i64 x0)), (8, (.int .i64 x1))], [], [(.arr false z2 (.r3 l3)), (.box false [(.int .i64 x4)])]⟩
theorem qlx (k : Nat) (v0 : Bool) (v1 : List (Int × Int × Int)) (v2 : Int) : go (k + 1) slices_IndexFunc_impl_Id_impl_Id [(.arr false v0 (.r3 v1)), (.fn impl_LeafAt_1 [(.ptr false [(.int .i64 v2)])])] =
 lp k slices_IndexFunc_impl_Id_impl_Id [] [] 2 k (qw0 (nI (List.length v1)) (0 : Int) v0 v1 v2) := by kernel_rfl
theorem qp8 (k n : Nat) (fu : List (Nat × Nat)) (x0 x1 : Int) (z2 : Bool) (l3 : List (Int × Int × Int)) (x4 : Int) : lp k slices_IndexFunc_impl_Id_impl_Id [] fu 2 (n + 1) (qw0 x0 x1 z2 l3 x4) =
 cond (decide (x1 < x0))
 (cond (decide ((0 : Int) ≤ x1) && decide (x1 < nI (List.length l3)))
 ((go k impl_LeafAt_1 [(.agg [(.int .i64 (Prod.fst (List.getD l3 (Int.toNat x1) zz3))), (.int .i64 (Prod.fst (Prod.snd (List.getD l3 (Int.toNat x1) zz3)))), (.int .i64 (Prod.snd (Prod.snd (List.getD l3 (Int.toNat x1) zz3))))]), (.ptr false [(.int .i64 x4)])]).bind fun r0 =>
 cond (bit (nth r0 0))
 (some [(.int .i64 x1)])
 (lp k slices_IndexFunc_impl_Id_impl_Id [] fu 2 n (qw0 x0 (IntKind.wrap .i64 (x1 + (1 : Int))) z2 l3 x4)))
 none)
 (some [(.int .i64 ((-1 : Int)))]) := by kernel_rfl
def qw7 (x0 x1 : Int) (z2 : Bool) (l3 : List (Int × Int × Int)) (x4 : Int) : St := ⟨fill 36 [(1, (.int .i64 x0)), (2, (.ptr 1 0 0)), (5, (.int .i64 x1))], [], [(.arr false z2 (.r3 l3)), (.box true [(.int .i64 x4), (.sl 0 none)])]⟩
theorem qmd (k : Nat) (a0 : Int) (a1z : Bool) (a1 : List (Int × Int × Int)) (b : Int) : go (k + 1) spec_LeafAt [(.agg [(.int .i64 a0), (.arr false a1z (.r3 a1))]), (.int .i64 b)] =
 lp k spec_LeafAt [] [] 2 k (qw7 b (0 : Int) a1z a1 a0) := by kernel_rfl
theorem qqf (k n : Nat) (fu : List (Nat × Nat)) (x0 x1 : Int) (z2 : Bool) (l3 : List (Int × Int × Int)) (x4 : Int) : lp k spec_LeafAt [] fu 2 (n + 1) (qw7 x0 x1 z2 l3 x4) =
 cond (decide (x1 < nI (List.length l3)))
 ((go k spec_MeshOk [(.agg [(.int .i64 x4), (.arr false z2 (.r3 l3))])]).bind fun r0 =>
 cond (bit (nth r0 0))
 (cond (decide ((0 : Int) ≤ x1) && decide (x1 < nI (List.length l3)))
 ((go k spec_StartOf [(.agg [(.int .i64 (Prod.fst (List.getD l3 (Int.toNat x1) zz3))), (.int .i64 (Prod.fst (Prod.snd (List.getD l3 (Int.toNat x1) zz3)))), (.int .i64 (Prod.snd (Prod.snd (List.getD l3 (Int.toNat x1) zz3))))])]).bind fun r1 =>
 cond (decide (D.toInt (nth r1 0) ≤ x0))
 (cond (decide ((0 : Int) ≤ x1) && decide (x1 < nI (List.length l3)))
 ((go k spec_l04End [(.agg [(.int .i64 (Prod.fst (List.getD l3 (Int.toNat x1) zz3))), (.int .i64 (Prod.fst (Prod.snd (List.getD l3 (Int.toNat x1) zz3)))), (.int .i64 (Prod.snd (Prod.snd (List.getD l3 (Int.toNat x1) zz3))))])]).bind fun r2 =>
 cond (decide (x0 < D.toInt (nth r2 0)))
 (some [(.int .i64 x1)])
 (lp k spec_LeafAt [] fu 2 n (qw7 x0 (IntKind.wrap .i64 (x1 + (1 : Int))) z2 l3 x4)))
 none)
 (lp k spec_LeafAt [] fu 2 n (qw7 x0 (IntKind.wrap .i64 (x1 + (1 : Int))) z2 l3 x4)))
 none)
 (some [(.int .i64 ((-1 : Int)))]))
 (some [(.int .i64 ((-1 : Int)))]) := by kernel_rfl
end Go.Proofs.YtoldpdhhfmlckaaGreat
end
section
namespace Go.Proofs.YtoldpdhhfmlckaaGreat
open Go.Ev
abbrev cst (x : Cell) : Int := qyq x.1 x.2.1 x.2.2
def qq4 (pos : Int) (l : List Cell) : Nat → Nat → Int
  | 0, _ => -1
  | n + 1, i => cond (decide (cst (l.getD i zz3) ≤ pos) && decide (pos < cst (l.getD i zz3) + qz7 (l.getD i zz3).2.1)) (i : Int) (qq4 pos l n (i + 1))
theorem qq5 (pos : Int) (l : List Cell) : ∀ (n i : Nat), -1 ≤ qq4 pos l n i ∧ qq4 pos l n i < ((i + n : Nat) : Int) ∧ (0 ≤ qq4 pos l n i → (i : Int) ≤ qq4 pos l n i)
  | 0, i => by simp [qq4]; omega
  | n + 1, i => by
    have := qq5 pos l n (i + 1)
    unfold qq4
    cases (decide (cst (l.getD i zz3) ≤ pos) && decide (pos < cst (l.getD i zz3) + qz7 (l.getD i zz3).2.1))
    · simp only [qhl]; omega
    · simp only [qhn]; omega
def qq2 (r : Int) (l : List Cell) (pos : Int) : Int := cond (qtt r 0 l) (qq4 pos l l.length 0) (-1)
theorem qq3 (r : Int) (l : List Cell) (pos : Int) : -1 ≤ qq2 r l pos ∧ qq2 r l pos < l.length := by
  unfold qq2
  cases qtt r 0 l
  · simp; omega
  · have := qq5 pos l l.length 0; simp only [qhn]; omega
theorem qa9 (k : Nat) (hk : 2000000 ≤ k) (a b c pos : Int) : go (k + 6) impl_LeafAt_1 [.agg [.int .i64 a, .int .i64 b, .int .i64 c], .ptr false [.int .i64 pos]] = some [.bool (decide (qyq a b c ≤ pos) && decide (pos < qyq a b c + qz7 b))] := by
  rw [qio]
  simp (disch := omega) only [qb7, qcr, qa2, nth0, qzo, qhp]
theorem qrq (k : Nat) (hk : 2000000 ≤ k) (fu : List (Nat × Nat)) (z : Bool) (l : List Cell) (pos : Int) (hl : (l.length : Int) ≤ 1048576) : ∀ (n i : Nat), i ≤ l.length → l.length - i < n →
    lp (k + 6) slices_IndexFunc_impl_Id_impl_Id [] fu 2 (n) (qw0 (l.length : Int) (i : Int) z l pos) = some [.int .i64 (qq4 pos l (l.length - i) i)]
  | 0, i, hi, hn => by omega
  | n + 1, i, hi, hn => by
    rw [qp8]
    by_cases h : i < l.length
    · have e := qrq k hk fu z l pos hl n (i + 1) (by omega) (by omega)
      rw [show l.length - i = (l.length - (i + 1)) + 1 by omega, qq4]
      simp (disch := omega) only [dT, nI, Bool.and_true, Int.toNat_natCast, qa9, bit, qgr, q0f, e, qa2, nth0, qzn, qhn, cst]
      cases (decide (qyq (l.getD i zz3).1 (l.getD i zz3).2.1 (l.getD i zz3).2.2 ≤ pos) && decide (pos < qyq (l.getD i zz3).1 (l.getD i zz3).2.1 (l.getD i zz3).2.2 + qz7 (l.getD i zz3).2.1)) <;> rfl
    · simp (disch := omega) only [dF, dT, nI, Bool.and_false, Int.toNat_natCast, bit, qgr, q0f, qhl]
      rw [show l.length - i = 0 by omega]; rfl
theorem qbt (k : Nat) (hk : 2000000 ≤ k) (a0 : Int) (a1z : Bool) (a1 : List (Int × Int × Int)) (b : Int) (hl : (a1.length : Int) ≤ 1048576) : go (k + 8) impl_LeafAt [(.agg [(.int .i64 (a0)), (.arr false (a1z) (.r3 (a1)))]), (.int .i64 (b))] = some [.int .i64 (qq2 a0 a1 b)] := by
  rw [qin]
  simp (disch := omega) only [qbw, bit, qa2, nth0, qzn]
  unfold qq2
  cases qtt a0 0 a1
  · rfl
  rw [Bool.not_true, qhl, qlx]
  have e := qrq k hk [] a1z a1 b hl (k + 6) 0 (by omega) (by omega)
  rw [show ((0 : Nat) : Int) = 0 from rfl] at e
  simp (disch := omega) only [nI, e, qa2, nth0, qzo, qhn]
  rfl
theorem qsr (k : Nat) (hk : 2000000 ≤ k) (fu : List (Nat × Nat)) (z : Bool) (r : Int) (l : List Cell) (pos : Int) (hl : (l.length : Int) ≤ 1048576) (hm : qtt r 0 l = true) : ∀ (n i : Nat), i ≤ l.length → l.length - i < n →
    lp (k + 5) spec_LeafAt [] fu 2 (n) (qw7 pos (i : Int) z l r) = some [.int .i64 (qq4 pos l (l.length - i) i)]
  | 0, i, hi, hn => by omega
  | n + 1, i, hi, hn => by
    rw [qqf]
    by_cases h : i < l.length
    · have e := qsr k hk fu z r l pos hl hm n (i + 1) (by omega) (by omega)
      rw [show l.length - i = (l.length - (i + 1)) + 1 by omega, qq4]
      simp (disch := omega) only [nI, dT, qfe, hm, bit, Bool.and_true, Int.toNat_natCast, qfm, qfw, qgr, q0f, e, qa2, nth0, qzo, qhn, qzn, cst]
      cases decide (qyq (l.getD i zz3).1 (l.getD i zz3).2.1 (l.getD i zz3).2.2 ≤ pos) <;> cases decide (pos < qyq (l.getD i zz3).1 (l.getD i zz3).2.1 (l.getD i zz3).2.2 + qz7 (l.getD i zz3).2.1) <;> rfl
    · simp (disch := omega) only [nI, dF, bit, dT, Bool.and_false, Int.toNat_natCast, qgr, q0f, qhl]
      rw [show l.length - i = 0 by omega]; rfl
theorem qfa (k : Nat) (hk : 2000000 ≤ k) (a0 : Int) (a1z : Bool) (a1 : List (Int × Int × Int)) (b : Int) (hl : (a1.length : Int) ≤ 1048576) : go (k + 6) spec_LeafAt [(.agg [(.int .i64 (a0)), (.arr false (a1z) (.r3 (a1)))]), (.int .i64 (b))] = some [.int .i64 (qq2 a0 a1 b)] := by
  rw [qmd]
  unfold qq2
  cases hm : qtt a0 0 a1
  · rw [show k + 5 = (k + 5 - 1) + 1 by omega]
    rw [show lp (k + 5 - 1 + 1) = lp (k + 5) by rw [show k + 5 - 1 + 1 = k + 5 by omega], qqf]
    by_cases h0 : 0 < a1.length
    · simp (disch := omega) only [nI, dT, qfe, hm, bit, Bool.and_true, q0f, qhn, qa2, nth0, qzn, qhl]
    · simp (disch := omega) only [nI, dF, bit, dT, Bool.and_false, q0f, qhl]
  exact qsr k hk [] a1z a0 a1 b hl hm _ 0 (by omega) (by omega)
end Go.Proofs.YtoldpdhhfmlckaaGreat
end
section
namespace Go.Proofs.YtoldpdhhfmlckaaGreat
open Go.Ev
theorem qnq (k : Nat) (a0 : Int) (a1z : Bool) (a1 : List (Int × Int × Int)) (a2z : Bool) (a2 : List Int) (a3z : Bool) (a3 : List Int) (a4z : Bool) (a4 : List Int) (a5 a6 a7 a8 a9 a10 a11 a12 a13 a14 a15 a16 a17 a18 a19 a20 : Int) : go (k + 1) spec_l36Copy [(.agg [(.int .i64 a0), (.arr false a1z (.r3 a1)), (.arr false a2z (.ints .i64 a2)), (.arr false a3z (.ints .i64 a3)), (.arr false a4z (.ints .i64 a4)), (.int .i64 a5), (.int .i64 a6), (.int .i64 a7), (.int .i64 a8), (.int .i64 a9), (.int .i64 a10), (.int .i64 a11), (.int .i64 a12), (.int .i64 a13), (.int .i64 a14), (.int .i64 a15), (.int .i64 a16), (.int .i64 a17), (.int .i64 a18), (.int .i64 a19), (.int .i64 a20)])] =
 (go k spec_l07Copy [(.agg [(.int .i64 a0), (.arr false a1z (.r3 a1)), (.arr false a2z (.ints .i64 a2)), (.arr false a3z (.ints .i64 a3)), (.arr false a4z (.ints .i64 a4))])]).bind fun r0 =>
 some [(.agg [(.int .i64 (D.toInt (D.cell 0 (nth r0 0)))), (.arr true (D.nil (D.cell 1 (nth r0 0))) (.r3 (D.r3 (D.cell 1 (nth r0 0))))), (.arr true (D.nil (D.cell 2 (nth r0 0))) (.ints .i64 (D.ints (D.cell 2 (nth r0 0))))), (.arr true (D.nil (D.cell 3 (nth r0 0))) (.ints .i64 (D.ints (D.cell 3 (nth r0 0))))), (.arr true (D.nil (D.cell 4 (nth r0 0))) (.ints .i64 (D.ints (D.cell 4 (nth r0 0))))), (.int .i64 a5), (.int .i64 a6), (.int .i64 a7), (.int .i64 a8), (.int .i64 a9), (.int .i64 a10), (.int .i64 a11), (.int .i64 a12), (.int .i64 a13), (.int .i64 a14), (.int .i64 a15), (.int .i64 a16), (.int .i64 a17), (.int .i64 a18), (.int .i64 a19), (.int .i64 a20)])] := by kernel_rfl
theorem qj6 (k : Nat) (a0 : Int) (a1z : Bool) (a1 : List (Int × Int × Int)) (a2z : Bool) (a2 : List Int) (a3z : Bool) (a3 : List Int) (a4z : Bool) (a4 : List Int) (a5 a6 a7 a8 a9 a10 a11 a12 a13 a14 a15 a16 a17 a18 a19 a20 : Int) : go (k + 1) impl_copyWorld [(.agg [(.int .i64 a0), (.arr false a1z (.r3 a1)), (.arr false a2z (.ints .i64 a2)), (.arr false a3z (.ints .i64 a3)), (.arr false a4z (.ints .i64 a4)), (.int .i64 a5), (.int .i64 a6), (.int .i64 a7), (.int .i64 a8), (.int .i64 a9), (.int .i64 a10), (.int .i64 a11), (.int .i64 a12), (.int .i64 a13), (.int .i64 a14), (.int .i64 a15), (.int .i64 a16), (.int .i64 a17), (.int .i64 a18), (.int .i64 a19), (.int .i64 a20)])] =
 (go k impl_copyState [(.agg [(.int .i64 a0), (.arr false a1z (.r3 a1)), (.arr false a2z (.ints .i64 a2)), (.arr false a3z (.ints .i64 a3)), (.arr false a4z (.ints .i64 a4))])]).bind fun r0 =>
 some [(.agg [(.int .i64 (D.toInt (D.cell 0 (nth r0 0)))), (.arr true (D.nil (D.cell 1 (nth r0 0))) (.r3 (D.r3 (D.cell 1 (nth r0 0))))), (.arr true (D.nil (D.cell 2 (nth r0 0))) (.ints .i64 (D.ints (D.cell 2 (nth r0 0))))), (.arr true (D.nil (D.cell 3 (nth r0 0))) (.ints .i64 (D.ints (D.cell 3 (nth r0 0))))), (.arr true (D.nil (D.cell 4 (nth r0 0))) (.ints .i64 (D.ints (D.cell 4 (nth r0 0))))), (.int .i64 a5), (.int .i64 a6), (.int .i64 a7), (.int .i64 a8), (.int .i64 a9), (.int .i64 a10), (.int .i64 a11), (.int .i64 a12), (.int .i64 a13), (.int .i64 a14), (.int .i64 a15), (.int .i64 a16), (.int .i64 a17), (.int .i64 a18), (.int .i64 a19), (.int .i64 a20)])] := by kernel_rfl
theorem ql6 (k : Nat) (a0 : Int) (a1z : Bool) (a1 : List (Int × Int × Int)) (a2z : Bool) (a2 : List Int) (a3z : Bool) (a3 : List Int) (a4z : Bool) (a4 : List Int) (a5 a6 a7 a8 a9 a10 a11 a12 a13 a14 a15 a16 a17 a18 a19 a20 b c d : Int) : go (k + 1) spec_Drop [(.agg [(.int .i64 a0), (.arr false a1z (.r3 a1)), (.arr false a2z (.ints .i64 a2)), (.arr false a3z (.ints .i64 a3)), (.arr false a4z (.ints .i64 a4)), (.int .i64 a5), (.int .i64 a6), (.int .i64 a7), (.int .i64 a8), (.int .i64 a9), (.int .i64 a10), (.int .i64 a11), (.int .i64 a12), (.int .i64 a13), (.int .i64 a14), (.int .i64 a15), (.int .i64 a16), (.int .i64 a17), (.int .i64 a18), (.int .i64 a19), (.int .i64 a20)]), (.int .i64 b), (.int .i64 c), (.int .i64 d)] =
 (go k spec_l36Copy [(.agg [(.int .i64 a0), (.arr false a1z (.r3 a1)), (.arr false a2z (.ints .i64 a2)), (.arr false a3z (.ints .i64 a3)), (.arr false a4z (.ints .i64 a4)), (.int .i64 a5), (.int .i64 a6), (.int .i64 a7), (.int .i64 a8), (.int .i64 a9), (.int .i64 a10), (.int .i64 a11), (.int .i64 a12), (.int .i64 a13), (.int .i64 a14), (.int .i64 a15), (.int .i64 a16), (.int .i64 a17), (.int .i64 a18), (.int .i64 a19), (.int .i64 a20)])]).bind fun r0 =>
 (go k spec_WorldOk [(.agg [(.int .i64 a0), (.arr false a1z (.r3 a1)), (.arr false a2z (.ints .i64 a2)), (.arr false a3z (.ints .i64 a3)), (.arr false a4z (.ints .i64 a4)), (.int .i64 a5), (.int .i64 a6), (.int .i64 a7), (.int .i64 a8), (.int .i64 a9), (.int .i64 a10), (.int .i64 a11), (.int .i64 a12), (.int .i64 a13), (.int .i64 a14), (.int .i64 a15), (.int .i64 a16), (.int .i64 a17), (.int .i64 a18), (.int .i64 a19), (.int .i64 a20)])]).bind fun r1 =>
 cond (!bit (nth r1 0))
 (some [(.agg [(.int .i64 (D.toInt (D.cell 0 (nth r0 0)))), (.arr true (D.nil (D.cell 1 (nth r0 0))) (.r3 (D.r3 (D.cell 1 (nth r0 0))))), (.arr true (D.nil (D.cell 2 (nth r0 0))) (.ints .i64 (D.ints (D.cell 2 (nth r0 0))))), (.arr true (D.nil (D.cell 3 (nth r0 0))) (.ints .i64 (D.ints (D.cell 3 (nth r0 0))))), (.arr true (D.nil (D.cell 4 (nth r0 0))) (.ints .i64 (D.ints (D.cell 4 (nth r0 0))))), (.int .i64 (D.toInt (D.cell 5 (nth r0 0)))), (.int .i64 (D.toInt (D.cell 6 (nth r0 0)))), (.int .i64 (D.toInt (D.cell 7 (nth r0 0)))), (.int .i64 (D.toInt (D.cell 8 (nth r0 0)))), (.int .i64 (D.toInt (D.cell 9 (nth r0 0)))), (.int .i64 (D.toInt (D.cell 10 (nth r0 0)))), (.int .i64 (D.toInt (D.cell 11 (nth r0 0)))), (.int .i64 (D.toInt (D.cell (12 : Nat) (nth r0 0)))), (.int .i64 (D.toInt (D.cell (13 : Nat) (nth r0 0)))), (.int .i64 (D.toInt (D.cell (14 : Nat) (nth r0 0)))), (.int .i64 (D.toInt (D.cell (15 : Nat) (nth r0 0)))), (.int .i64 (D.toInt (D.cell (16 : Nat) (nth r0 0)))), (.int .i64 (D.toInt (D.cell (17 : Nat) (nth r0 0)))), (.int .i64 (D.toInt (D.cell (18 : Nat) (nth r0 0)))), (.int .i64 (D.toInt (D.cell (19 : Nat) (nth r0 0)))), (.int .i64 (D.toInt (D.cell (20 : Nat) (nth r0 0))))]), (.bool false)])
 ((go k spec_l01In [(.int .i64 c), (.int .i64 ((1 : Int))), (.int .i64 ((10000 : Int)))]).bind fun r2 =>
 cond (!bit (nth r2 0))
 (some [(.agg [(.int .i64 (D.toInt (D.cell 0 (nth r0 0)))), (.arr true (D.nil (D.cell 1 (nth r0 0))) (.r3 (D.r3 (D.cell 1 (nth r0 0))))), (.arr true (D.nil (D.cell 2 (nth r0 0))) (.ints .i64 (D.ints (D.cell 2 (nth r0 0))))), (.arr true (D.nil (D.cell 3 (nth r0 0))) (.ints .i64 (D.ints (D.cell 3 (nth r0 0))))), (.arr true (D.nil (D.cell 4 (nth r0 0))) (.ints .i64 (D.ints (D.cell 4 (nth r0 0))))), (.int .i64 (D.toInt (D.cell 5 (nth r0 0)))), (.int .i64 (D.toInt (D.cell 6 (nth r0 0)))), (.int .i64 (D.toInt (D.cell 7 (nth r0 0)))), (.int .i64 (D.toInt (D.cell 8 (nth r0 0)))), (.int .i64 (D.toInt (D.cell 9 (nth r0 0)))), (.int .i64 (D.toInt (D.cell 10 (nth r0 0)))), (.int .i64 (D.toInt (D.cell 11 (nth r0 0)))), (.int .i64 (D.toInt (D.cell (12 : Nat) (nth r0 0)))), (.int .i64 (D.toInt (D.cell (13 : Nat) (nth r0 0)))), (.int .i64 (D.toInt (D.cell (14 : Nat) (nth r0 0)))), (.int .i64 (D.toInt (D.cell (15 : Nat) (nth r0 0)))), (.int .i64 (D.toInt (D.cell (16 : Nat) (nth r0 0)))), (.int .i64 (D.toInt (D.cell (17 : Nat) (nth r0 0)))), (.int .i64 (D.toInt (D.cell (18 : Nat) (nth r0 0)))), (.int .i64 (D.toInt (D.cell (19 : Nat) (nth r0 0)))), (.int .i64 (D.toInt (D.cell (20 : Nat) (nth r0 0))))]), (.bool false)])
 ((go k spec_l01In [(.int .i64 d), (.int .i64 (0 : Int)), (.int .i64 ((1000 : Int)))]).bind fun r3 =>
 cond (!bit (nth r3 0))
 (some [(.agg [(.int .i64 (D.toInt (D.cell 0 (nth r0 0)))), (.arr true (D.nil (D.cell 1 (nth r0 0))) (.r3 (D.r3 (D.cell 1 (nth r0 0))))), (.arr true (D.nil (D.cell 2 (nth r0 0))) (.ints .i64 (D.ints (D.cell 2 (nth r0 0))))), (.arr true (D.nil (D.cell 3 (nth r0 0))) (.ints .i64 (D.ints (D.cell 3 (nth r0 0))))), (.arr true (D.nil (D.cell 4 (nth r0 0))) (.ints .i64 (D.ints (D.cell 4 (nth r0 0))))), (.int .i64 (D.toInt (D.cell 5 (nth r0 0)))), (.int .i64 (D.toInt (D.cell 6 (nth r0 0)))), (.int .i64 (D.toInt (D.cell 7 (nth r0 0)))), (.int .i64 (D.toInt (D.cell 8 (nth r0 0)))), (.int .i64 (D.toInt (D.cell 9 (nth r0 0)))), (.int .i64 (D.toInt (D.cell 10 (nth r0 0)))), (.int .i64 (D.toInt (D.cell 11 (nth r0 0)))), (.int .i64 (D.toInt (D.cell (12 : Nat) (nth r0 0)))), (.int .i64 (D.toInt (D.cell (13 : Nat) (nth r0 0)))), (.int .i64 (D.toInt (D.cell (14 : Nat) (nth r0 0)))), (.int .i64 (D.toInt (D.cell (15 : Nat) (nth r0 0)))), (.int .i64 (D.toInt (D.cell (16 : Nat) (nth r0 0)))), (.int .i64 (D.toInt (D.cell (17 : Nat) (nth r0 0)))), (.int .i64 (D.toInt (D.cell (18 : Nat) (nth r0 0)))), (.int .i64 (D.toInt (D.cell (19 : Nat) (nth r0 0)))), (.int .i64 (D.toInt (D.cell (20 : Nat) (nth r0 0))))]), (.bool false)])
 ((go k spec_l07Sum [(.arr false a2z (.ints .i64 a2))]).bind fun r4 =>
 cond (decide ((10000000 : Int) < IntKind.wrap .i64 (D.toInt (nth r4 0) + c)))
 (some [(.agg [(.int .i64 (D.toInt (D.cell 0 (nth r0 0)))), (.arr true (D.nil (D.cell 1 (nth r0 0))) (.r3 (D.r3 (D.cell 1 (nth r0 0))))), (.arr true (D.nil (D.cell 2 (nth r0 0))) (.ints .i64 (D.ints (D.cell 2 (nth r0 0))))), (.arr true (D.nil (D.cell 3 (nth r0 0))) (.ints .i64 (D.ints (D.cell 3 (nth r0 0))))), (.arr true (D.nil (D.cell 4 (nth r0 0))) (.ints .i64 (D.ints (D.cell 4 (nth r0 0))))), (.int .i64 (D.toInt (D.cell 5 (nth r0 0)))), (.int .i64 (D.toInt (D.cell 6 (nth r0 0)))), (.int .i64 (D.toInt (D.cell 7 (nth r0 0)))), (.int .i64 (D.toInt (D.cell 8 (nth r0 0)))), (.int .i64 (D.toInt (D.cell 9 (nth r0 0)))), (.int .i64 (D.toInt (D.cell 10 (nth r0 0)))), (.int .i64 (D.toInt (D.cell 11 (nth r0 0)))), (.int .i64 (D.toInt (D.cell (12 : Nat) (nth r0 0)))), (.int .i64 (D.toInt (D.cell (13 : Nat) (nth r0 0)))), (.int .i64 (D.toInt (D.cell (14 : Nat) (nth r0 0)))), (.int .i64 (D.toInt (D.cell (15 : Nat) (nth r0 0)))), (.int .i64 (D.toInt (D.cell (16 : Nat) (nth r0 0)))), (.int .i64 (D.toInt (D.cell (17 : Nat) (nth r0 0)))), (.int .i64 (D.toInt (D.cell (18 : Nat) (nth r0 0)))), (.int .i64 (D.toInt (D.cell (19 : Nat) (nth r0 0)))), (.int .i64 (D.toInt (D.cell (20 : Nat) (nth r0 0))))]), (.bool false)])
 ((go k spec_LeafAt [(.agg [(.int .i64 a0), (.arr false a1z (.r3 a1))]), (.int .i64 b)]).bind fun r5 =>
 cond (decide (D.toInt (nth r5 0) < (0 : Int)))
 (some [(.agg [(.int .i64 (D.toInt (D.cell 0 (nth r0 0)))), (.arr true (D.nil (D.cell 1 (nth r0 0))) (.r3 (D.r3 (D.cell 1 (nth r0 0))))), (.arr true (D.nil (D.cell 2 (nth r0 0))) (.ints .i64 (D.ints (D.cell 2 (nth r0 0))))), (.arr true (D.nil (D.cell 3 (nth r0 0))) (.ints .i64 (D.ints (D.cell 3 (nth r0 0))))), (.arr true (D.nil (D.cell 4 (nth r0 0))) (.ints .i64 (D.ints (D.cell 4 (nth r0 0))))), (.int .i64 (D.toInt (D.cell 5 (nth r0 0)))), (.int .i64 (D.toInt (D.cell 6 (nth r0 0)))), (.int .i64 (D.toInt (D.cell 7 (nth r0 0)))), (.int .i64 (D.toInt (D.cell 8 (nth r0 0)))), (.int .i64 (D.toInt (D.cell 9 (nth r0 0)))), (.int .i64 (D.toInt (D.cell 10 (nth r0 0)))), (.int .i64 (D.toInt (D.cell 11 (nth r0 0)))), (.int .i64 (D.toInt (D.cell (12 : Nat) (nth r0 0)))), (.int .i64 (D.toInt (D.cell (13 : Nat) (nth r0 0)))), (.int .i64 (D.toInt (D.cell (14 : Nat) (nth r0 0)))), (.int .i64 (D.toInt (D.cell (15 : Nat) (nth r0 0)))), (.int .i64 (D.toInt (D.cell (16 : Nat) (nth r0 0)))), (.int .i64 (D.toInt (D.cell (17 : Nat) (nth r0 0)))), (.int .i64 (D.toInt (D.cell (18 : Nat) (nth r0 0)))), (.int .i64 (D.toInt (D.cell (19 : Nat) (nth r0 0)))), (.int .i64 (D.toInt (D.cell (20 : Nat) (nth r0 0))))]), (.bool false)])
 (cond (decide ((0 : Int) ≤ D.toInt (nth r5 0)) && decide (D.toInt (nth r5 0) < nI (List.length (D.ints (D.cell 2 (nth r0 0))))))
 (cond (decide ((0 : Int) ≤ D.toInt (nth r5 0)) && decide (D.toInt (nth r5 0) < nI (List.length (D.ints (D.cell 2 (nth r0 0))))))
 (cond (decide ((0 : Int) ≤ D.toInt (nth r5 0)) && decide (D.toInt (nth r5 0) < nI (List.length (D.ints (D.cell 3 (nth r0 0))))))
 (cond (decide ((0 : Int) ≤ D.toInt (nth r5 0)) && decide (D.toInt (nth r5 0) < nI (List.length (D.ints (D.cell 3 (nth r0 0))))))
 ((go k spec_LedgerAdd [(.agg [(.int .i64 (D.toInt (D.cell (15 : Nat) (nth r0 0)))), (.int .i64 (D.toInt (D.cell (16 : Nat) (nth r0 0)))), (.int .i64 (D.toInt (D.cell (17 : Nat) (nth r0 0)))), (.int .i64 (D.toInt (D.cell (18 : Nat) (nth r0 0))))]), (.agg [(.int .i64 c), (.int .i64 (0 : Int)), (.int .i64 (IntKind.wrap .i64 (c * d))), (.int .i64 (0 : Int))])]).bind fun r6 =>
 some [(.agg [(.int .i64 (D.toInt (D.cell 0 (nth r0 0)))), (.arr true (D.nil (D.cell 1 (nth r0 0))) (.r3 (D.r3 (D.cell 1 (nth r0 0))))), (.arr true (D.nil (D.cell 2 (nth r0 0))) (.ints .i64 (List.set (D.ints (D.cell 2 (nth r0 0))) (Int.toNat (D.toInt (nth r5 0))) (IntKind.wrap .i64 (List.getD (D.ints (D.cell 2 (nth r0 0))) (Int.toNat (D.toInt (nth r5 0))) (0 : Int) + c))))), (.arr true (D.nil (D.cell 3 (nth r0 0))) (.ints .i64 (List.set (D.ints (D.cell 3 (nth r0 0))) (Int.toNat (D.toInt (nth r5 0))) (IntKind.wrap .i64 (List.getD (D.ints (D.cell 3 (nth r0 0))) (Int.toNat (D.toInt (nth r5 0))) (0 : Int) + IntKind.wrap .i64 (c * d)))))), (.arr true (D.nil (D.cell 4 (nth r0 0))) (.ints .i64 (D.ints (D.cell 4 (nth r0 0))))), (.int .i64 (D.toInt (D.cell 5 (nth r0 0)))), (.int .i64 (D.toInt (D.cell 6 (nth r0 0)))), (.int .i64 (D.toInt (D.cell 7 (nth r0 0)))), (.int .i64 (D.toInt (D.cell 8 (nth r0 0)))), (.int .i64 (D.toInt (D.cell 9 (nth r0 0)))), (.int .i64 (D.toInt (D.cell 10 (nth r0 0)))), (.int .i64 (D.toInt (D.cell 11 (nth r0 0)))), (.int .i64 (D.toInt (D.cell (12 : Nat) (nth r0 0)))), (.int .i64 (D.toInt (D.cell (13 : Nat) (nth r0 0)))), (.int .i64 (D.toInt (D.cell (14 : Nat) (nth r0 0)))), (.int .i64 (D.toInt (D.cell 0 (nth r6 0)))), (.int .i64 (D.toInt (D.cell 1 (nth r6 0)))), (.int .i64 (D.toInt (D.cell 2 (nth r6 0)))), (.int .i64 (D.toInt (D.cell 3 (nth r6 0)))), (.int .i64 (D.toInt (D.cell (19 : Nat) (nth r0 0)))), (.int .i64 (D.toInt (D.cell (20 : Nat) (nth r0 0))))]), (.bool true)])
 none)
 none)
 none)
 none))))) := by kernel_rfl
theorem qif (k : Nat) (a0 : Int) (a1z : Bool) (a1 : List (Int × Int × Int)) (a2z : Bool) (a2 : List Int) (a3z : Bool) (a3 : List Int) (a4z : Bool) (a4 : List Int) (a5 a6 a7 a8 a9 a10 a11 a12 a13 a14 a15 a16 a17 a18 a19 a20 b c d : Int) : go (k + 1) impl_Drop [(.agg [(.int .i64 a0), (.arr false a1z (.r3 a1)), (.arr false a2z (.ints .i64 a2)), (.arr false a3z (.ints .i64 a3)), (.arr false a4z (.ints .i64 a4)), (.int .i64 a5), (.int .i64 a6), (.int .i64 a7), (.int .i64 a8), (.int .i64 a9), (.int .i64 a10), (.int .i64 a11), (.int .i64 a12), (.int .i64 a13), (.int .i64 a14), (.int .i64 a15), (.int .i64 a16), (.int .i64 a17), (.int .i64 a18), (.int .i64 a19), (.int .i64 a20)]), (.int .i64 b), (.int .i64 c), (.int .i64 d)] =
 (go k impl_copyWorld [(.agg [(.int .i64 a0), (.arr false a1z (.r3 a1)), (.arr false a2z (.ints .i64 a2)), (.arr false a3z (.ints .i64 a3)), (.arr false a4z (.ints .i64 a4)), (.int .i64 a5), (.int .i64 a6), (.int .i64 a7), (.int .i64 a8), (.int .i64 a9), (.int .i64 a10), (.int .i64 a11), (.int .i64 a12), (.int .i64 a13), (.int .i64 a14), (.int .i64 a15), (.int .i64 a16), (.int .i64 a17), (.int .i64 a18), (.int .i64 a19), (.int .i64 a20)])]).bind fun r0 =>
 (go k impl_LeafAt [(.agg [(.int .i64 a0), (.arr false a1z (.r3 a1))]), (.int .i64 b)]).bind fun r1 =>
 (go k impl_WorldOk [(.agg [(.int .i64 a0), (.arr false a1z (.r3 a1)), (.arr false a2z (.ints .i64 a2)), (.arr false a3z (.ints .i64 a3)), (.arr false a4z (.ints .i64 a4)), (.int .i64 a5), (.int .i64 a6), (.int .i64 a7), (.int .i64 a8), (.int .i64 a9), (.int .i64 a10), (.int .i64 a11), (.int .i64 a12), (.int .i64 a13), (.int .i64 a14), (.int .i64 a15), (.int .i64 a16), (.int .i64 a17), (.int .i64 a18), (.int .i64 a19), (.int .i64 a20)])]).bind fun r2 =>
 cond (!bit (nth r2 0))
 (some [(.agg [(.int .i64 (D.toInt (D.cell 0 (nth r0 0)))), (.arr true (D.nil (D.cell 1 (nth r0 0))) (.r3 (D.r3 (D.cell 1 (nth r0 0))))), (.arr true (D.nil (D.cell 2 (nth r0 0))) (.ints .i64 (D.ints (D.cell 2 (nth r0 0))))), (.arr true (D.nil (D.cell 3 (nth r0 0))) (.ints .i64 (D.ints (D.cell 3 (nth r0 0))))), (.arr true (D.nil (D.cell 4 (nth r0 0))) (.ints .i64 (D.ints (D.cell 4 (nth r0 0))))), (.int .i64 (D.toInt (D.cell 5 (nth r0 0)))), (.int .i64 (D.toInt (D.cell 6 (nth r0 0)))), (.int .i64 (D.toInt (D.cell 7 (nth r0 0)))), (.int .i64 (D.toInt (D.cell 8 (nth r0 0)))), (.int .i64 (D.toInt (D.cell 9 (nth r0 0)))), (.int .i64 (D.toInt (D.cell 10 (nth r0 0)))), (.int .i64 (D.toInt (D.cell 11 (nth r0 0)))), (.int .i64 (D.toInt (D.cell (12 : Nat) (nth r0 0)))), (.int .i64 (D.toInt (D.cell (13 : Nat) (nth r0 0)))), (.int .i64 (D.toInt (D.cell (14 : Nat) (nth r0 0)))), (.int .i64 (D.toInt (D.cell (15 : Nat) (nth r0 0)))), (.int .i64 (D.toInt (D.cell (16 : Nat) (nth r0 0)))), (.int .i64 (D.toInt (D.cell (17 : Nat) (nth r0 0)))), (.int .i64 (D.toInt (D.cell (18 : Nat) (nth r0 0)))), (.int .i64 (D.toInt (D.cell (19 : Nat) (nth r0 0)))), (.int .i64 (D.toInt (D.cell (20 : Nat) (nth r0 0))))]), (.bool false)])
 (cond (decide (D.toInt (nth r1 0) < (0 : Int)))
 (some [(.agg [(.int .i64 (D.toInt (D.cell 0 (nth r0 0)))), (.arr true (D.nil (D.cell 1 (nth r0 0))) (.r3 (D.r3 (D.cell 1 (nth r0 0))))), (.arr true (D.nil (D.cell 2 (nth r0 0))) (.ints .i64 (D.ints (D.cell 2 (nth r0 0))))), (.arr true (D.nil (D.cell 3 (nth r0 0))) (.ints .i64 (D.ints (D.cell 3 (nth r0 0))))), (.arr true (D.nil (D.cell 4 (nth r0 0))) (.ints .i64 (D.ints (D.cell 4 (nth r0 0))))), (.int .i64 (D.toInt (D.cell 5 (nth r0 0)))), (.int .i64 (D.toInt (D.cell 6 (nth r0 0)))), (.int .i64 (D.toInt (D.cell 7 (nth r0 0)))), (.int .i64 (D.toInt (D.cell 8 (nth r0 0)))), (.int .i64 (D.toInt (D.cell 9 (nth r0 0)))), (.int .i64 (D.toInt (D.cell 10 (nth r0 0)))), (.int .i64 (D.toInt (D.cell 11 (nth r0 0)))), (.int .i64 (D.toInt (D.cell (12 : Nat) (nth r0 0)))), (.int .i64 (D.toInt (D.cell (13 : Nat) (nth r0 0)))), (.int .i64 (D.toInt (D.cell (14 : Nat) (nth r0 0)))), (.int .i64 (D.toInt (D.cell (15 : Nat) (nth r0 0)))), (.int .i64 (D.toInt (D.cell (16 : Nat) (nth r0 0)))), (.int .i64 (D.toInt (D.cell (17 : Nat) (nth r0 0)))), (.int .i64 (D.toInt (D.cell (18 : Nat) (nth r0 0)))), (.int .i64 (D.toInt (D.cell (19 : Nat) (nth r0 0)))), (.int .i64 (D.toInt (D.cell (20 : Nat) (nth r0 0))))]), (.bool false)])
 ((go k impl_within [(.int .i64 c), (.int .i64 ((1 : Int))), (.int .i64 ((10000 : Int)))]).bind fun r3 =>
 cond (!bit (nth r3 0))
 (some [(.agg [(.int .i64 (D.toInt (D.cell 0 (nth r0 0)))), (.arr true (D.nil (D.cell 1 (nth r0 0))) (.r3 (D.r3 (D.cell 1 (nth r0 0))))), (.arr true (D.nil (D.cell 2 (nth r0 0))) (.ints .i64 (D.ints (D.cell 2 (nth r0 0))))), (.arr true (D.nil (D.cell 3 (nth r0 0))) (.ints .i64 (D.ints (D.cell 3 (nth r0 0))))), (.arr true (D.nil (D.cell 4 (nth r0 0))) (.ints .i64 (D.ints (D.cell 4 (nth r0 0))))), (.int .i64 (D.toInt (D.cell 5 (nth r0 0)))), (.int .i64 (D.toInt (D.cell 6 (nth r0 0)))), (.int .i64 (D.toInt (D.cell 7 (nth r0 0)))), (.int .i64 (D.toInt (D.cell 8 (nth r0 0)))), (.int .i64 (D.toInt (D.cell 9 (nth r0 0)))), (.int .i64 (D.toInt (D.cell 10 (nth r0 0)))), (.int .i64 (D.toInt (D.cell 11 (nth r0 0)))), (.int .i64 (D.toInt (D.cell (12 : Nat) (nth r0 0)))), (.int .i64 (D.toInt (D.cell (13 : Nat) (nth r0 0)))), (.int .i64 (D.toInt (D.cell (14 : Nat) (nth r0 0)))), (.int .i64 (D.toInt (D.cell (15 : Nat) (nth r0 0)))), (.int .i64 (D.toInt (D.cell (16 : Nat) (nth r0 0)))), (.int .i64 (D.toInt (D.cell (17 : Nat) (nth r0 0)))), (.int .i64 (D.toInt (D.cell (18 : Nat) (nth r0 0)))), (.int .i64 (D.toInt (D.cell (19 : Nat) (nth r0 0)))), (.int .i64 (D.toInt (D.cell (20 : Nat) (nth r0 0))))]), (.bool false)])
 ((go k impl_within [(.int .i64 d), (.int .i64 (0 : Int)), (.int .i64 ((1000 : Int)))]).bind fun r4 =>
 cond (!bit (nth r4 0))
 (some [(.agg [(.int .i64 (D.toInt (D.cell 0 (nth r0 0)))), (.arr true (D.nil (D.cell 1 (nth r0 0))) (.r3 (D.r3 (D.cell 1 (nth r0 0))))), (.arr true (D.nil (D.cell 2 (nth r0 0))) (.ints .i64 (D.ints (D.cell 2 (nth r0 0))))), (.arr true (D.nil (D.cell 3 (nth r0 0))) (.ints .i64 (D.ints (D.cell 3 (nth r0 0))))), (.arr true (D.nil (D.cell 4 (nth r0 0))) (.ints .i64 (D.ints (D.cell 4 (nth r0 0))))), (.int .i64 (D.toInt (D.cell 5 (nth r0 0)))), (.int .i64 (D.toInt (D.cell 6 (nth r0 0)))), (.int .i64 (D.toInt (D.cell 7 (nth r0 0)))), (.int .i64 (D.toInt (D.cell 8 (nth r0 0)))), (.int .i64 (D.toInt (D.cell 9 (nth r0 0)))), (.int .i64 (D.toInt (D.cell 10 (nth r0 0)))), (.int .i64 (D.toInt (D.cell 11 (nth r0 0)))), (.int .i64 (D.toInt (D.cell (12 : Nat) (nth r0 0)))), (.int .i64 (D.toInt (D.cell (13 : Nat) (nth r0 0)))), (.int .i64 (D.toInt (D.cell (14 : Nat) (nth r0 0)))), (.int .i64 (D.toInt (D.cell (15 : Nat) (nth r0 0)))), (.int .i64 (D.toInt (D.cell (16 : Nat) (nth r0 0)))), (.int .i64 (D.toInt (D.cell (17 : Nat) (nth r0 0)))), (.int .i64 (D.toInt (D.cell (18 : Nat) (nth r0 0)))), (.int .i64 (D.toInt (D.cell (19 : Nat) (nth r0 0)))), (.int .i64 (D.toInt (D.cell (20 : Nat) (nth r0 0))))]), (.bool false)])
 ((go k impl_sum [(.arr false a2z (.ints .i64 a2))]).bind fun r5 =>
 cond (decide ((10000000 : Int) < IntKind.wrap .i64 (D.toInt (nth r5 0) + c)))
 (some [(.agg [(.int .i64 (D.toInt (D.cell 0 (nth r0 0)))), (.arr true (D.nil (D.cell 1 (nth r0 0))) (.r3 (D.r3 (D.cell 1 (nth r0 0))))), (.arr true (D.nil (D.cell 2 (nth r0 0))) (.ints .i64 (D.ints (D.cell 2 (nth r0 0))))), (.arr true (D.nil (D.cell 3 (nth r0 0))) (.ints .i64 (D.ints (D.cell 3 (nth r0 0))))), (.arr true (D.nil (D.cell 4 (nth r0 0))) (.ints .i64 (D.ints (D.cell 4 (nth r0 0))))), (.int .i64 (D.toInt (D.cell 5 (nth r0 0)))), (.int .i64 (D.toInt (D.cell 6 (nth r0 0)))), (.int .i64 (D.toInt (D.cell 7 (nth r0 0)))), (.int .i64 (D.toInt (D.cell 8 (nth r0 0)))), (.int .i64 (D.toInt (D.cell 9 (nth r0 0)))), (.int .i64 (D.toInt (D.cell 10 (nth r0 0)))), (.int .i64 (D.toInt (D.cell 11 (nth r0 0)))), (.int .i64 (D.toInt (D.cell (12 : Nat) (nth r0 0)))), (.int .i64 (D.toInt (D.cell (13 : Nat) (nth r0 0)))), (.int .i64 (D.toInt (D.cell (14 : Nat) (nth r0 0)))), (.int .i64 (D.toInt (D.cell (15 : Nat) (nth r0 0)))), (.int .i64 (D.toInt (D.cell (16 : Nat) (nth r0 0)))), (.int .i64 (D.toInt (D.cell (17 : Nat) (nth r0 0)))), (.int .i64 (D.toInt (D.cell (18 : Nat) (nth r0 0)))), (.int .i64 (D.toInt (D.cell (19 : Nat) (nth r0 0)))), (.int .i64 (D.toInt (D.cell (20 : Nat) (nth r0 0))))]), (.bool false)])
 (cond (decide ((0 : Int) ≤ D.toInt (nth r1 0)) && decide (D.toInt (nth r1 0) < nI (List.length (D.ints (D.cell 2 (nth r0 0))))))
 (cond (decide ((0 : Int) ≤ D.toInt (nth r1 0)) && decide (D.toInt (nth r1 0) < nI (List.length (D.ints (D.cell 2 (nth r0 0))))))
 (cond (decide ((0 : Int) ≤ D.toInt (nth r1 0)) && decide (D.toInt (nth r1 0) < nI (List.length (D.ints (D.cell 3 (nth r0 0))))))
 (cond (decide ((0 : Int) ≤ D.toInt (nth r1 0)) && decide (D.toInt (nth r1 0) < nI (List.length (D.ints (D.cell 3 (nth r0 0))))))
 (some [(.agg [(.int .i64 (D.toInt (D.cell 0 (nth r0 0)))), (.arr true (D.nil (D.cell 1 (nth r0 0))) (.r3 (D.r3 (D.cell 1 (nth r0 0))))), (.arr true (D.nil (D.cell 2 (nth r0 0))) (.ints .i64 (List.set (D.ints (D.cell 2 (nth r0 0))) (Int.toNat (D.toInt (nth r1 0))) (IntKind.wrap .i64 (List.getD (D.ints (D.cell 2 (nth r0 0))) (Int.toNat (D.toInt (nth r1 0))) (0 : Int) + c))))), (.arr true (D.nil (D.cell 3 (nth r0 0))) (.ints .i64 (List.set (D.ints (D.cell 3 (nth r0 0))) (Int.toNat (D.toInt (nth r1 0))) (IntKind.wrap .i64 (List.getD (D.ints (D.cell 3 (nth r0 0))) (Int.toNat (D.toInt (nth r1 0))) (0 : Int) + IntKind.wrap .i64 (c * d)))))), (.arr true (D.nil (D.cell 4 (nth r0 0))) (.ints .i64 (D.ints (D.cell 4 (nth r0 0))))), (.int .i64 (D.toInt (D.cell 5 (nth r0 0)))), (.int .i64 (D.toInt (D.cell 6 (nth r0 0)))), (.int .i64 (D.toInt (D.cell 7 (nth r0 0)))), (.int .i64 (D.toInt (D.cell 8 (nth r0 0)))), (.int .i64 (D.toInt (D.cell 9 (nth r0 0)))), (.int .i64 (D.toInt (D.cell 10 (nth r0 0)))), (.int .i64 (D.toInt (D.cell 11 (nth r0 0)))), (.int .i64 (D.toInt (D.cell (12 : Nat) (nth r0 0)))), (.int .i64 (D.toInt (D.cell (13 : Nat) (nth r0 0)))), (.int .i64 (D.toInt (D.cell (14 : Nat) (nth r0 0)))), (.int .i64 (IntKind.wrap .i64 (D.toInt (D.cell (15 : Nat) (nth r0 0)) + c))), (.int .i64 (D.toInt (D.cell (16 : Nat) (nth r0 0)))), (.int .i64 (IntKind.wrap .i64 (D.toInt (D.cell (17 : Nat) (nth r0 0)) + IntKind.wrap .i64 (c * d)))), (.int .i64 (D.toInt (D.cell (18 : Nat) (nth r0 0)))), (.int .i64 (D.toInt (D.cell (19 : Nat) (nth r0 0)))), (.int .i64 (D.toInt (D.cell (20 : Nat) (nth r0 0))))]), (.bool true)])
 none)
 none)
 none)
 none))))) := by kernel_rfl

end Go.Proofs.YtoldpdhhfmlckaaGreat
end
section
namespace Go.Proofs.YtoldpdhhfmlckaaGreat
open Go.Ev
set_option maxRecDepth 20000
theorem qgk (k : Nat) (hk : 2000000 ≤ k) (a0 : Int) (a1z : Bool) (a1 : List (Int × Int × Int)) (a2z : Bool) (a2 : List Int) (a3z : Bool) (a3 : List Int) (a4z : Bool) (a4 : List Int) (a5 : Int) (a6 : Int) (a7 : Int) (a8 : Int) (a9 : Int) (a10 : Int) (a11 : Int) (a12 : Int) (a13 : Int) (a14 : Int) (a15 : Int) (a16 : Int) (a17 : Int) (a18 : Int) (a19 : Int) (a20 : Int) (h1 : (a1.length : Int) ≤ 1048576) (h2 : (a2.length : Int) ≤ 1048576) (h3 : (a3.length : Int) ≤ 1048576) (h4 : (a4.length : Int) ≤ 1048576) : go (k + 3) spec_l36Copy [(.agg [(.int .i64 (a0)), (.arr false (a1z) (.r3 (a1))), (.arr false (a2z) (.ints .i64 (a2))), (.arr false (a3z) (.ints .i64 (a3))), (.arr false (a4z) (.ints .i64 (a4))), (.int .i64 (a5)), (.int .i64 (a6)), (.int .i64 (a7)), (.int .i64 (a8)), (.int .i64 (a9)), (.int .i64 (a10)), (.int .i64 (a11)), (.int .i64 (a12)), (.int .i64 (a13)), (.int .i64 (a14)), (.int .i64 (a15)), (.int .i64 (a16)), (.int .i64 (a17)), (.int .i64 (a18)), (.int .i64 (a19)), (.int .i64 (a20))])] = some [.agg [.int .i64 (a0), .arr true false (.r3 (a1)), .arr true false (.ints .i64 (a2)), .arr true false (.ints .i64 (a3)), .arr true false (.ints .i64 (a4)), .int .i64 (a5), .int .i64 (a6), .int .i64 (a7), .int .i64 (a8), .int .i64 (a9), .int .i64 (a10), .int .i64 (a11), .int .i64 (a12), .int .i64 (a13), .int .i64 (a14), .int .i64 (a15), .int .i64 (a16), .int .i64 (a17), .int .i64 (a18), .int .i64 (a19), .int .i64 (a20)]] := by
  rw [qnq]
  simp (disch := omega) only [qf3, qa2, nth0, qgt, qzo, qgu, qt9, quz, qg5, qoq, qg7, qg8]
theorem qcn (k : Nat) (hk : 2000000 ≤ k) (a0 : Int) (a1 : List Cell) (a2 a3 a4 : List Int) (a5 a6 a7 a8 a9 a10 a11 a12 a13 a14 a15 a16 a17 a18 a19 a20 : Int) (h1 : (a1.length : Int) ≤ 1048576) (h2 : (a2.length : Int) ≤ 1048576) (h3 : (a3.length : Int) ≤ 1048576) (h4 : (a4.length : Int) ≤ 1048576) : go (k + 4) impl_copyWorld [.agg [.int .i64 (a0), .arr false false (.r3 (a1)), .arr false false (.ints .i64 (a2)), .arr false false (.ints .i64 (a3)), .arr false false (.ints .i64 (a4)), .int .i64 (a5), .int .i64 (a6), .int .i64 (a7), .int .i64 (a8), .int .i64 (a9), .int .i64 (a10), .int .i64 (a11), .int .i64 (a12), .int .i64 (a13), .int .i64 (a14), .int .i64 (a15), .int .i64 (a16), .int .i64 (a17), .int .i64 (a18), .int .i64 (a19), .int .i64 (a20)]] = some [.agg [.int .i64 (a0), .arr true false (.r3 (a1)), .arr true false (.ints .i64 (a2)), .arr true false (.ints .i64 (a3)), .arr true false (.ints .i64 (a4)), .int .i64 (a5), .int .i64 (a6), .int .i64 (a7), .int .i64 (a8), .int .i64 (a9), .int .i64 (a10), .int .i64 (a11), .int .i64 (a12), .int .i64 (a13), .int .i64 (a14), .int .i64 (a15), .int .i64 (a16), .int .i64 (a17), .int .i64 (a18), .int .i64 (a19), .int .i64 (a20)]] := by
  rw [qj6]
  simp (disch := omega) only [qcm, qa2, nth0, qgt, qzo, qgu, qt9, quz, qg5, qoq, qg7, qg8]
def qh1 (a0 : Int) (a1 : List Cell) (a2 a3 a4 : List Int) (a5 a6 a7 a8 a9 a10 a11 a12 a13 a14 a15 a16 a17 a18 a19 a20 pos c d : Int) : Bool :=
  q0d a0 a1 a2 a3 a4 a5 a6 a7 a8 a9 a10 a11 a12 a13 a14 a15 a16 a17 a18 a19 a20 && (inR c 1 10000 && (inR d 0 1000 && (decide (isum a2 + c ≤ 10000000) && decide (0 ≤ qq2 a0 a1 pos))))
theorem q0e {a0 : Int} {a1 : List Cell} {a2 a3 a4 : List Int} {a5 a6 a7 a8 a9 a10 a11 a12 a13 a14 a15 a16 a17 a18 a19 a20 : Int} (h : q0d a0 a1 a2 a3 a4 a5 a6 a7 a8 a9 a10 a11 a12 a13 a14 a15 a16 a17 a18 a19 a20 = true) :
    StF a0 a1 a2 a3 a4 ∧ (0 ≤ a15 ∧ a15 ≤ 1000000000000000) ∧ (0 ≤ a16 ∧ a16 ≤ 1000000000000000) ∧ (0 ≤ a17 ∧ a17 ≤ 1000000000000000) ∧ (0 ≤ a18 ∧ a18 ≤ 1000000000000000) := by
  simp only [q0d, qq6, Bool.and_eq_true, qoo] at h
  exact ⟨stF.1 h.1, h.2.2.2.1.1, h.2.2.2.1.2.1, h.2.2.2.1.2.2.1, h.2.2.2.1.2.2.2⟩
theorem qt5 {c d : Int} (h1 : 1 ≤ c) (h2 : c ≤ 10000) (h3 : 0 ≤ d) (h4 : d ≤ 1000) : 0 ≤ c * d ∧ c * d ≤ 10000000 := by
  refine ⟨Int.mul_nonneg (by omega) h3, ?_⟩
  calc c * d ≤ 10000 * d := Int.mul_le_mul_of_nonneg_right h2 h3
    _ ≤ 10000 * 1000 := Int.mul_le_mul_of_nonneg_left h4 (by omega)
theorem qe3 (k : Nat) (hk : 2000000 ≤ k) (a0 : Int) (a1z : Bool) (a1 : List (Int × Int × Int)) (a2z : Bool) (a2 : List Int) (a3z : Bool) (a3 : List Int) (a4z : Bool) (a4 : List Int) (a5 : Int) (a6 : Int) (a7 : Int) (a8 : Int) (a9 : Int) (a10 : Int) (a11 : Int) (a12 : Int) (a13 : Int) (a14 : Int) (a15 : Int) (a16 : Int) (a17 : Int) (a18 : Int) (a19 : Int) (a20 : Int) (b : Int) (c : Int) (d : Int) (h1 : (a1.length : Int) ≤ 1048576) (h2 : (a2.length : Int) ≤ 1048576) (h3 : (a3.length : Int) ≤ 1048576) (h4 : (a4.length : Int) ≤ 1048576) :
    go (k + 9) spec_Drop [(.agg [(.int .i64 (a0)), (.arr false (a1z) (.r3 (a1))), (.arr false (a2z) (.ints .i64 (a2))), (.arr false (a3z) (.ints .i64 (a3))), (.arr false (a4z) (.ints .i64 (a4))), (.int .i64 (a5)), (.int .i64 (a6)), (.int .i64 (a7)), (.int .i64 (a8)), (.int .i64 (a9)), (.int .i64 (a10)), (.int .i64 (a11)), (.int .i64 (a12)), (.int .i64 (a13)), (.int .i64 (a14)), (.int .i64 (a15)), (.int .i64 (a16)), (.int .i64 (a17)), (.int .i64 (a18)), (.int .i64 (a19)), (.int .i64 (a20))]), (.int .i64 (b)), (.int .i64 (c)), (.int .i64 (d))] = cond (qh1 a0 a1 a2 a3 a4 a5 a6 a7 a8 a9 a10 a11 a12 a13 a14 a15 a16 a17 a18 a19 a20 b c d) (some [.agg [.int .i64 (a0), .arr true false (.r3 (a1)), .arr true false (.ints .i64 (a2.set (qq2 a0 a1 b).toNat (a2.getD (qq2 a0 a1 b).toNat 0 + c))), .arr true false (.ints .i64 (a3.set (qq2 a0 a1 b).toNat (a3.getD (qq2 a0 a1 b).toNat 0 + c * d))), .arr true false (.ints .i64 (a4)), .int .i64 (a5), .int .i64 (a6), .int .i64 (a7), .int .i64 (a8), .int .i64 (a9), .int .i64 (a10), .int .i64 (a11), .int .i64 (a12), .int .i64 (a13), .int .i64 (a14), .int .i64 (a15 + c), .int .i64 (a16), .int .i64 (a17 + c * d), .int .i64 (a18), .int .i64 (a19), .int .i64 (a20)], .bool true]) (some [.agg [.int .i64 (a0), .arr true false (.r3 (a1)), .arr true false (.ints .i64 (a2)), .arr true false (.ints .i64 (a3)), .arr true false (.ints .i64 (a4)), .int .i64 (a5), .int .i64 (a6), .int .i64 (a7), .int .i64 (a8), .int .i64 (a9), .int .i64 (a10), .int .i64 (a11), .int .i64 (a12), .int .i64 (a13), .int .i64 (a14), .int .i64 (a15), .int .i64 (a16), .int .i64 (a17), .int .i64 (a18), .int .i64 (a19), .int .i64 (a20)], .bool false]) := by
  rw [ql6]
  simp (disch := omega) only [qgk, qfq, bit, qfu, nI, qa2, nth0, qzn, qgt, qzo, qgu, qt9, quz, qg5, qoq, qg7, qg8, qg9, qha, qhb, qhc, qhd, qgv, qgw, qgx, qgy, qgz, qg0, qg1, qg2, qg3, qg4, qg6]
  unfold qh1
  cases g1 : q0d a0 a1 a2 a3 a4 a5 a6 a7 a8 a9 a10 a11 a12 a13 a14 a15 a16 a17 a18 a19 a20
  · simp only [Bool.not_false, qhn, qhl, Bool.false_and]
  cases g2 : inR c 1 10000
  · simp only [Bool.not_false, Bool.not_true, qhn, qhl, Bool.false_and, Bool.true_and]
  cases g3 : inR d 0 1000
  · simp only [Bool.not_false, Bool.not_true, qhn, qhl, Bool.false_and, Bool.true_and]
  obtain ⟨F, b1, b2, b3, b4⟩ := q0e g1
  have := F.len; have := F.ml; have := F.tl; have := F.bl; have := F.rr; have sm := F.msum
  have i2 := qoo.1 g2; have i3 := qoo.1 g3
  have mm := qt5 i2.1 i2.2 i3.1 i3.2
  have lf := qq3 a0 a1 b
  simp only [Bool.not_true, qhl, Bool.true_and]
  rw [qf4 _ (by omega) _ _ (by omega) F.mmem]
  by_cases q : isum a2 + c ≤ 10000000
  case neg => simp (disch := omega) only [q0f, qa2, nth0, qzo, dT, qhn, dF, Bool.false_and, qhl]
  by_cases q2 : 0 ≤ qq2 a0 a1 b
  case neg => simp (disch := omega) only [qfa, q0f, qa2, nth0, qzo, dT, dF, Bool.and_true, qhl, qhn, Bool.and_false]
  have fa := F.at (qq2 a0 a1 b).toNat
  obtain ⟨i, hi⟩ : ∃ i : Nat, qq2 a0 a1 b = (i : Int) := ⟨(qq2 a0 a1 b).toNat, by omega⟩
  rw [hi] at fa
  rw [Int.toNat_natCast] at fa
  simp (disch := omega) only [qfa, hi, q0f, qmg, Int.add_zero, qa2, nth0, qgt, qzo, qgu, qg5, qg7, dF, dT, Bool.and_true, Int.toNat_natCast, qhn, qhl]
theorem qbl (k : Nat) (hk : 2000000 ≤ k) (a0 : Int) (a1 : List Cell) (a2 a3 a4 : List Int) (a5 a6 a7 a8 a9 a10 a11 a12 a13 a14 a15 a16 a17 a18 a19 a20 b c d : Int) (h1 : (a1.length : Int) ≤ 1048576) (h2 : (a2.length : Int) ≤ 1048576) (h3 : (a3.length : Int) ≤ 1048576) (h4 : (a4.length : Int) ≤ 1048576) :
    go (k + 10) impl_Drop [.agg [.int .i64 (a0), .arr false false (.r3 (a1)), .arr false false (.ints .i64 (a2)), .arr false false (.ints .i64 (a3)), .arr false false (.ints .i64 (a4)), .int .i64 (a5), .int .i64 (a6), .int .i64 (a7), .int .i64 (a8), .int .i64 (a9), .int .i64 (a10), .int .i64 (a11), .int .i64 (a12), .int .i64 (a13), .int .i64 (a14), .int .i64 (a15), .int .i64 (a16), .int .i64 (a17), .int .i64 (a18), .int .i64 (a19), .int .i64 (a20)], .int .i64 b, .int .i64 c, .int .i64 d] = cond (qh1 a0 a1 a2 a3 a4 a5 a6 a7 a8 a9 a10 a11 a12 a13 a14 a15 a16 a17 a18 a19 a20 b c d) (some [.agg [.int .i64 (a0), .arr true false (.r3 (a1)), .arr true false (.ints .i64 (a2.set (qq2 a0 a1 b).toNat (a2.getD (qq2 a0 a1 b).toNat 0 + c))), .arr true false (.ints .i64 (a3.set (qq2 a0 a1 b).toNat (a3.getD (qq2 a0 a1 b).toNat 0 + c * d))), .arr true false (.ints .i64 (a4)), .int .i64 (a5), .int .i64 (a6), .int .i64 (a7), .int .i64 (a8), .int .i64 (a9), .int .i64 (a10), .int .i64 (a11), .int .i64 (a12), .int .i64 (a13), .int .i64 (a14), .int .i64 (a15 + c), .int .i64 (a16), .int .i64 (a17 + c * d), .int .i64 (a18), .int .i64 (a19), .int .i64 (a20)], .bool true]) (some [.agg [.int .i64 (a0), .arr true false (.r3 (a1)), .arr true false (.ints .i64 (a2)), .arr true false (.ints .i64 (a3)), .arr true false (.ints .i64 (a4)), .int .i64 (a5), .int .i64 (a6), .int .i64 (a7), .int .i64 (a8), .int .i64 (a9), .int .i64 (a10), .int .i64 (a11), .int .i64 (a12), .int .i64 (a13), .int .i64 (a14), .int .i64 (a15), .int .i64 (a16), .int .i64 (a17), .int .i64 (a18), .int .i64 (a19), .int .i64 (a20)], .bool false]) := by
  rw [qif]
  simp (disch := omega) only [qcn, qbt, qcd, bit, qdk, nI, qa2, nth0, qzn, qzo, qgt, qgu, qt9, quz, qg5, qoq, qg7, qg8, qg9, qha, qhb, qhc, qhd, qgv, qgw, qgx, qgy, qgz, qg0, qg1, qg2, qg3, qg4, qg6]
  unfold qh1
  have lf := qq3 a0 a1 b
  cases g1 : q0d a0 a1 a2 a3 a4 a5 a6 a7 a8 a9 a10 a11 a12 a13 a14 a15 a16 a17 a18 a19 a20
  · simp only [Bool.not_false, qhn, qhl, Bool.false_and]
  by_cases q2 : 0 ≤ qq2 a0 a1 b
  case neg => simp (disch := omega) only [Bool.not_true, dT, dF, Bool.and_true, qhl, qhn, Bool.and_false]
  cases g2 : inR c 1 10000
  · simp (disch := omega) only [Bool.not_true, dF, Bool.not_false, dT, Bool.true_and, qhn, qhl, Bool.and_true, Bool.false_and, Bool.and_false]
  cases g3 : inR d 0 1000
  · simp (disch := omega) only [Bool.not_true, dF, Bool.not_false, dT, Bool.true_and, qhn, qhl, Bool.and_true, Bool.false_and, Bool.and_false]
  obtain ⟨F, b1, b2, b3, b4⟩ := q0e g1
  have := F.len; have := F.ml; have := F.tl; have := F.bl; have := F.rr; have sm := F.msum
  have i2 := qoo.1 g2; have i3 := qoo.1 g3
  have mm := qt5 i2.1 i2.2 i3.1 i3.2
  simp (disch := omega) only [Bool.not_true, dF, dT, Bool.and_true, q0f, qhn, qhl, Bool.true_and]
  rw [qdg _ (by omega) _ _ (by omega) F.mmem]
  by_cases q : isum a2 + c ≤ 10000000
  case neg => simp (disch := omega) only [qa2, nth0, qzo, q0f, dT, qhn, dF, qhl]
  have fa := F.at (qq2 a0 a1 b).toNat
  obtain ⟨i, hi⟩ : ∃ i : Nat, qq2 a0 a1 b = (i : Int) := ⟨(qq2 a0 a1 b).toNat, by omega⟩
  rw [hi] at fa
  rw [Int.toNat_natCast] at fa
  simp (disch := omega) only [hi, Int.toNat_natCast, q0f, qa2, nth0, qzo, dF, qhl, dT, qhn]
end Go.Proofs.YtoldpdhhfmlckaaGreat
end
section
namespace Go.Proofs.YtoldpdhhfmlckaaGreat
open Go.Ev
set_option maxRecDepth 20000
theorem qd6 (k : Nat) (hk : 2000000 ≤ k) (a0 : Int) (a1z : Bool) (a1 : List (Int × Int × Int)) (a2z : Bool) (a2 : List Int) (a3z : Bool) (a3 : List Int) (a4z : Bool) (a4 : List Int) (a5 : Int) (a6 : Int) (a7 : Int) (a8 : Int) (a9 : Int) (a10 : Int) (a11 : Int) (a12 : Int) (a13 : Int) (a14 : Int) (a15 : Int) (a16 : Int) (a17 : Int) (a18 : Int) (a19 : Int) (a20 : Int) (b : Int) (h1 : (a1.length : Int) ≤ 1048576) (h2 : (a2.length : Int) ≤ 1048576) (h3 : (a3.length : Int) ≤ 1048576) (h4 : (a4.length : Int) ≤ 1048576) (h0 : 0 ≤ b) (hb : b ≤ 8700000000000) :
    go (k + 4) laws_markWorld [(.agg [(.int .i64 (a0)), (.arr true (a1z) (.r3 (a1))), (.arr true (a2z) (.ints .i64 (a2))), (.arr true (a3z) (.ints .i64 (a3))), (.arr true (a4z) (.ints .i64 (a4))), (.int .i64 (a5)), (.int .i64 (a6)), (.int .i64 (a7)), (.int .i64 (a8)), (.int .i64 (a9)), (.int .i64 (a10)), (.int .i64 (a11)), (.int .i64 (a12)), (.int .i64 (a13)), (.int .i64 (a14)), (.int .i64 (a15)), (.int .i64 (a16)), (.int .i64 (a17)), (.int .i64 (a18)), (.int .i64 (a19)), (.int .i64 (a20))]), (.int .i64 (b))] = some [.int .i64 (b + 3 * a1.length + a2.length + a3.length + a4.length), .agg [.int .i64 a0, .arr true a1z (.r3 (qte b a1.length)), .arr true a2z (.ints .i64 (marks (b + 3 * a1.length) a2.length)), .arr true a3z (.ints .i64 (marks (b + 3 * a1.length + a2.length) a3.length)), .arr true a4z (.ints .i64 (marks (b + 3 * a1.length + a2.length + a3.length) a4.length)), .int .i64 a5, .int .i64 a6, .int .i64 a7, .int .i64 a8, .int .i64 a9, .int .i64 a10, .int .i64 a11, .int .i64 a12, .int .i64 a13, .int .i64 a14, .int .i64 a15, .int .i64 a16, .int .i64 a17, .int .i64 a18, .int .i64 a19, .int .i64 a20]] := by
  rw [qla]
  simp (disch := omega) only [qd5, qa2, nth0, qzo, nth1, qgu, quz, qg5, qoq, qg7, qg8]
theorem qd0 (k : Nat) (hk : 2000000 ≤ k) (a0 : Int) (z1 z2 z3 z4 : Bool) (L1 L2 L3 L4 : Nat) (a5 a6 a7 a8 a9 a10 a11 a12 a13 a14 a15 a16 a17 a18 a19 a20 : Int) (b : Int) (h1 : (L1 : Int) ≤ 1048576) (h2 : (L2 : Int) ≤ 1048576) (h3 : (L3 : Int) ≤ 1048576) (h4 : (L4 : Int) ≤ 1048576) (h0 : 0 ≤ b) (hb : b ≤ 8700000000000) :
    go (k + 4) laws_heldWorld [.agg [.int .i64 a0, .arr false z1 (.r3 (qte b L1)), .arr false z2 (.ints .i64 (marks (b + 3 * L1) L2)), .arr false z3 (.ints .i64 (marks (b + 3 * L1 + L2) L3)), .arr false z4 (.ints .i64 (marks (b + 3 * L1 + L2 + L3) L4)), .int .i64 a5, .int .i64 a6, .int .i64 a7, .int .i64 a8, .int .i64 a9, .int .i64 a10, .int .i64 a11, .int .i64 a12, .int .i64 a13, .int .i64 a14, .int .i64 a15, .int .i64 a16, .int .i64 a17, .int .i64 a18, .int .i64 a19, .int .i64 a20], .int .i64 b] = some [.int .i64 (b + 3 * L1 + L2 + L3 + L4)] := by
  rw [qk4]
  simp (disch := omega) only [qdz, qa2, nth0, qzo, dF, qhl]
end Go.Proofs.YtoldpdhhfmlckaaGreat
end
section
namespace Go.Proofs.YtoldpdhhfmlckaaGreat
open Go.Ev
def qw2 (x0 x1 : Int) (z2 : Bool) (l3 : List (Int × Int × Int)) (z4 : Bool) (l5 : List Int) (z6 : Bool) (l7 : List Int) (z8 : Bool) (l9 : List Int) (x10 x11 x12 x13 x14 x15 x16 x17 x18 x19 x20 x21 x22 x23 x24 x25 x26 : Int) (z27 : Bool) (l28 : List (Int × Int × Int)) (z29 : Bool) (l30 : List Int) (z31 : Bool) (l32 : List Int) (z33 : Bool) (l34 : List Int) (x35 x36 x37 x38 x39 x40 x41 x42 x43 x44 x45 x46 x47 x48 x49 x50 x51 : Int) : St := ⟨fill 49 [(1, (.int .i64 x0)), (4, (.ptr 4 0 0)), (6, (.ptr 9 0 0)), (7, (.int .i64 x1))], [], [(.arr true z2 (.r3 l3)), (.arr true z4 (.ints .i64 l5)), (.arr true z6 (.ints .i64 l7)), (.arr true z8 (.ints .i64 l9)), (.box true [(.int .i64 x10), (.sl 0 none), (.sl 1 none), (.sl 2 none), (.sl 3 none), (.int .i64 x11), (.int .i64 x12), (.int .i64 x13), (.int .i64 x14), (.int .i64 x15), (.int .i64 x16), (.int .i64 x17), (.int .i64 x18), (.int .i64 x19), (.int .i64 x20), (.int .i64 x21), (.int .i64 x22), (.int .i64 x23), (.int .i64 x24), (.int .i64 x25), (.int .i64 x26)]), (.arr true z27 (.r3 l28)), (.arr true z29 (.ints .i64 l30)), (.arr true z31 (.ints .i64 l32)), (.arr true z33 (.ints .i64 l34)), (.box true [(.int .i64 x35), (.sl 5 none), (.sl 6 none), (.sl 7 none), (.sl 8 none), (.int .i64 x36), (.int .i64 x37), (.int .i64 x38), (.int .i64 x39), (.int .i64 x40), (.int .i64 x41), (.int .i64 x42), (.int .i64 x43), (.int .i64 x44), (.int .i64 x45), (.int .i64 x46), (.int .i64 x47), (.int .i64 x48), (.int .i64 x49), (.int .i64 x50), (.int .i64 x51)])]⟩
theorem ql0 (k : Nat) (a0 : Int) (a1z : Bool) (a1 : List (Int × Int × Int)) (a2z : Bool) (a2 : List Int) (a3z : Bool) (a3 : List Int) (a4z : Bool) (a4 : List Int) (a5 a6 a7 a8 a9 a10 a11 a12 a13 a14 a15 a16 a17 a18 a19 a20 b : Int) : go (k + 1) spec_Advance [(.agg [(.int .i64 a0), (.arr false a1z (.r3 a1)), (.arr false a2z (.ints .i64 a2)), (.arr false a3z (.ints .i64 a3)), (.arr false a4z (.ints .i64 a4)), (.int .i64 a5), (.int .i64 a6), (.int .i64 a7), (.int .i64 a8), (.int .i64 a9), (.int .i64 a10), (.int .i64 a11), (.int .i64 a12), (.int .i64 a13), (.int .i64 a14), (.int .i64 a15), (.int .i64 a16), (.int .i64 a17), (.int .i64 a18), (.int .i64 a19), (.int .i64 a20)]), (.int .i64 b)] =
 (go k spec_l36Copy [(.agg [(.int .i64 a0), (.arr false a1z (.r3 a1)), (.arr false a2z (.ints .i64 a2)), (.arr false a3z (.ints .i64 a3)), (.arr false a4z (.ints .i64 a4)), (.int .i64 a5), (.int .i64 a6), (.int .i64 a7), (.int .i64 a8), (.int .i64 a9), (.int .i64 a10), (.int .i64 a11), (.int .i64 a12), (.int .i64 a13), (.int .i64 a14), (.int .i64 a15), (.int .i64 a16), (.int .i64 a17), (.int .i64 a18), (.int .i64 a19), (.int .i64 a20)])]).bind fun r0 =>
 (go k spec_WorldOk [(.agg [(.int .i64 a0), (.arr false a1z (.r3 a1)), (.arr false a2z (.ints .i64 a2)), (.arr false a3z (.ints .i64 a3)), (.arr false a4z (.ints .i64 a4)), (.int .i64 a5), (.int .i64 a6), (.int .i64 a7), (.int .i64 a8), (.int .i64 a9), (.int .i64 a10), (.int .i64 a11), (.int .i64 a12), (.int .i64 a13), (.int .i64 a14), (.int .i64 a15), (.int .i64 a16), (.int .i64 a17), (.int .i64 a18), (.int .i64 a19), (.int .i64 a20)])]).bind fun r1 =>
 cond (!bit (nth r1 0))
 (some [(.agg [(.int .i64 (D.toInt (D.cell 0 (nth r0 0)))), (.arr true (D.nil (D.cell 1 (nth r0 0))) (.r3 (D.r3 (D.cell 1 (nth r0 0))))), (.arr true (D.nil (D.cell 2 (nth r0 0))) (.ints .i64 (D.ints (D.cell 2 (nth r0 0))))), (.arr true (D.nil (D.cell 3 (nth r0 0))) (.ints .i64 (D.ints (D.cell 3 (nth r0 0))))), (.arr true (D.nil (D.cell 4 (nth r0 0))) (.ints .i64 (D.ints (D.cell 4 (nth r0 0))))), (.int .i64 (D.toInt (D.cell 5 (nth r0 0)))), (.int .i64 (D.toInt (D.cell 6 (nth r0 0)))), (.int .i64 (D.toInt (D.cell 7 (nth r0 0)))), (.int .i64 (D.toInt (D.cell 8 (nth r0 0)))), (.int .i64 (D.toInt (D.cell 9 (nth r0 0)))), (.int .i64 (D.toInt (D.cell 10 (nth r0 0)))), (.int .i64 (D.toInt (D.cell 11 (nth r0 0)))), (.int .i64 (D.toInt (D.cell (12 : Nat) (nth r0 0)))), (.int .i64 (D.toInt (D.cell (13 : Nat) (nth r0 0)))), (.int .i64 (D.toInt (D.cell (14 : Nat) (nth r0 0)))), (.int .i64 (D.toInt (D.cell (15 : Nat) (nth r0 0)))), (.int .i64 (D.toInt (D.cell (16 : Nat) (nth r0 0)))), (.int .i64 (D.toInt (D.cell (17 : Nat) (nth r0 0)))), (.int .i64 (D.toInt (D.cell (18 : Nat) (nth r0 0)))), (.int .i64 (D.toInt (D.cell (19 : Nat) (nth r0 0)))), (.int .i64 (D.toInt (D.cell (20 : Nat) (nth r0 0))))]), (.bool false)])
 ((go k spec_l01In [(.int .i64 b), (.int .i64 (0 : Int)), (.int .i64 ((100 : Int)))]).bind fun r2 =>
 cond (!bit (nth r2 0))
 (some [(.agg [(.int .i64 (D.toInt (D.cell 0 (nth r0 0)))), (.arr true (D.nil (D.cell 1 (nth r0 0))) (.r3 (D.r3 (D.cell 1 (nth r0 0))))), (.arr true (D.nil (D.cell 2 (nth r0 0))) (.ints .i64 (D.ints (D.cell 2 (nth r0 0))))), (.arr true (D.nil (D.cell 3 (nth r0 0))) (.ints .i64 (D.ints (D.cell 3 (nth r0 0))))), (.arr true (D.nil (D.cell 4 (nth r0 0))) (.ints .i64 (D.ints (D.cell 4 (nth r0 0))))), (.int .i64 (D.toInt (D.cell 5 (nth r0 0)))), (.int .i64 (D.toInt (D.cell 6 (nth r0 0)))), (.int .i64 (D.toInt (D.cell 7 (nth r0 0)))), (.int .i64 (D.toInt (D.cell 8 (nth r0 0)))), (.int .i64 (D.toInt (D.cell 9 (nth r0 0)))), (.int .i64 (D.toInt (D.cell 10 (nth r0 0)))), (.int .i64 (D.toInt (D.cell 11 (nth r0 0)))), (.int .i64 (D.toInt (D.cell (12 : Nat) (nth r0 0)))), (.int .i64 (D.toInt (D.cell (13 : Nat) (nth r0 0)))), (.int .i64 (D.toInt (D.cell (14 : Nat) (nth r0 0)))), (.int .i64 (D.toInt (D.cell (15 : Nat) (nth r0 0)))), (.int .i64 (D.toInt (D.cell (16 : Nat) (nth r0 0)))), (.int .i64 (D.toInt (D.cell (17 : Nat) (nth r0 0)))), (.int .i64 (D.toInt (D.cell (18 : Nat) (nth r0 0)))), (.int .i64 (D.toInt (D.cell (19 : Nat) (nth r0 0)))), (.int .i64 (D.toInt (D.cell (20 : Nat) (nth r0 0))))]), (.bool false)])
 (lp k spec_Advance [] [] 5 k (qw2 b (0 : Int) true [] true [] true [] true [] (0 : Int) (0 : Int) (0 : Int) (0 : Int) (0 : Int) (0 : Int) (0 : Int) (0 : Int) (0 : Int) (0 : Int) (0 : Int) (0 : Int) (0 : Int) (0 : Int) (0 : Int) (0 : Int) (0 : Int) (D.nil (D.cell 1 (nth r0 0))) (D.r3 (D.cell 1 (nth r0 0))) (D.nil (D.cell 2 (nth r0 0))) (D.ints (D.cell 2 (nth r0 0))) (D.nil (D.cell 3 (nth r0 0))) (D.ints (D.cell 3 (nth r0 0))) (D.nil (D.cell 4 (nth r0 0))) (D.ints (D.cell 4 (nth r0 0))) (D.toInt (D.cell 0 (nth r0 0))) (D.toInt (D.cell 5 (nth r0 0))) (D.toInt (D.cell 6 (nth r0 0))) (D.toInt (D.cell 7 (nth r0 0))) (D.toInt (D.cell 8 (nth r0 0))) (D.toInt (D.cell 9 (nth r0 0))) (D.toInt (D.cell 10 (nth r0 0))) (D.toInt (D.cell 11 (nth r0 0))) (D.toInt (D.cell (12 : Nat) (nth r0 0))) (D.toInt (D.cell (13 : Nat) (nth r0 0))) (D.toInt (D.cell (14 : Nat) (nth r0 0))) (D.toInt (D.cell (15 : Nat) (nth r0 0))) (D.toInt (D.cell (16 : Nat) (nth r0 0))) (D.toInt (D.cell (17 : Nat) (nth r0 0))) (D.toInt (D.cell (18 : Nat) (nth r0 0))) (D.toInt (D.cell (19 : Nat) (nth r0 0))) (D.toInt (D.cell (20 : Nat) (nth r0 0)))))) := by kernel_rfl
theorem qqa (k n : Nat) (fu : List (Nat × Nat)) (x0 x1 : Int) (z2 : Bool) (l3 : List (Int × Int × Int)) (z4 : Bool) (l5 : List Int) (z6 : Bool) (l7 : List Int) (z8 : Bool) (l9 : List Int) (x10 x11 x12 x13 x14 x15 x16 x17 x18 x19 x20 x21 x22 x23 x24 x25 x26 : Int) (z27 : Bool) (l28 : List (Int × Int × Int)) (z29 : Bool) (l30 : List Int) (z31 : Bool) (l32 : List Int) (z33 : Bool) (l34 : List Int) (x35 x36 x37 x38 x39 x40 x41 x42 x43 x44 x45 x46 x47 x48 x49 x50 x51 : Int) : lp k spec_Advance [] fu 5 (n + 1) (qw2 x0 x1 z2 l3 z4 l5 z6 l7 z8 l9 x10 x11 x12 x13 x14 x15 x16 x17 x18 x19 x20 x21 x22 x23 x24 x25 x26 z27 l28 z29 l30 z31 l32 z33 l34 x35 x36 x37 x38 x39 x40 x41 x42 x43 x44 x45 x46 x47 x48 x49 x50 x51) =
 cond (decide (x1 < x0))
 ((go k spec_l18Macro [(.agg [(.int .i64 x35), (.arr false z27 (.r3 l28)), (.arr false z29 (.ints .i64 l30)), (.arr false z31 (.ints .i64 l32)), (.arr false z33 (.ints .i64 l34))]), (.agg [(.int .i64 x36), (.int .i64 x37), (.int .i64 x38), (.int .i64 x39), (.int .i64 x40), (.int .i64 x41), (.int .i64 x42), (.int .i64 x43), (.int .i64 x44)]), (.int .i64 x45)]).bind fun r0 =>
 (go k spec_LedgerAdd [(.agg [(.int .i64 x46), (.int .i64 x47), (.int .i64 x48), (.int .i64 x49)]), (.agg [(.int .i64 (D.toInt (D.cell 0 (nth r0 1)))), (.int .i64 (D.toInt (D.cell 1 (nth r0 1)))), (.int .i64 (D.toInt (D.cell 2 (nth r0 1)))), (.int .i64 (D.toInt (D.cell 3 (nth r0 1))))])]).bind fun r1 =>
 lp k spec_Advance [] fu 5 n (qw2 x0 (IntKind.wrap .i64 (x1 + (1 : Int))) z2 l3 z4 l5 z6 l7 z8 l9 x10 x11 x12 x13 x14 x15 x16 x17 x18 x19 x20 x21 x22 x23 x24 x25 x26 (D.nil (D.cell 1 (nth r0 0))) (D.r3 (D.cell 1 (nth r0 0))) (D.nil (D.cell 2 (nth r0 0))) (D.ints (D.cell 2 (nth r0 0))) (D.nil (D.cell 3 (nth r0 0))) (D.ints (D.cell 3 (nth r0 0))) (D.nil (D.cell 4 (nth r0 0))) (D.ints (D.cell 4 (nth r0 0))) (D.toInt (D.cell 0 (nth r0 0))) x36 x37 x38 x39 x40 x41 x42 x43 x44 (IntKind.wrap .i64 (x45 + (1 : Int))) (D.toInt (D.cell 0 (nth r1 0))) (D.toInt (D.cell 1 (nth r1 0))) (D.toInt (D.cell 2 (nth r1 0))) (D.toInt (D.cell 3 (nth r1 0))) x50 x51))
 ((go k spec_l36Copy [(.agg [(.int .i64 x35), (.arr false z27 (.r3 l28)), (.arr false z29 (.ints .i64 l30)), (.arr false z31 (.ints .i64 l32)), (.arr false z33 (.ints .i64 l34)), (.int .i64 x36), (.int .i64 x37), (.int .i64 x38), (.int .i64 x39), (.int .i64 x40), (.int .i64 x41), (.int .i64 x42), (.int .i64 x43), (.int .i64 x44), (.int .i64 x45), (.int .i64 x46), (.int .i64 x47), (.int .i64 x48), (.int .i64 x49), (.int .i64 x50), (.int .i64 x51)])]).bind fun r2 =>
 some [(.agg [(.int .i64 (D.toInt (D.cell 0 (nth r2 0)))), (.arr true (D.nil (D.cell 1 (nth r2 0))) (.r3 (D.r3 (D.cell 1 (nth r2 0))))), (.arr true (D.nil (D.cell 2 (nth r2 0))) (.ints .i64 (D.ints (D.cell 2 (nth r2 0))))), (.arr true (D.nil (D.cell 3 (nth r2 0))) (.ints .i64 (D.ints (D.cell 3 (nth r2 0))))), (.arr true (D.nil (D.cell 4 (nth r2 0))) (.ints .i64 (D.ints (D.cell 4 (nth r2 0))))), (.int .i64 (D.toInt (D.cell 5 (nth r2 0)))), (.int .i64 (D.toInt (D.cell 6 (nth r2 0)))), (.int .i64 (D.toInt (D.cell 7 (nth r2 0)))), (.int .i64 (D.toInt (D.cell 8 (nth r2 0)))), (.int .i64 (D.toInt (D.cell 9 (nth r2 0)))), (.int .i64 (D.toInt (D.cell 10 (nth r2 0)))), (.int .i64 (D.toInt (D.cell 11 (nth r2 0)))), (.int .i64 (D.toInt (D.cell (12 : Nat) (nth r2 0)))), (.int .i64 (D.toInt (D.cell (13 : Nat) (nth r2 0)))), (.int .i64 (D.toInt (D.cell (14 : Nat) (nth r2 0)))), (.int .i64 (D.toInt (D.cell (15 : Nat) (nth r2 0)))), (.int .i64 (D.toInt (D.cell (16 : Nat) (nth r2 0)))), (.int .i64 (D.toInt (D.cell (17 : Nat) (nth r2 0)))), (.int .i64 (D.toInt (D.cell (18 : Nat) (nth r2 0)))), (.int .i64 (D.toInt (D.cell (19 : Nat) (nth r2 0)))), (.int .i64 (D.toInt (D.cell (20 : Nat) (nth r2 0))))]), (.bool true)]) := by kernel_rfl
def qvx (x0 x1 : Int) (z2 : Bool) (l3 : List (Int × Int × Int)) (z4 : Bool) (l5 : List Int) (z6 : Bool) (l7 : List Int) (z8 : Bool) (l9 : List Int) (x10 x11 x12 x13 x14 x15 x16 x17 x18 x19 x20 x21 x22 x23 x24 x25 x26 : Int) (z27 : Bool) (l28 : List (Int × Int × Int)) (z29 : Bool) (l30 : List Int) (z31 : Bool) (l32 : List Int) (z33 : Bool) (l34 : List Int) (x35 x36 x37 x38 x39 x40 x41 x42 x43 x44 x45 x46 x47 x48 x49 x50 x51 : Int) : St := ⟨fill 37 [(4, (.ptr 4 0 0)), (6, (.ptr 9 0 0)), (18, (.int .i64 x0)), (19, (.int .i64 x1))], [], [(.arr true z2 (.r3 l3)), (.arr true z4 (.ints .i64 l5)), (.arr true z6 (.ints .i64 l7)), (.arr true z8 (.ints .i64 l9)), (.box true [(.int .i64 x10), (.sl 0 none), (.sl 1 none), (.sl 2 none), (.sl 3 none), (.int .i64 x11), (.int .i64 x12), (.int .i64 x13), (.int .i64 x14), (.int .i64 x15), (.int .i64 x16), (.int .i64 x17), (.int .i64 x18), (.int .i64 x19), (.int .i64 x20), (.int .i64 x21), (.int .i64 x22), (.int .i64 x23), (.int .i64 x24), (.int .i64 x25), (.int .i64 x26)]), (.arr true z27 (.r3 l28)), (.arr true z29 (.ints .i64 l30)), (.arr true z31 (.ints .i64 l32)), (.arr true z33 (.ints .i64 l34)), (.box true [(.int .i64 x35), (.sl 5 none), (.sl 6 none), (.sl 7 none), (.sl 8 none), (.int .i64 x36), (.int .i64 x37), (.int .i64 x38), (.int .i64 x39), (.int .i64 x40), (.int .i64 x41), (.int .i64 x42), (.int .i64 x43), (.int .i64 x44), (.int .i64 x45), (.int .i64 x46), (.int .i64 x47), (.int .i64 x48), (.int .i64 x49), (.int .i64 x50), (.int .i64 x51)])]⟩
theorem qh7 (k : Nat) (a0 : Int) (a1z : Bool) (a1 : List (Int × Int × Int)) (a2z : Bool) (a2 : List Int) (a3z : Bool) (a3 : List Int) (a4z : Bool) (a4 : List Int) (a5 a6 a7 a8 a9 a10 a11 a12 a13 a14 a15 a16 a17 a18 a19 a20 b : Int) : go (k + 1) impl_Advance [(.agg [(.int .i64 a0), (.arr false a1z (.r3 a1)), (.arr false a2z (.ints .i64 a2)), (.arr false a3z (.ints .i64 a3)), (.arr false a4z (.ints .i64 a4)), (.int .i64 a5), (.int .i64 a6), (.int .i64 a7), (.int .i64 a8), (.int .i64 a9), (.int .i64 a10), (.int .i64 a11), (.int .i64 a12), (.int .i64 a13), (.int .i64 a14), (.int .i64 a15), (.int .i64 a16), (.int .i64 a17), (.int .i64 a18), (.int .i64 a19), (.int .i64 a20)]), (.int .i64 b)] =
 (go k impl_copyWorld [(.agg [(.int .i64 a0), (.arr false a1z (.r3 a1)), (.arr false a2z (.ints .i64 a2)), (.arr false a3z (.ints .i64 a3)), (.arr false a4z (.ints .i64 a4)), (.int .i64 a5), (.int .i64 a6), (.int .i64 a7), (.int .i64 a8), (.int .i64 a9), (.int .i64 a10), (.int .i64 a11), (.int .i64 a12), (.int .i64 a13), (.int .i64 a14), (.int .i64 a15), (.int .i64 a16), (.int .i64 a17), (.int .i64 a18), (.int .i64 a19), (.int .i64 a20)])]).bind fun r0 =>
 (go k impl_WorldOk [(.agg [(.int .i64 a0), (.arr false a1z (.r3 a1)), (.arr false a2z (.ints .i64 a2)), (.arr false a3z (.ints .i64 a3)), (.arr false a4z (.ints .i64 a4)), (.int .i64 a5), (.int .i64 a6), (.int .i64 a7), (.int .i64 a8), (.int .i64 a9), (.int .i64 a10), (.int .i64 a11), (.int .i64 a12), (.int .i64 a13), (.int .i64 a14), (.int .i64 a15), (.int .i64 a16), (.int .i64 a17), (.int .i64 a18), (.int .i64 a19), (.int .i64 a20)])]).bind fun r1 =>
 cond (!bit (nth r1 0))
 (some [(.agg [(.int .i64 (D.toInt (D.cell 0 (nth r0 0)))), (.arr true (D.nil (D.cell 1 (nth r0 0))) (.r3 (D.r3 (D.cell 1 (nth r0 0))))), (.arr true (D.nil (D.cell 2 (nth r0 0))) (.ints .i64 (D.ints (D.cell 2 (nth r0 0))))), (.arr true (D.nil (D.cell 3 (nth r0 0))) (.ints .i64 (D.ints (D.cell 3 (nth r0 0))))), (.arr true (D.nil (D.cell 4 (nth r0 0))) (.ints .i64 (D.ints (D.cell 4 (nth r0 0))))), (.int .i64 (D.toInt (D.cell 5 (nth r0 0)))), (.int .i64 (D.toInt (D.cell 6 (nth r0 0)))), (.int .i64 (D.toInt (D.cell 7 (nth r0 0)))), (.int .i64 (D.toInt (D.cell 8 (nth r0 0)))), (.int .i64 (D.toInt (D.cell 9 (nth r0 0)))), (.int .i64 (D.toInt (D.cell 10 (nth r0 0)))), (.int .i64 (D.toInt (D.cell 11 (nth r0 0)))), (.int .i64 (D.toInt (D.cell (12 : Nat) (nth r0 0)))), (.int .i64 (D.toInt (D.cell (13 : Nat) (nth r0 0)))), (.int .i64 (D.toInt (D.cell (14 : Nat) (nth r0 0)))), (.int .i64 (D.toInt (D.cell (15 : Nat) (nth r0 0)))), (.int .i64 (D.toInt (D.cell (16 : Nat) (nth r0 0)))), (.int .i64 (D.toInt (D.cell (17 : Nat) (nth r0 0)))), (.int .i64 (D.toInt (D.cell (18 : Nat) (nth r0 0)))), (.int .i64 (D.toInt (D.cell (19 : Nat) (nth r0 0)))), (.int .i64 (D.toInt (D.cell (20 : Nat) (nth r0 0))))]), (.bool false)])
 ((go k impl_within [(.int .i64 b), (.int .i64 (0 : Int)), (.int .i64 ((100 : Int)))]).bind fun r2 =>
 cond (!bit (nth r2 0))
 (some [(.agg [(.int .i64 (D.toInt (D.cell 0 (nth r0 0)))), (.arr true (D.nil (D.cell 1 (nth r0 0))) (.r3 (D.r3 (D.cell 1 (nth r0 0))))), (.arr true (D.nil (D.cell 2 (nth r0 0))) (.ints .i64 (D.ints (D.cell 2 (nth r0 0))))), (.arr true (D.nil (D.cell 3 (nth r0 0))) (.ints .i64 (D.ints (D.cell 3 (nth r0 0))))), (.arr true (D.nil (D.cell 4 (nth r0 0))) (.ints .i64 (D.ints (D.cell 4 (nth r0 0))))), (.int .i64 (D.toInt (D.cell 5 (nth r0 0)))), (.int .i64 (D.toInt (D.cell 6 (nth r0 0)))), (.int .i64 (D.toInt (D.cell 7 (nth r0 0)))), (.int .i64 (D.toInt (D.cell 8 (nth r0 0)))), (.int .i64 (D.toInt (D.cell 9 (nth r0 0)))), (.int .i64 (D.toInt (D.cell 10 (nth r0 0)))), (.int .i64 (D.toInt (D.cell 11 (nth r0 0)))), (.int .i64 (D.toInt (D.cell (12 : Nat) (nth r0 0)))), (.int .i64 (D.toInt (D.cell (13 : Nat) (nth r0 0)))), (.int .i64 (D.toInt (D.cell (14 : Nat) (nth r0 0)))), (.int .i64 (D.toInt (D.cell (15 : Nat) (nth r0 0)))), (.int .i64 (D.toInt (D.cell (16 : Nat) (nth r0 0)))), (.int .i64 (D.toInt (D.cell (17 : Nat) (nth r0 0)))), (.int .i64 (D.toInt (D.cell (18 : Nat) (nth r0 0)))), (.int .i64 (D.toInt (D.cell (19 : Nat) (nth r0 0)))), (.int .i64 (D.toInt (D.cell (20 : Nat) (nth r0 0))))]), (.bool false)])
 (lp k impl_Advance [] [] 5 k (qvx b (0 : Int) true [] true [] true [] true [] (0 : Int) (0 : Int) (0 : Int) (0 : Int) (0 : Int) (0 : Int) (0 : Int) (0 : Int) (0 : Int) (0 : Int) (0 : Int) (0 : Int) (0 : Int) (0 : Int) (0 : Int) (0 : Int) (0 : Int) (D.nil (D.cell 1 (nth r0 0))) (D.r3 (D.cell 1 (nth r0 0))) (D.nil (D.cell 2 (nth r0 0))) (D.ints (D.cell 2 (nth r0 0))) (D.nil (D.cell 3 (nth r0 0))) (D.ints (D.cell 3 (nth r0 0))) (D.nil (D.cell 4 (nth r0 0))) (D.ints (D.cell 4 (nth r0 0))) (D.toInt (D.cell 0 (nth r0 0))) (D.toInt (D.cell 5 (nth r0 0))) (D.toInt (D.cell 6 (nth r0 0))) (D.toInt (D.cell 7 (nth r0 0))) (D.toInt (D.cell 8 (nth r0 0))) (D.toInt (D.cell 9 (nth r0 0))) (D.toInt (D.cell 10 (nth r0 0))) (D.toInt (D.cell 11 (nth r0 0))) (D.toInt (D.cell (12 : Nat) (nth r0 0))) (D.toInt (D.cell (13 : Nat) (nth r0 0))) (D.toInt (D.cell (14 : Nat) (nth r0 0))) (D.toInt (D.cell (15 : Nat) (nth r0 0))) (D.toInt (D.cell (16 : Nat) (nth r0 0))) (D.toInt (D.cell (17 : Nat) (nth r0 0))) (D.toInt (D.cell (18 : Nat) (nth r0 0))) (D.toInt (D.cell (19 : Nat) (nth r0 0))) (D.toInt (D.cell (20 : Nat) (nth r0 0)))))) := by kernel_rfl
theorem qo5 (k n : Nat) (fu : List (Nat × Nat)) (x0 x1 : Int) (z2 : Bool) (l3 : List (Int × Int × Int)) (z4 : Bool) (l5 : List Int) (z6 : Bool) (l7 : List Int) (z8 : Bool) (l9 : List Int) (x10 x11 x12 x13 x14 x15 x16 x17 x18 x19 x20 x21 x22 x23 x24 x25 x26 : Int) (z27 : Bool) (l28 : List (Int × Int × Int)) (z29 : Bool) (l30 : List Int) (z31 : Bool) (l32 : List Int) (z33 : Bool) (l34 : List Int) (x35 x36 x37 x38 x39 x40 x41 x42 x43 x44 x45 x46 x47 x48 x49 x50 x51 : Int) : lp k impl_Advance [] fu 5 (n + 1) (qvx x0 x1 z2 l3 z4 l5 z6 l7 z8 l9 x10 x11 x12 x13 x14 x15 x16 x17 x18 x19 x20 x21 x22 x23 x24 x25 x26 z27 l28 z29 l30 z31 l32 z33 l34 x35 x36 x37 x38 x39 x40 x41 x42 x43 x44 x45 x46 x47 x48 x49 x50 x51) =
 cond (decide (x1 < x0))
 ((go k impl_State_runMacro [(.ptr true [(.int .i64 x35), (.arr true z27 (.r3 l28)), (.arr true z29 (.ints .i64 l30)), (.arr true z31 (.ints .i64 l32)), (.arr true z33 (.ints .i64 l34))]), (.agg [(.int .i64 x36), (.int .i64 x37), (.int .i64 x38), (.int .i64 x39), (.int .i64 x40), (.int .i64 x41), (.int .i64 x42), (.int .i64 x43), (.int .i64 x44)]), (.int .i64 x45)]).bind fun r0 =>
 (go k impl_LedgerAdd [(.agg [(.int .i64 x46), (.int .i64 x47), (.int .i64 x48), (.int .i64 x49)]), (.agg [(.int .i64 (D.toInt (D.cell 0 (nth r0 0)))), (.int .i64 (D.toInt (D.cell 1 (nth r0 0)))), (.int .i64 (D.toInt (D.cell 2 (nth r0 0)))), (.int .i64 (D.toInt (D.cell 3 (nth r0 0))))])]).bind fun r1 =>
 lp k impl_Advance [] fu 5 n (qvx x0 (IntKind.wrap .i64 (x1 + (1 : Int))) z2 l3 z4 l5 z6 l7 z8 l9 x10 x11 x12 x13 x14 x15 x16 x17 x18 x19 x20 x21 x22 x23 x24 x25 x26 (D.nil (D.cell 1 (nth r0 1))) (D.r3 (D.cell 1 (nth r0 1))) (D.nil (D.cell 2 (nth r0 1))) (D.ints (D.cell 2 (nth r0 1))) (D.nil (D.cell 3 (nth r0 1))) (D.ints (D.cell 3 (nth r0 1))) (D.nil (D.cell 4 (nth r0 1))) (D.ints (D.cell 4 (nth r0 1))) (D.toInt (D.cell 0 (nth r0 1))) x36 x37 x38 x39 x40 x41 x42 x43 x44 (IntKind.wrap .i64 (x45 + (1 : Int))) (D.toInt (D.cell 0 (nth r1 0))) (D.toInt (D.cell 1 (nth r1 0))) (D.toInt (D.cell 2 (nth r1 0))) (D.toInt (D.cell 3 (nth r1 0))) x50 x51))
 (some [(.agg [(.int .i64 x35), (.arr true z27 (.r3 l28)), (.arr true z29 (.ints .i64 l30)), (.arr true z31 (.ints .i64 l32)), (.arr true z33 (.ints .i64 l34)), (.int .i64 x36), (.int .i64 x37), (.int .i64 x38), (.int .i64 x39), (.int .i64 x40), (.int .i64 x41), (.int .i64 x42), (.int .i64 x43), (.int .i64 x44), (.int .i64 x45), (.int .i64 x46), (.int .i64 x47), (.int .i64 x48), (.int .i64 x49), (.int .i64 x50), (.int .i64 x51)]), (.bool true)]) := by kernel_rfl

end Go.Proofs.YtoldpdhhfmlckaaGreat
end
section
namespace Go.Proofs.YtoldpdhhfmlckaaGreat
open Go.Ev
set_option maxRecDepth 20000
structure Wd where
  r : Int
  s : S3
  b : List Int
  p : Pl
  k : Int
  ld : Ld
  f : Int
  g : Int
abbrev wdR (w : Wd) : D := .agg [.int .i64 (w.r), .arr false false (.r3 (w.s.1)), .arr false false (.ints .i64 (w.s.2.1)), .arr false false (.ints .i64 (w.s.2.2)), .arr false false (.ints .i64 (w.b)), .int .i64 (w.p.bi), .int .i64 (w.p.bs), .int .i64 (w.p.bo), .int .i64 (w.p.rain), .int .i64 (w.p.loss), .int .i64 (w.p.dec), .int .i64 (w.p.high), .int .i64 (w.p.low), .int .i64 (w.p.every), .int .i64 (w.k), .int .i64 (w.ld.mi), .int .i64 (w.ld.mo), .int .i64 (w.ld.ti), .int .i64 (w.ld.ou), .int .i64 (w.f), .int .i64 (w.g)]
abbrev wdO (w : Wd) : D := .agg [.int .i64 (w.r), .arr true false (.r3 (w.s.1)), .arr true false (.ints .i64 (w.s.2.1)), .arr true false (.ints .i64 (w.s.2.2)), .arr true false (.ints .i64 (w.b)), .int .i64 (w.p.bi), .int .i64 (w.p.bs), .int .i64 (w.p.bo), .int .i64 (w.p.rain), .int .i64 (w.p.loss), .int .i64 (w.p.dec), .int .i64 (w.p.high), .int .i64 (w.p.low), .int .i64 (w.p.every), .int .i64 (w.k), .int .i64 (w.ld.mi), .int .i64 (w.ld.mo), .int .i64 (w.ld.ti), .int .i64 (w.ld.ou), .int .i64 (w.f), .int .i64 (w.g)]
def wdOk (w : Wd) : Bool := q0d w.r w.s.1 w.s.2.1 w.s.2.2 w.b w.p.bi w.p.bs w.p.bo w.p.rain w.p.loss w.p.dec w.p.high w.p.low w.p.every w.k w.ld.mi w.ld.mo w.ld.ti w.ld.ou w.f w.g
structure Sml (w : Wd) : Prop where
  h1 : (w.s.1.length : Int) ≤ 1048576
  h2 : (w.s.2.1.length : Int) ≤ 1048576
  h3 : (w.s.2.2.length : Int) ≤ 1048576
  h4 : (w.b.length : Int) ≤ 1048576
structure LdB (l : Ld) (B : Int) : Prop where
  mi : 0 ≤ l.mi ∧ l.mi ≤ B
  mo : 0 ≤ l.mo ∧ l.mo ≤ B
  ti : 0 ≤ l.ti ∧ l.ti ≤ B
  ou : 0 ≤ l.ou ∧ l.ou ≤ B
theorem qus {p : Pl} (h : quu p.bi p.bs p.bo p.rain p.loss p.dec p.high p.low p.every = true) : PlF p := by
  simp only [quu, qa7, Bool.and_eq_true, qoo] at h
  exact ⟨by omega, by omega, by omega, by omega, by omega, by omega, by omega, by omega, by omega⟩
structure WdF (w : Wd) : Prop where
  F : StF w.r w.s.1 w.s.2.1 w.s.2.2 w.b
  P : PlF w.p
  k : 0 ≤ w.k ∧ w.k ≤ 100000
  L : LdB w.ld 1000000000000000
  f : isum w.s.2.1 - w.ld.mi + w.ld.mo = w.f
  g : isum w.s.2.2 - w.ld.ti + w.ld.ou = w.g
theorem wdF {w : Wd} (h : wdOk w = true) : WdF w := by
  unfold wdOk q0d qq6 at h
  simp only [Bool.and_eq_true, decide_eq_true_eq] at h
  obtain ⟨h1, h2, h3, ⟨h4, h5, h6, h7⟩, h8, h9⟩ := h
  exact ⟨stF.1 h1, qus h2, qoo.1 h3, ⟨qoo.1 h4, qoo.1 h5, qoo.1 h6, qoo.1 h7⟩, h8, h9⟩
theorem StF.sml {w : Wd} (F : StF w.r w.s.1 w.s.2.1 w.s.2.2 w.b) : Sml w := by
  have := F.len; have := F.ml; have := F.tl; have := F.bl; have := F.rr
  exact ⟨by omega, by omega, by omega, by omega⟩
def Wd.next (w : Wd) : Wd := { w with s := (mac w.p w.b w.k w.s).1, k := w.k + 1, ld := w.ld.add (mac w.p w.b w.k w.s).2 }
def advN : Nat → Wd → Wd
  | 0, w => w
  | n + 1, w => advN n w.next
structure Adv (w : Wd) (i : Nat) : Prop where
  F : StF w.r w.s.1 w.s.2.1 w.s.2.2 w.b
  P : PlF w.p
  k : 0 ≤ w.k ∧ w.k ≤ 100000 + i
  L : LdB w.ld (1000000000000000 + 40000000000 * i)
theorem Adv.next {w : Wd} {i : Nat} (A : Adv w i) : Adv w.next (i + 1) := by
  have h := qtd (s := w.s) A.F A.P w.k
  have a := A.k; have l := A.L; have q := h.2
  have l1 := l.mi; have l2 := l.mo; have l3 := l.ti; have l4 := l.ou
  have q1 := q.mi; have q2 := q.mo; have q3 := q.ti; have q4 := q.ou
  refine ⟨h.1, A.P, ?_, ⟨?_, ?_, ?_, ?_⟩⟩
  · show 0 ≤ w.k + 1 ∧ w.k + 1 ≤ _; omega
  · show 0 ≤ w.ld.mi + _ ∧ w.ld.mi + _ ≤ _; omega
  · show 0 ≤ w.ld.mo + _ ∧ w.ld.mo + _ ≤ _; omega
  · show 0 ≤ w.ld.ti + _ ∧ w.ld.ti + _ ≤ _; omega
  · show 0 ≤ w.ld.ou + _ ∧ w.ld.ou + _ ≤ _; omega
theorem qau : ∀ (n : Nat) (w : Wd) (i : Nat), Adv w i → Adv (advN n w) (i + n)
  | 0, w, i, A => A
  | n + 1, w, i, A => by have := qau n w.next (i + 1) A.next; rw [show i + 1 + n = i + (n + 1) by omega] at this; exact this
theorem qco (k : Nat) (hk : 2000000 ≤ k) (w : Wd) (h : Sml w) : go (k + 4) impl_copyWorld [wdR w] = some [wdO w] := qcn k hk _ _ _ _ _ _ _ _ _ _ _ _ _ _ _ _ _ _ _ _ _ h.h1 h.h2 h.h3 h.h4
theorem qgl (k : Nat) (hk : 2000000 ≤ k) (w : Wd) (h : Sml w) : go (k + 3) spec_l36Copy [wdR w] = some [wdO w] := qgk k hk _ _ _ _ _ _ _ _ _ _ _ _ _ _ _ _ _ _ _ _ _ _ _ _ _ h.h1 h.h2 h.h3 h.h4
theorem qce (k : Nat) (hk : 2000000 ≤ k) (w : Wd) (h : Sml w) : go (k + 9) impl_WorldOk [wdR w] = some [.bool (wdOk w)] := qcd k hk _ _ _ _ _ _ _ _ _ _ _ _ _ _ _ _ _ _ _ _ _ _ _ _ _ h.h1 h.h4
theorem qfr (k : Nat) (hk : 2000000 ≤ k) (w : Wd) (h : Sml w) : go (k + 8) spec_WorldOk [wdR w] = some [.bool (wdOk w)] := qfq k hk _ _ _ _ _ _ _ _ _ _ _ _ _ _ _ _ _ _ _ _ _ _ _ _ _ h.h1 h.h4
set_option maxHeartbeats 1000000 in
theorem qrm (k : Nat) (hk : 2000000 ≤ k) (fu : List (Nat × Nat)) (c : Int) (hc : c ≤ 100) (z2 : Bool) (l3 : List Cell) (z4 : Bool) (l5 : List Int) (z6 : Bool) (l7 : List Int) (z8 : Bool) (l9 : List Int) (x10 x11 x12 x13 x14 x15 x16 x17 x18 x19 x20 x21 x22 x23 x24 x25 x26 : Int) : ∀ (N n i : Nat) (w : Wd), (i : Int) + n = c → n < N → Adv w i →
    lp (k + 11) impl_Advance [] fu 5 (N) (qvx c (i : Int) z2 l3 z4 l5 z6 l7 z8 l9 x10 x11 x12 x13 x14 x15 x16 x17 x18 x19 x20 x21 x22 x23 x24 x25 x26 false w.s.1 false w.s.2.1 false w.s.2.2 false w.b w.r w.p.bi w.p.bs w.p.bo w.p.rain w.p.loss w.p.dec w.p.high w.p.low w.p.every w.k w.ld.mi w.ld.mo w.ld.ti w.ld.ou w.f w.g) = some [wdO (advN n w), .bool true]
  | 0, n, i, w, hi, hN, A => by omega
  | N + 1, 0, i, w, hi, hN, A => by
    rw [qo5]
    simp (disch := omega) only [dF, qgr, q0f, qhl]; rfl
  | N + 1, n + 1, i, w, hi, hN, A => by
    rw [qo5]
    have a := A.k; have l := A.L
    have h := (qtd (s := w.s) A.F A.P w.k).2
    have l1 := l.mi; have l2 := l.mo; have l3' := l.ti; have l4 := l.ou
    have q1 := h.mi; have q2 := h.mo; have q3 := h.ti; have q4 := h.ou
    have eM := qdc k (by omega) w.r w.s w.b A.F w.p A.P w.k (by omega)
    have eL := qbv (k + 10) w.ld (mac w.p w.b w.k w.s).2 (by omega) (by omega) (by omega) (by omega)
    have IH := qrm k hk fu c hc z2 l3 z4 l5 z6 l7 z8 l9 x10 x11 x12 x13 x14 x15 x16 x17 x18 x19 x20 x21 x22 x23 x24 x25 x26 N n (i + 1) w.next (by omega) (by omega) A.next
    rw [show advN (n + 1) w = advN n w.next from rfl]
    simp only [Wd.next] at IH ⊢
    simp (disch := omega) only [dT, eM, qgr, q0f, qa2, nth0, qgt, qzo, qgu, qg5, qg7, eL, nth1, qu5, qt9, quz, qu6, qoq, qu7, qu8, qu4, IH, qhn]
set_option maxHeartbeats 1000000 in
theorem qsn (k : Nat) (hk : 2000000 ≤ k) (fu : List (Nat × Nat)) (c : Int) (hc : c ≤ 100) (z2 : Bool) (l3 : List Cell) (z4 : Bool) (l5 : List Int) (z6 : Bool) (l7 : List Int) (z8 : Bool) (l9 : List Int) (x10 x11 x12 x13 x14 x15 x16 x17 x18 x19 x20 x21 x22 x23 x24 x25 x26 : Int) : ∀ (N n i : Nat) (w : Wd), (i : Int) + n = c → n < N → Adv w i →
    lp (k + 8) spec_Advance [] fu 5 (N) (qw2 c (i : Int) z2 l3 z4 l5 z6 l7 z8 l9 x10 x11 x12 x13 x14 x15 x16 x17 x18 x19 x20 x21 x22 x23 x24 x25 x26 false w.s.1 false w.s.2.1 false w.s.2.2 false w.b w.r w.p.bi w.p.bs w.p.bo w.p.rain w.p.loss w.p.dec w.p.high w.p.low w.p.every w.k w.ld.mi w.ld.mo w.ld.ti w.ld.ou w.f w.g) = some [wdO (advN n w), .bool true]
  | 0, n, i, w, hi, hN, A => by omega
  | N + 1, 0, i, w, hi, hN, A => by
    rw [qqa]
    have eC := qgl (k + 5) (by omega) w A.F.sml
    simp (disch := omega) only [dF, qgr, q0f, eC, qa2, nth0, qgt, qzo, qgu, qt9, quz, qg5, qoq, qg7, qg8, qg9, qha, qhb, qhc, qhd, qgv, qgw, qgx, qgy, qgz, qg0, qg1, qg2, qg3, qg4, qg6, qhl]
    rfl
  | N + 1, n + 1, i, w, hi, hN, A => by
    rw [qqa]
    have a := A.k; have l := A.L
    have h := (qtd (s := w.s) A.F A.P w.k).2
    have l1 := l.mi; have l2 := l.mo; have l3' := l.ti; have l4 := l.ou
    have q1 := h.mi; have q2 := h.mo; have q3 := h.ti; have q4 := h.ou
    have eM := qgg k (by omega) w.r w.s w.b A.F w.p A.P w.k (by omega)
    have eL := qfd (k + 7) w.ld (mac w.p w.b w.k w.s).2 (by omega) (by omega) (by omega) (by omega)
    have IH := qsn k hk fu c hc z2 l3 z4 l5 z6 l7 z8 l9 x10 x11 x12 x13 x14 x15 x16 x17 x18 x19 x20 x21 x22 x23 x24 x25 x26 N n (i + 1) w.next (by omega) (by omega) A.next
    rw [show advN (n + 1) w = advN n w.next from rfl]
    simp only [Wd.next] at IH ⊢
    simp (disch := omega) only [dT, eM, qgr, q0f, qa2, nth1, qgt, qzo, qgu, qg5, qg7, eL, nth0, qt9, quz, qoq, qg8, IH, qhn]
def qav (w : Wd) (n : Int) : Bool := wdOk w && inR n 0 100
def adv (w : Wd) (n : Int) : Wd := cond (qav w n) (advN n.toNat w) w
theorem WdF.adv {w : Wd} (h : WdF w) : Adv w 0 := ⟨h.F, h.P, by have := h.k; omega, ⟨by have := h.L.mi; omega, by have := h.L.mo; omega, by have := h.L.ti; omega, by have := h.L.ou; omega⟩⟩
theorem qbd (k : Nat) (hk : 2000000 ≤ k) (w : Wd) (n : Int) (h : Sml w) : go (k + 12) impl_Advance [wdR w, .int .i64 n] = some [wdO (adv w n), .bool (qav w n)] := by
  rw [qh7]
  have eC := qco (k + 7) (by omega) w h
  have eO := qce (k + 2) (by omega) w h
  unfold adv qav
  cases g : wdOk w
  · rw [g] at eO
    simp (disch := omega) only [eC, eO, bit, qa2, nth0, qzn, Bool.not_false, qhn, qgt, qzo, qgu, qt9, quz, qg5, qoq, qg7, qg8, qg9, qha, qhb, qhc, qhd, qgv, qgw, qgx, qgy, qgz, qg0, qg1, qg2, qg3, qg4, qg6, Bool.false_and, qhl]
  rw [g] at eO
  cases g2 : inR n 0 100
  · simp (disch := omega) only [eC, eO, bit, qdk, g2, qa2, nth0, qzn, Bool.not_false, qhn, Bool.not_true, qhl, qgt, qzo, qgu, qt9, quz, qg5, qoq, qg7, qg8, qg9, qha, qhb, qhc, qhd, qgv, qgw, qgx, qgy, qgz, qg0, qg1, qg2, qg3, qg4, qg6, Bool.and_false]
  have b := qoo.1 g2
  have e := qrm k hk [] n b.2 true [] true [] true [] true [] 0 0 0 0 0 0 0 0 0 0 0 0 0 0 0 0 0 (k + 11) n.toNat 0 w (by omega) (by omega) (wdF g).adv
  rw [show ((0 : Nat) : Int) = 0 from rfl] at e
  simp (disch := omega) only [eC, eO, bit, qdk, g2, qa2, nth0, qzn, Bool.not_true, qhl, qgu, qt9, quz, qg5, qoq, qg7, qg8, qgt, qzo, qg9, qha, qhb, qhc, qhd, qgv, qgw, qgx, qgy, qgz, qg0, qg1, qg2, qg3, qg4, qg6, Bool.and_true, qhn]
  exact e
theorem qex (k : Nat) (hk : 2000000 ≤ k) (w : Wd) (n : Int) (h : Sml w) : go (k + 9) spec_Advance [wdR w, .int .i64 n] = some [wdO (adv w n), .bool (qav w n)] := by
  rw [ql0]
  have eC := qgl (k + 5) (by omega) w h
  have eO := qfr k (by omega) w h
  unfold adv qav
  cases g : wdOk w
  · rw [g] at eO
    simp (disch := omega) only [eC, eO, bit, qa2, nth0, qzn, Bool.not_false, qhn, qgt, qzo, qgu, qt9, quz, qg5, qoq, qg7, qg8, qg9, qha, qhb, qhc, qhd, qgv, qgw, qgx, qgy, qgz, qg0, qg1, qg2, qg3, qg4, qg6, Bool.false_and, qhl]
  rw [g] at eO
  cases g2 : inR n 0 100
  · simp (disch := omega) only [eC, eO, bit, qfu, g2, qa2, nth0, qzn, Bool.not_false, qhn, Bool.not_true, qhl, qgt, qzo, qgu, qt9, quz, qg5, qoq, qg7, qg8, qg9, qha, qhb, qhc, qhd, qgv, qgw, qgx, qgy, qgz, qg0, qg1, qg2, qg3, qg4, qg6, Bool.and_false]
  have b := qoo.1 g2
  have e := qsn k hk [] n b.2 true [] true [] true [] true [] 0 0 0 0 0 0 0 0 0 0 0 0 0 0 0 0 0 (k + 8) n.toNat 0 w (by omega) (by omega) (wdF g).adv
  rw [show ((0 : Nat) : Int) = 0 from rfl] at e
  simp (disch := omega) only [eC, eO, bit, qfu, g2, qa2, nth0, qzn, Bool.not_true, qhl, qgu, qt9, quz, qg5, qoq, qg7, qg8, qgt, qzo, qg9, qha, qhb, qhc, qhd, qgv, qgw, qgx, qgy, qgz, qg0, qg1, qg2, qg3, qg4, qg6, Bool.and_true, qhn]
  exact e
end Go.Proofs.YtoldpdhhfmlckaaGreat
end
section
namespace Go.Proofs.YtoldpdhhfmlckaaGreat
open Go.Ev
theorem qlz (k : Nat) (a0 a1 a2 a3 : Int) : go (k + 1) spec_ActOk [(.agg [(.int .i64 a0), (.int .i64 a1), (.int .i64 a2), (.int .i64 a3)])] =
 (go k spec_l37Plain [(.agg [(.int .i64 a0), (.int .i64 a1), (.int .i64 a2), (.int .i64 a3)])]).bind fun r0 =>
 cond (!(decide (a0 = D.toInt (D.cell 0 (nth r0 0))) && (decide (a1 = D.toInt (D.cell 1 (nth r0 0))) && (decide (a2 = D.toInt (D.cell 2 (nth r0 0))) && (decide (a3 = D.toInt (D.cell 3 (nth r0 0))) && true)))))
 (some [(.bool false)])
 (cond (decide (a0 = (1 : Int)))
 ((go k spec_l01In [(.int .i64 a1), (.int .i64 ((1 : Int))), (.int .i64 ((20 : Int)))]).bind fun r1 =>
 some [(.bool (bit (nth r1 0)))])
 (cond (decide (a0 = (2 : Int)))
 (cond (decide (a0 = (2 : Int)))
 ((go k spec_l01In [(.int .i64 a1), (.int .i64 (0 : Int)), (.int .i64 ((10000 : Int)))]).bind fun r2 =>
 some [(.bool (bit (nth r2 0)))])
 (cond (decide (a0 = (4 : Int)))
 ((go k spec_BorderOk [(.agg [(.int .i64 a1), (.int .i64 a2), (.int .i64 a3)])]).bind fun r3 =>
 some [(.bool (bit (nth r3 0)))])
 (cond (decide (a0 = (5 : Int)))
 ((go k spec_l01In [(.int .i64 a1), (.int .i64 (0 : Int)), (.int .i64 ((1000 : Int)))]).bind fun r4 =>
 some [(.bool (bit (nth r4 0)))])
 (cond (decide (a0 = (6 : Int)))
 ((go k spec_l01In [(.int .i64 a1), (.int .i64 (0 : Int)), (.int .i64 ((1000000 : Int)))]).bind fun r5 =>
 cond (bit (nth r5 0))
 ((go k spec_l01In [(.int .i64 a2), (.int .i64 (0 : Int)), (.int .i64 ((1000000 : Int)))]).bind fun r6 =>
 cond (bit (nth r6 0))
 ((go k spec_l01In [(.int .i64 a3), (.int .i64 (0 : Int)), (.int .i64 ((100 : Int)))]).bind fun r7 =>
 some [(.bool (bit (nth r7 0)))])
 (some [(.bool false)]))
 (some [(.bool false)]))
 (cond (decide (a0 = (7 : Int)))
 ((go k spec_l01In [(.int .i64 a1), (.int .i64 (0 : Int)), (.int .i64 ((127 : Int)))]).bind fun r8 =>
 cond (bit (nth r8 0))
 ((go k spec_l01In [(.int .i64 a2), (.int .i64 ((1 : Int))), (.int .i64 ((10000 : Int)))]).bind fun r9 =>
 cond (bit (nth r9 0))
 ((go k spec_l01In [(.int .i64 a3), (.int .i64 (0 : Int)), (.int .i64 ((1000 : Int)))]).bind fun r10 =>
 some [(.bool (bit (nth r10 0)))])
 (some [(.bool false)]))
 (some [(.bool false)]))
 (some [(.bool false)]))))))
 (cond (decide (a0 = (3 : Int)))
 ((go k spec_l01In [(.int .i64 a1), (.int .i64 (0 : Int)), (.int .i64 ((10000 : Int)))]).bind fun r11 =>
 some [(.bool (bit (nth r11 0)))])
 (cond (decide (a0 = (4 : Int)))
 ((go k spec_BorderOk [(.agg [(.int .i64 a1), (.int .i64 a2), (.int .i64 a3)])]).bind fun r12 =>
 some [(.bool (bit (nth r12 0)))])
 (cond (decide (a0 = (5 : Int)))
 ((go k spec_l01In [(.int .i64 a1), (.int .i64 (0 : Int)), (.int .i64 ((1000 : Int)))]).bind fun r13 =>
 some [(.bool (bit (nth r13 0)))])
 (cond (decide (a0 = (6 : Int)))
 ((go k spec_l01In [(.int .i64 a1), (.int .i64 (0 : Int)), (.int .i64 ((1000000 : Int)))]).bind fun r14 =>
 cond (bit (nth r14 0))
 ((go k spec_l01In [(.int .i64 a2), (.int .i64 (0 : Int)), (.int .i64 ((1000000 : Int)))]).bind fun r15 =>
 cond (bit (nth r15 0))
 ((go k spec_l01In [(.int .i64 a3), (.int .i64 (0 : Int)), (.int .i64 ((100 : Int)))]).bind fun r16 =>
 some [(.bool (bit (nth r16 0)))])
 (some [(.bool false)]))
 (some [(.bool false)]))
 (cond (decide (a0 = (7 : Int)))
 ((go k spec_l01In [(.int .i64 a1), (.int .i64 (0 : Int)), (.int .i64 ((127 : Int)))]).bind fun r17 =>
 cond (bit (nth r17 0))
 ((go k spec_l01In [(.int .i64 a2), (.int .i64 ((1 : Int))), (.int .i64 ((10000 : Int)))]).bind fun r18 =>
 cond (bit (nth r18 0))
 ((go k spec_l01In [(.int .i64 a3), (.int .i64 (0 : Int)), (.int .i64 ((1000 : Int)))]).bind fun r19 =>
 some [(.bool (bit (nth r19 0)))])
 (some [(.bool false)]))
 (some [(.bool false)]))
 (some [(.bool false)])))))))) := by kernel_rfl
theorem qh6 (k : Nat) (a0 a1 a2 a3 : Int) : go (k + 1) impl_ActOk [(.agg [(.int .i64 a0), (.int .i64 a1), (.int .i64 a2), (.int .i64 a3)])] =
 cond (decide (a2 = (0 : Int)))
 (cond (decide (a0 = (1 : Int)))
 (cond (decide (a3 = (0 : Int)))
 ((go k impl_within [(.int .i64 a1), (.int .i64 ((1 : Int))), (.int .i64 ((20 : Int)))]).bind fun r0 =>
 some [(.bool (bit (nth r0 0)))])
 (some [(.bool false)]))
 (cond (decide (a0 = (2 : Int)))
 (cond (decide (a0 = (2 : Int)))
 (cond (decide (a3 = (0 : Int)))
 ((go k impl_isRain [(.int .i64 a1)]).bind fun r1 =>
 some [(.bool (bit (nth r1 0)))])
 (some [(.bool false)]))
 (cond (decide (a0 = (4 : Int)))
 ((go k impl_BorderOk [(.agg [(.int .i64 a1), (.int .i64 a2), (.int .i64 a3)])]).bind fun r2 =>
 some [(.bool (bit (nth r2 0)))])
 (cond (decide (a0 = (5 : Int)))
 (cond (decide (a3 = (0 : Int)))
 ((go k impl_isRate [(.int .i64 a1)]).bind fun r3 =>
 some [(.bool (bit (nth r3 0)))])
 (some [(.bool false)]))
 (cond (decide (a0 = (6 : Int)))
 ((go k impl_within [(.int .i64 a1), (.int .i64 (0 : Int)), (.int .i64 ((1000000 : Int)))]).bind fun r4 =>
 cond (bit (nth r4 0))
 ((go k impl_within [(.int .i64 a2), (.int .i64 (0 : Int)), (.int .i64 ((1000000 : Int)))]).bind fun r5 =>
 cond (bit (nth r5 0))
 ((go k impl_within [(.int .i64 a3), (.int .i64 (0 : Int)), (.int .i64 ((100 : Int)))]).bind fun r6 =>
 some [(.bool (bit (nth r6 0)))])
 (some [(.bool false)]))
 (some [(.bool false)]))
 (cond (decide (a0 = (7 : Int)))
 ((go k impl_within [(.int .i64 a1), (.int .i64 (0 : Int)), (.int .i64 ((127 : Int)))]).bind fun r7 =>
 cond (bit (nth r7 0))
 ((go k impl_within [(.int .i64 a2), (.int .i64 ((1 : Int))), (.int .i64 ((10000 : Int)))]).bind fun r8 =>
 cond (bit (nth r8 0))
 ((go k impl_within [(.int .i64 a3), (.int .i64 (0 : Int)), (.int .i64 ((1000 : Int)))]).bind fun r9 =>
 some [(.bool (bit (nth r9 0)))])
 (some [(.bool false)]))
 (some [(.bool false)]))
 (some [(.bool false)]))))))
 (cond (decide (a0 = (3 : Int)))
 (cond (decide (a3 = (0 : Int)))
 ((go k impl_isRain [(.int .i64 a1)]).bind fun r10 =>
 some [(.bool (bit (nth r10 0)))])
 (some [(.bool false)]))
 (cond (decide (a0 = (4 : Int)))
 ((go k impl_BorderOk [(.agg [(.int .i64 a1), (.int .i64 a2), (.int .i64 a3)])]).bind fun r11 =>
 some [(.bool (bit (nth r11 0)))])
 (cond (decide (a0 = (5 : Int)))
 (cond (decide (a3 = (0 : Int)))
 ((go k impl_isRate [(.int .i64 a1)]).bind fun r12 =>
 some [(.bool (bit (nth r12 0)))])
 (some [(.bool false)]))
 (cond (decide (a0 = (6 : Int)))
 ((go k impl_within [(.int .i64 a1), (.int .i64 (0 : Int)), (.int .i64 ((1000000 : Int)))]).bind fun r13 =>
 cond (bit (nth r13 0))
 ((go k impl_within [(.int .i64 a2), (.int .i64 (0 : Int)), (.int .i64 ((1000000 : Int)))]).bind fun r14 =>
 cond (bit (nth r14 0))
 ((go k impl_within [(.int .i64 a3), (.int .i64 (0 : Int)), (.int .i64 ((100 : Int)))]).bind fun r15 =>
 some [(.bool (bit (nth r15 0)))])
 (some [(.bool false)]))
 (some [(.bool false)]))
 (cond (decide (a0 = (7 : Int)))
 ((go k impl_within [(.int .i64 a1), (.int .i64 (0 : Int)), (.int .i64 ((127 : Int)))]).bind fun r16 =>
 cond (bit (nth r16 0))
 ((go k impl_within [(.int .i64 a2), (.int .i64 ((1 : Int))), (.int .i64 ((10000 : Int)))]).bind fun r17 =>
 cond (bit (nth r17 0))
 ((go k impl_within [(.int .i64 a3), (.int .i64 (0 : Int)), (.int .i64 ((1000 : Int)))]).bind fun r18 =>
 some [(.bool (bit (nth r18 0)))])
 (some [(.bool false)]))
 (some [(.bool false)]))
 (some [(.bool false)]))))))))
 (cond (decide (a0 = (1 : Int)))
 (some [(.bool false)])
 (cond (decide (a0 = (2 : Int)))
 (cond (decide (a0 = (2 : Int)))
 (some [(.bool false)])
 (cond (decide (a0 = (4 : Int)))
 ((go k impl_BorderOk [(.agg [(.int .i64 a1), (.int .i64 a2), (.int .i64 a3)])]).bind fun r19 =>
 some [(.bool (bit (nth r19 0)))])
 (cond (decide (a0 = (5 : Int)))
 (some [(.bool false)])
 (cond (decide (a0 = (6 : Int)))
 ((go k impl_within [(.int .i64 a1), (.int .i64 (0 : Int)), (.int .i64 ((1000000 : Int)))]).bind fun r20 =>
 cond (bit (nth r20 0))
 ((go k impl_within [(.int .i64 a2), (.int .i64 (0 : Int)), (.int .i64 ((1000000 : Int)))]).bind fun r21 =>
 cond (bit (nth r21 0))
 ((go k impl_within [(.int .i64 a3), (.int .i64 (0 : Int)), (.int .i64 ((100 : Int)))]).bind fun r22 =>
 some [(.bool (bit (nth r22 0)))])
 (some [(.bool false)]))
 (some [(.bool false)]))
 (cond (decide (a0 = (7 : Int)))
 ((go k impl_within [(.int .i64 a1), (.int .i64 (0 : Int)), (.int .i64 ((127 : Int)))]).bind fun r23 =>
 cond (bit (nth r23 0))
 ((go k impl_within [(.int .i64 a2), (.int .i64 ((1 : Int))), (.int .i64 ((10000 : Int)))]).bind fun r24 =>
 cond (bit (nth r24 0))
 ((go k impl_within [(.int .i64 a3), (.int .i64 (0 : Int)), (.int .i64 ((1000 : Int)))]).bind fun r25 =>
 some [(.bool (bit (nth r25 0)))])
 (some [(.bool false)]))
 (some [(.bool false)]))
 (some [(.bool false)]))))))
 (cond (decide (a0 = (3 : Int)))
 (some [(.bool false)])
 (cond (decide (a0 = (4 : Int)))
 ((go k impl_BorderOk [(.agg [(.int .i64 a1), (.int .i64 a2), (.int .i64 a3)])]).bind fun r26 =>
 some [(.bool (bit (nth r26 0)))])
 (cond (decide (a0 = (5 : Int)))
 (some [(.bool false)])
 (cond (decide (a0 = (6 : Int)))
 ((go k impl_within [(.int .i64 a1), (.int .i64 (0 : Int)), (.int .i64 ((1000000 : Int)))]).bind fun r27 =>
 cond (bit (nth r27 0))
 ((go k impl_within [(.int .i64 a2), (.int .i64 (0 : Int)), (.int .i64 ((1000000 : Int)))]).bind fun r28 =>
 cond (bit (nth r28 0))
 ((go k impl_within [(.int .i64 a3), (.int .i64 (0 : Int)), (.int .i64 ((100 : Int)))]).bind fun r29 =>
 some [(.bool (bit (nth r29 0)))])
 (some [(.bool false)]))
 (some [(.bool false)]))
 (cond (decide (a0 = (7 : Int)))
 ((go k impl_within [(.int .i64 a1), (.int .i64 (0 : Int)), (.int .i64 ((127 : Int)))]).bind fun r30 =>
 cond (bit (nth r30 0))
 ((go k impl_within [(.int .i64 a2), (.int .i64 ((1 : Int))), (.int .i64 ((10000 : Int)))]).bind fun r31 =>
 cond (bit (nth r31 0))
 ((go k impl_within [(.int .i64 a3), (.int .i64 (0 : Int)), (.int .i64 ((1000 : Int)))]).bind fun r32 =>
 some [(.bool (bit (nth r32 0)))])
 (some [(.bool false)]))
 (some [(.bool false)]))
 (some [(.bool false)])))))))) := by kernel_rfl
theorem qnr (k : Nat) (a0 a1 a2 a3 : Int) : go (k + 1) spec_l37Plain [(.agg [(.int .i64 a0), (.int .i64 a1), (.int .i64 a2), (.int .i64 a3)])] =
 cond (decide (a0 = (4 : Int)))
 (some [(.agg [(.int .i64 a0), (.int .i64 a1), (.int .i64 a2), (.int .i64 a3)])])
 (cond (decide (a0 = (6 : Int)))
 (some [(.agg [(.int .i64 a0), (.int .i64 a1), (.int .i64 a2), (.int .i64 a3)])])
 (cond (decide (a0 = (7 : Int)))
 (some [(.agg [(.int .i64 a0), (.int .i64 a1), (.int .i64 a2), (.int .i64 a3)])])
 (some [(.agg [(.int .i64 a0), (.int .i64 a1), (.int .i64 (0 : Int)), (.int .i64 (0 : Int))])]))) := by kernel_rfl
theorem qj1 (k : Nat) (a0 : Int) (a1z : Bool) (a1 : List (Int × Int × Int)) (a2z : Bool) (a2 : List Int) (a3z : Bool) (a3 : List Int) (a4z : Bool) (a4 : List Int) (a5 a6 a7 a8 a9 a10 a11 a12 a13 a14 a15 a16 a17 a18 a19 a20 b0 b1 b2 b3 : Int) : go (k + 1) impl_World_do [(.ptr true [(.int .i64 a0), (.arr true a1z (.r3 a1)), (.arr true a2z (.ints .i64 a2)), (.arr true a3z (.ints .i64 a3)), (.arr true a4z (.ints .i64 a4)), (.int .i64 a5), (.int .i64 a6), (.int .i64 a7), (.int .i64 a8), (.int .i64 a9), (.int .i64 a10), (.int .i64 a11), (.int .i64 a12), (.int .i64 a13), (.int .i64 a14), (.int .i64 a15), (.int .i64 a16), (.int .i64 a17), (.int .i64 a18), (.int .i64 a19), (.int .i64 a20)]), (.agg [(.int .i64 b0), (.int .i64 b1), (.int .i64 b2), (.int .i64 b3)])] =
 cond (decide (b0 = (1 : Int)))
 ((go k impl_Advance [(.agg [(.int .i64 a0), (.arr false a1z (.r3 a1)), (.arr false a2z (.ints .i64 a2)), (.arr false a3z (.ints .i64 a3)), (.arr false a4z (.ints .i64 a4)), (.int .i64 a5), (.int .i64 a6), (.int .i64 a7), (.int .i64 a8), (.int .i64 a9), (.int .i64 a10), (.int .i64 a11), (.int .i64 a12), (.int .i64 a13), (.int .i64 a14), (.int .i64 a15), (.int .i64 a16), (.int .i64 a17), (.int .i64 a18), (.int .i64 a19), (.int .i64 a20)]), (.int .i64 b1)]).bind fun r0 =>
 (go k impl_TotalMass [(.agg [(.int .i64 (D.toInt (D.cell 0 (nth r0 0)))), (.arr false (D.nil (D.cell 1 (nth r0 0))) (.r3 (D.r3 (D.cell 1 (nth r0 0))))), (.arr false (D.nil (D.cell 2 (nth r0 0))) (.ints .i64 (D.ints (D.cell 2 (nth r0 0))))), (.arr false (D.nil (D.cell 3 (nth r0 0))) (.ints .i64 (D.ints (D.cell 3 (nth r0 0))))), (.arr false (D.nil (D.cell 4 (nth r0 0))) (.ints .i64 (D.ints (D.cell 4 (nth r0 0)))))])]).bind fun r1 =>
 some [(.int .i64 (D.toInt (nth r1 0))), (.ptr true [(.int .i64 (D.toInt (D.cell 0 (nth r0 0)))), (.arr true (D.nil (D.cell 1 (nth r0 0))) (.r3 (D.r3 (D.cell 1 (nth r0 0))))), (.arr true (D.nil (D.cell 2 (nth r0 0))) (.ints .i64 (D.ints (D.cell 2 (nth r0 0))))), (.arr true (D.nil (D.cell 3 (nth r0 0))) (.ints .i64 (D.ints (D.cell 3 (nth r0 0))))), (.arr true (D.nil (D.cell 4 (nth r0 0))) (.ints .i64 (D.ints (D.cell 4 (nth r0 0))))), (.int .i64 (D.toInt (D.cell 5 (nth r0 0)))), (.int .i64 (D.toInt (D.cell 6 (nth r0 0)))), (.int .i64 (D.toInt (D.cell 7 (nth r0 0)))), (.int .i64 (D.toInt (D.cell 8 (nth r0 0)))), (.int .i64 (D.toInt (D.cell 9 (nth r0 0)))), (.int .i64 (D.toInt (D.cell 10 (nth r0 0)))), (.int .i64 (D.toInt (D.cell 11 (nth r0 0)))), (.int .i64 (D.toInt (D.cell (12 : Nat) (nth r0 0)))), (.int .i64 (D.toInt (D.cell (13 : Nat) (nth r0 0)))), (.int .i64 (D.toInt (D.cell (14 : Nat) (nth r0 0)))), (.int .i64 (D.toInt (D.cell (15 : Nat) (nth r0 0)))), (.int .i64 (D.toInt (D.cell (16 : Nat) (nth r0 0)))), (.int .i64 (D.toInt (D.cell (17 : Nat) (nth r0 0)))), (.int .i64 (D.toInt (D.cell (18 : Nat) (nth r0 0)))), (.int .i64 (D.toInt (D.cell (19 : Nat) (nth r0 0)))), (.int .i64 (D.toInt (D.cell (20 : Nat) (nth r0 0))))])])
 (cond (decide (b0 = (2 : Int)))
 (some [(.int .i64 ((1 : Int))), (.ptr true [(.int .i64 a0), (.arr true a1z (.r3 a1)), (.arr true a2z (.ints .i64 a2)), (.arr true a3z (.ints .i64 a3)), (.arr true a4z (.ints .i64 a4)), (.int .i64 a5), (.int .i64 a6), (.int .i64 a7), (.int .i64 b1), (.int .i64 a9), (.int .i64 a10), (.int .i64 a11), (.int .i64 a12), (.int .i64 a13), (.int .i64 a14), (.int .i64 a15), (.int .i64 a16), (.int .i64 a17), (.int .i64 a18), (.int .i64 a19), (.int .i64 a20)])])
 (cond (decide (b0 = (3 : Int)))
 (some [(.int .i64 ((1 : Int))), (.ptr true [(.int .i64 a0), (.arr true a1z (.r3 a1)), (.arr true a2z (.ints .i64 a2)), (.arr true a3z (.ints .i64 a3)), (.arr true a4z (.ints .i64 a4)), (.int .i64 a5), (.int .i64 a6), (.int .i64 a7), (.int .i64 a8), (.int .i64 b1), (.int .i64 a10), (.int .i64 a11), (.int .i64 a12), (.int .i64 a13), (.int .i64 a14), (.int .i64 a15), (.int .i64 a16), (.int .i64 a17), (.int .i64 a18), (.int .i64 a19), (.int .i64 a20)])])
 (cond (decide (b0 = (4 : Int)))
 (some [(.int .i64 ((1 : Int))), (.ptr true [(.int .i64 a0), (.arr true a1z (.r3 a1)), (.arr true a2z (.ints .i64 a2)), (.arr true a3z (.ints .i64 a3)), (.arr true a4z (.ints .i64 a4)), (.int .i64 b1), (.int .i64 b2), (.int .i64 b3), (.int .i64 a8), (.int .i64 a9), (.int .i64 a10), (.int .i64 a11), (.int .i64 a12), (.int .i64 a13), (.int .i64 a14), (.int .i64 a15), (.int .i64 a16), (.int .i64 a17), (.int .i64 a18), (.int .i64 a19), (.int .i64 a20)])])
 (cond (decide (b0 = (5 : Int)))
 (some [(.int .i64 ((1 : Int))), (.ptr true [(.int .i64 a0), (.arr true a1z (.r3 a1)), (.arr true a2z (.ints .i64 a2)), (.arr true a3z (.ints .i64 a3)), (.arr true a4z (.ints .i64 a4)), (.int .i64 a5), (.int .i64 a6), (.int .i64 a7), (.int .i64 a8), (.int .i64 a9), (.int .i64 b1), (.int .i64 a11), (.int .i64 a12), (.int .i64 a13), (.int .i64 a14), (.int .i64 a15), (.int .i64 a16), (.int .i64 a17), (.int .i64 a18), (.int .i64 a19), (.int .i64 a20)])])
 (cond (decide (b0 = (6 : Int)))
 (some [(.int .i64 (nI (List.length a1))), (.ptr true [(.int .i64 a0), (.arr true a1z (.r3 a1)), (.arr true a2z (.ints .i64 a2)), (.arr true a3z (.ints .i64 a3)), (.arr true a4z (.ints .i64 a4)), (.int .i64 a5), (.int .i64 a6), (.int .i64 a7), (.int .i64 a8), (.int .i64 a9), (.int .i64 a10), (.int .i64 b1), (.int .i64 b2), (.int .i64 b3), (.int .i64 a14), (.int .i64 a15), (.int .i64 a16), (.int .i64 a17), (.int .i64 a18), (.int .i64 a19), (.int .i64 a20)])])
 (cond (decide (b0 = (7 : Int)))
 ((go k impl_Drop [(.agg [(.int .i64 a0), (.arr false a1z (.r3 a1)), (.arr false a2z (.ints .i64 a2)), (.arr false a3z (.ints .i64 a3)), (.arr false a4z (.ints .i64 a4)), (.int .i64 a5), (.int .i64 a6), (.int .i64 a7), (.int .i64 a8), (.int .i64 a9), (.int .i64 a10), (.int .i64 a11), (.int .i64 a12), (.int .i64 a13), (.int .i64 a14), (.int .i64 a15), (.int .i64 a16), (.int .i64 a17), (.int .i64 a18), (.int .i64 a19), (.int .i64 a20)]), (.int .i64 b1), (.int .i64 b2), (.int .i64 b3)]).bind fun r2 =>
 cond (!bit (nth r2 1))
 (some [(.int .i64 (0 : Int)), (.ptr true [(.int .i64 (D.toInt (D.cell 0 (nth r2 0)))), (.arr true (D.nil (D.cell 1 (nth r2 0))) (.r3 (D.r3 (D.cell 1 (nth r2 0))))), (.arr true (D.nil (D.cell 2 (nth r2 0))) (.ints .i64 (D.ints (D.cell 2 (nth r2 0))))), (.arr true (D.nil (D.cell 3 (nth r2 0))) (.ints .i64 (D.ints (D.cell 3 (nth r2 0))))), (.arr true (D.nil (D.cell 4 (nth r2 0))) (.ints .i64 (D.ints (D.cell 4 (nth r2 0))))), (.int .i64 (D.toInt (D.cell 5 (nth r2 0)))), (.int .i64 (D.toInt (D.cell 6 (nth r2 0)))), (.int .i64 (D.toInt (D.cell 7 (nth r2 0)))), (.int .i64 (D.toInt (D.cell 8 (nth r2 0)))), (.int .i64 (D.toInt (D.cell 9 (nth r2 0)))), (.int .i64 (D.toInt (D.cell 10 (nth r2 0)))), (.int .i64 (D.toInt (D.cell 11 (nth r2 0)))), (.int .i64 (D.toInt (D.cell (12 : Nat) (nth r2 0)))), (.int .i64 (D.toInt (D.cell (13 : Nat) (nth r2 0)))), (.int .i64 (D.toInt (D.cell (14 : Nat) (nth r2 0)))), (.int .i64 (D.toInt (D.cell (15 : Nat) (nth r2 0)))), (.int .i64 (D.toInt (D.cell (16 : Nat) (nth r2 0)))), (.int .i64 (D.toInt (D.cell (17 : Nat) (nth r2 0)))), (.int .i64 (D.toInt (D.cell (18 : Nat) (nth r2 0)))), (.int .i64 (D.toInt (D.cell (19 : Nat) (nth r2 0)))), (.int .i64 (D.toInt (D.cell (20 : Nat) (nth r2 0))))])])
 (some [(.int .i64 ((1 : Int))), (.ptr true [(.int .i64 (D.toInt (D.cell 0 (nth r2 0)))), (.arr true (D.nil (D.cell 1 (nth r2 0))) (.r3 (D.r3 (D.cell 1 (nth r2 0))))), (.arr true (D.nil (D.cell 2 (nth r2 0))) (.ints .i64 (D.ints (D.cell 2 (nth r2 0))))), (.arr true (D.nil (D.cell 3 (nth r2 0))) (.ints .i64 (D.ints (D.cell 3 (nth r2 0))))), (.arr true (D.nil (D.cell 4 (nth r2 0))) (.ints .i64 (D.ints (D.cell 4 (nth r2 0))))), (.int .i64 (D.toInt (D.cell 5 (nth r2 0)))), (.int .i64 (D.toInt (D.cell 6 (nth r2 0)))), (.int .i64 (D.toInt (D.cell 7 (nth r2 0)))), (.int .i64 (D.toInt (D.cell 8 (nth r2 0)))), (.int .i64 (D.toInt (D.cell 9 (nth r2 0)))), (.int .i64 (D.toInt (D.cell 10 (nth r2 0)))), (.int .i64 (D.toInt (D.cell 11 (nth r2 0)))), (.int .i64 (D.toInt (D.cell (12 : Nat) (nth r2 0)))), (.int .i64 (D.toInt (D.cell (13 : Nat) (nth r2 0)))), (.int .i64 (D.toInt (D.cell (14 : Nat) (nth r2 0)))), (.int .i64 (D.toInt (D.cell (15 : Nat) (nth r2 0)))), (.int .i64 (D.toInt (D.cell (16 : Nat) (nth r2 0)))), (.int .i64 (D.toInt (D.cell (17 : Nat) (nth r2 0)))), (.int .i64 (D.toInt (D.cell (18 : Nat) (nth r2 0)))), (.int .i64 (D.toInt (D.cell (19 : Nat) (nth r2 0)))), (.int .i64 (D.toInt (D.cell (20 : Nat) (nth r2 0))))])]))
 (some [(.int .i64 ((1 : Int))), (.ptr true [(.int .i64 a0), (.arr true a1z (.r3 a1)), (.arr true a2z (.ints .i64 a2)), (.arr true a3z (.ints .i64 a3)), (.arr true a4z (.ints .i64 a4)), (.int .i64 a5), (.int .i64 a6), (.int .i64 a7), (.int .i64 a8), (.int .i64 a9), (.int .i64 a10), (.int .i64 a11), (.int .i64 a12), (.int .i64 a13), (.int .i64 a14), (.int .i64 a15), (.int .i64 a16), (.int .i64 a17), (.int .i64 a18), (.int .i64 a19), (.int .i64 a20)])]))))))) := by kernel_rfl
theorem ql5 (k : Nat) (a0 : Int) (a1z : Bool) (a1 : List (Int × Int × Int)) (a2z : Bool) (a2 : List Int) (a3z : Bool) (a3 : List Int) (a4z : Bool) (a4 : List Int) (a5 a6 a7 a8 a9 a10 a11 a12 a13 a14 a15 a16 a17 a18 a19 a20 b0 b1 b2 b3 : Int) : go (k + 1) spec_DoAct [(.agg [(.int .i64 a0), (.arr false a1z (.r3 a1)), (.arr false a2z (.ints .i64 a2)), (.arr false a3z (.ints .i64 a3)), (.arr false a4z (.ints .i64 a4)), (.int .i64 a5), (.int .i64 a6), (.int .i64 a7), (.int .i64 a8), (.int .i64 a9), (.int .i64 a10), (.int .i64 a11), (.int .i64 a12), (.int .i64 a13), (.int .i64 a14), (.int .i64 a15), (.int .i64 a16), (.int .i64 a17), (.int .i64 a18), (.int .i64 a19), (.int .i64 a20)]), (.agg [(.int .i64 b0), (.int .i64 b1), (.int .i64 b2), (.int .i64 b3)])] =
 (go k spec_l36Copy [(.agg [(.int .i64 a0), (.arr false a1z (.r3 a1)), (.arr false a2z (.ints .i64 a2)), (.arr false a3z (.ints .i64 a3)), (.arr false a4z (.ints .i64 a4)), (.int .i64 a5), (.int .i64 a6), (.int .i64 a7), (.int .i64 a8), (.int .i64 a9), (.int .i64 a10), (.int .i64 a11), (.int .i64 a12), (.int .i64 a13), (.int .i64 a14), (.int .i64 a15), (.int .i64 a16), (.int .i64 a17), (.int .i64 a18), (.int .i64 a19), (.int .i64 a20)])]).bind fun r0 =>
 (go k spec_WorldOk [(.agg [(.int .i64 a0), (.arr false a1z (.r3 a1)), (.arr false a2z (.ints .i64 a2)), (.arr false a3z (.ints .i64 a3)), (.arr false a4z (.ints .i64 a4)), (.int .i64 a5), (.int .i64 a6), (.int .i64 a7), (.int .i64 a8), (.int .i64 a9), (.int .i64 a10), (.int .i64 a11), (.int .i64 a12), (.int .i64 a13), (.int .i64 a14), (.int .i64 a15), (.int .i64 a16), (.int .i64 a17), (.int .i64 a18), (.int .i64 a19), (.int .i64 a20)])]).bind fun r1 =>
 cond (!bit (nth r1 0))
 (some [(.agg [(.int .i64 (D.toInt (D.cell 0 (nth r0 0)))), (.arr true (D.nil (D.cell 1 (nth r0 0))) (.r3 (D.r3 (D.cell 1 (nth r0 0))))), (.arr true (D.nil (D.cell 2 (nth r0 0))) (.ints .i64 (D.ints (D.cell 2 (nth r0 0))))), (.arr true (D.nil (D.cell 3 (nth r0 0))) (.ints .i64 (D.ints (D.cell 3 (nth r0 0))))), (.arr true (D.nil (D.cell 4 (nth r0 0))) (.ints .i64 (D.ints (D.cell 4 (nth r0 0))))), (.int .i64 (D.toInt (D.cell 5 (nth r0 0)))), (.int .i64 (D.toInt (D.cell 6 (nth r0 0)))), (.int .i64 (D.toInt (D.cell 7 (nth r0 0)))), (.int .i64 (D.toInt (D.cell 8 (nth r0 0)))), (.int .i64 (D.toInt (D.cell 9 (nth r0 0)))), (.int .i64 (D.toInt (D.cell 10 (nth r0 0)))), (.int .i64 (D.toInt (D.cell 11 (nth r0 0)))), (.int .i64 (D.toInt (D.cell (12 : Nat) (nth r0 0)))), (.int .i64 (D.toInt (D.cell (13 : Nat) (nth r0 0)))), (.int .i64 (D.toInt (D.cell (14 : Nat) (nth r0 0)))), (.int .i64 (D.toInt (D.cell (15 : Nat) (nth r0 0)))), (.int .i64 (D.toInt (D.cell (16 : Nat) (nth r0 0)))), (.int .i64 (D.toInt (D.cell (17 : Nat) (nth r0 0)))), (.int .i64 (D.toInt (D.cell (18 : Nat) (nth r0 0)))), (.int .i64 (D.toInt (D.cell (19 : Nat) (nth r0 0)))), (.int .i64 (D.toInt (D.cell (20 : Nat) (nth r0 0))))]), (.int .i64 ((-1 : Int)))])
 ((go k spec_ActOk [(.agg [(.int .i64 b0), (.int .i64 b1), (.int .i64 b2), (.int .i64 b3)])]).bind fun r2 =>
 cond (!bit (nth r2 0))
 (some [(.agg [(.int .i64 (D.toInt (D.cell 0 (nth r0 0)))), (.arr true (D.nil (D.cell 1 (nth r0 0))) (.r3 (D.r3 (D.cell 1 (nth r0 0))))), (.arr true (D.nil (D.cell 2 (nth r0 0))) (.ints .i64 (D.ints (D.cell 2 (nth r0 0))))), (.arr true (D.nil (D.cell 3 (nth r0 0))) (.ints .i64 (D.ints (D.cell 3 (nth r0 0))))), (.arr true (D.nil (D.cell 4 (nth r0 0))) (.ints .i64 (D.ints (D.cell 4 (nth r0 0))))), (.int .i64 (D.toInt (D.cell 5 (nth r0 0)))), (.int .i64 (D.toInt (D.cell 6 (nth r0 0)))), (.int .i64 (D.toInt (D.cell 7 (nth r0 0)))), (.int .i64 (D.toInt (D.cell 8 (nth r0 0)))), (.int .i64 (D.toInt (D.cell 9 (nth r0 0)))), (.int .i64 (D.toInt (D.cell 10 (nth r0 0)))), (.int .i64 (D.toInt (D.cell 11 (nth r0 0)))), (.int .i64 (D.toInt (D.cell (12 : Nat) (nth r0 0)))), (.int .i64 (D.toInt (D.cell (13 : Nat) (nth r0 0)))), (.int .i64 (D.toInt (D.cell (14 : Nat) (nth r0 0)))), (.int .i64 (D.toInt (D.cell (15 : Nat) (nth r0 0)))), (.int .i64 (D.toInt (D.cell (16 : Nat) (nth r0 0)))), (.int .i64 (D.toInt (D.cell (17 : Nat) (nth r0 0)))), (.int .i64 (D.toInt (D.cell (18 : Nat) (nth r0 0)))), (.int .i64 (D.toInt (D.cell (19 : Nat) (nth r0 0)))), (.int .i64 (D.toInt (D.cell (20 : Nat) (nth r0 0))))]), (.int .i64 ((-1 : Int)))])
 (cond (decide (b0 = (1 : Int)))
 ((go k spec_Advance [(.agg [(.int .i64 a0), (.arr false a1z (.r3 a1)), (.arr false a2z (.ints .i64 a2)), (.arr false a3z (.ints .i64 a3)), (.arr false a4z (.ints .i64 a4)), (.int .i64 a5), (.int .i64 a6), (.int .i64 a7), (.int .i64 a8), (.int .i64 a9), (.int .i64 a10), (.int .i64 a11), (.int .i64 a12), (.int .i64 a13), (.int .i64 a14), (.int .i64 a15), (.int .i64 a16), (.int .i64 a17), (.int .i64 a18), (.int .i64 a19), (.int .i64 a20)]), (.int .i64 b1)]).bind fun r3 =>
 (go k spec_l07Sum [(.arr false (D.nil (D.cell 2 (nth r3 0))) (.ints .i64 (D.ints (D.cell 2 (nth r3 0)))))]).bind fun r4 =>
 some [(.agg [(.int .i64 (D.toInt (D.cell 0 (nth r3 0)))), (.arr true (D.nil (D.cell 1 (nth r3 0))) (.r3 (D.r3 (D.cell 1 (nth r3 0))))), (.arr true (D.nil (D.cell 2 (nth r3 0))) (.ints .i64 (D.ints (D.cell 2 (nth r3 0))))), (.arr true (D.nil (D.cell 3 (nth r3 0))) (.ints .i64 (D.ints (D.cell 3 (nth r3 0))))), (.arr true (D.nil (D.cell 4 (nth r3 0))) (.ints .i64 (D.ints (D.cell 4 (nth r3 0))))), (.int .i64 (D.toInt (D.cell 5 (nth r3 0)))), (.int .i64 (D.toInt (D.cell 6 (nth r3 0)))), (.int .i64 (D.toInt (D.cell 7 (nth r3 0)))), (.int .i64 (D.toInt (D.cell 8 (nth r3 0)))), (.int .i64 (D.toInt (D.cell 9 (nth r3 0)))), (.int .i64 (D.toInt (D.cell 10 (nth r3 0)))), (.int .i64 (D.toInt (D.cell 11 (nth r3 0)))), (.int .i64 (D.toInt (D.cell (12 : Nat) (nth r3 0)))), (.int .i64 (D.toInt (D.cell (13 : Nat) (nth r3 0)))), (.int .i64 (D.toInt (D.cell (14 : Nat) (nth r3 0)))), (.int .i64 (D.toInt (D.cell (15 : Nat) (nth r3 0)))), (.int .i64 (D.toInt (D.cell (16 : Nat) (nth r3 0)))), (.int .i64 (D.toInt (D.cell (17 : Nat) (nth r3 0)))), (.int .i64 (D.toInt (D.cell (18 : Nat) (nth r3 0)))), (.int .i64 (D.toInt (D.cell (19 : Nat) (nth r3 0)))), (.int .i64 (D.toInt (D.cell (20 : Nat) (nth r3 0))))]), (.int .i64 (D.toInt (nth r4 0)))])
 (cond (decide (b0 = (2 : Int)))
 (some [(.agg [(.int .i64 (D.toInt (D.cell 0 (nth r0 0)))), (.arr true (D.nil (D.cell 1 (nth r0 0))) (.r3 (D.r3 (D.cell 1 (nth r0 0))))), (.arr true (D.nil (D.cell 2 (nth r0 0))) (.ints .i64 (D.ints (D.cell 2 (nth r0 0))))), (.arr true (D.nil (D.cell 3 (nth r0 0))) (.ints .i64 (D.ints (D.cell 3 (nth r0 0))))), (.arr true (D.nil (D.cell 4 (nth r0 0))) (.ints .i64 (D.ints (D.cell 4 (nth r0 0))))), (.int .i64 (D.toInt (D.cell 5 (nth r0 0)))), (.int .i64 (D.toInt (D.cell 6 (nth r0 0)))), (.int .i64 (D.toInt (D.cell 7 (nth r0 0)))), (.int .i64 b1), (.int .i64 (D.toInt (D.cell 9 (nth r0 0)))), (.int .i64 (D.toInt (D.cell 10 (nth r0 0)))), (.int .i64 (D.toInt (D.cell 11 (nth r0 0)))), (.int .i64 (D.toInt (D.cell (12 : Nat) (nth r0 0)))), (.int .i64 (D.toInt (D.cell (13 : Nat) (nth r0 0)))), (.int .i64 (D.toInt (D.cell (14 : Nat) (nth r0 0)))), (.int .i64 (D.toInt (D.cell (15 : Nat) (nth r0 0)))), (.int .i64 (D.toInt (D.cell (16 : Nat) (nth r0 0)))), (.int .i64 (D.toInt (D.cell (17 : Nat) (nth r0 0)))), (.int .i64 (D.toInt (D.cell (18 : Nat) (nth r0 0)))), (.int .i64 (D.toInt (D.cell (19 : Nat) (nth r0 0)))), (.int .i64 (D.toInt (D.cell (20 : Nat) (nth r0 0))))]), (.int .i64 ((1 : Int)))])
 (cond (decide (b0 = (3 : Int)))
 (some [(.agg [(.int .i64 (D.toInt (D.cell 0 (nth r0 0)))), (.arr true (D.nil (D.cell 1 (nth r0 0))) (.r3 (D.r3 (D.cell 1 (nth r0 0))))), (.arr true (D.nil (D.cell 2 (nth r0 0))) (.ints .i64 (D.ints (D.cell 2 (nth r0 0))))), (.arr true (D.nil (D.cell 3 (nth r0 0))) (.ints .i64 (D.ints (D.cell 3 (nth r0 0))))), (.arr true (D.nil (D.cell 4 (nth r0 0))) (.ints .i64 (D.ints (D.cell 4 (nth r0 0))))), (.int .i64 (D.toInt (D.cell 5 (nth r0 0)))), (.int .i64 (D.toInt (D.cell 6 (nth r0 0)))), (.int .i64 (D.toInt (D.cell 7 (nth r0 0)))), (.int .i64 (D.toInt (D.cell 8 (nth r0 0)))), (.int .i64 b1), (.int .i64 (D.toInt (D.cell 10 (nth r0 0)))), (.int .i64 (D.toInt (D.cell 11 (nth r0 0)))), (.int .i64 (D.toInt (D.cell (12 : Nat) (nth r0 0)))), (.int .i64 (D.toInt (D.cell (13 : Nat) (nth r0 0)))), (.int .i64 (D.toInt (D.cell (14 : Nat) (nth r0 0)))), (.int .i64 (D.toInt (D.cell (15 : Nat) (nth r0 0)))), (.int .i64 (D.toInt (D.cell (16 : Nat) (nth r0 0)))), (.int .i64 (D.toInt (D.cell (17 : Nat) (nth r0 0)))), (.int .i64 (D.toInt (D.cell (18 : Nat) (nth r0 0)))), (.int .i64 (D.toInt (D.cell (19 : Nat) (nth r0 0)))), (.int .i64 (D.toInt (D.cell (20 : Nat) (nth r0 0))))]), (.int .i64 ((1 : Int)))])
 (cond (decide (b0 = (5 : Int)))
 (some [(.agg [(.int .i64 (D.toInt (D.cell 0 (nth r0 0)))), (.arr true (D.nil (D.cell 1 (nth r0 0))) (.r3 (D.r3 (D.cell 1 (nth r0 0))))), (.arr true (D.nil (D.cell 2 (nth r0 0))) (.ints .i64 (D.ints (D.cell 2 (nth r0 0))))), (.arr true (D.nil (D.cell 3 (nth r0 0))) (.ints .i64 (D.ints (D.cell 3 (nth r0 0))))), (.arr true (D.nil (D.cell 4 (nth r0 0))) (.ints .i64 (D.ints (D.cell 4 (nth r0 0))))), (.int .i64 (D.toInt (D.cell 5 (nth r0 0)))), (.int .i64 (D.toInt (D.cell 6 (nth r0 0)))), (.int .i64 (D.toInt (D.cell 7 (nth r0 0)))), (.int .i64 (D.toInt (D.cell 8 (nth r0 0)))), (.int .i64 (D.toInt (D.cell 9 (nth r0 0)))), (.int .i64 b1), (.int .i64 (D.toInt (D.cell 11 (nth r0 0)))), (.int .i64 (D.toInt (D.cell (12 : Nat) (nth r0 0)))), (.int .i64 (D.toInt (D.cell (13 : Nat) (nth r0 0)))), (.int .i64 (D.toInt (D.cell (14 : Nat) (nth r0 0)))), (.int .i64 (D.toInt (D.cell (15 : Nat) (nth r0 0)))), (.int .i64 (D.toInt (D.cell (16 : Nat) (nth r0 0)))), (.int .i64 (D.toInt (D.cell (17 : Nat) (nth r0 0)))), (.int .i64 (D.toInt (D.cell (18 : Nat) (nth r0 0)))), (.int .i64 (D.toInt (D.cell (19 : Nat) (nth r0 0)))), (.int .i64 (D.toInt (D.cell (20 : Nat) (nth r0 0))))]), (.int .i64 ((1 : Int)))])
 (cond (decide (b0 = (4 : Int)))
 (some [(.agg [(.int .i64 (D.toInt (D.cell 0 (nth r0 0)))), (.arr true (D.nil (D.cell 1 (nth r0 0))) (.r3 (D.r3 (D.cell 1 (nth r0 0))))), (.arr true (D.nil (D.cell 2 (nth r0 0))) (.ints .i64 (D.ints (D.cell 2 (nth r0 0))))), (.arr true (D.nil (D.cell 3 (nth r0 0))) (.ints .i64 (D.ints (D.cell 3 (nth r0 0))))), (.arr true (D.nil (D.cell 4 (nth r0 0))) (.ints .i64 (D.ints (D.cell 4 (nth r0 0))))), (.int .i64 b1), (.int .i64 b2), (.int .i64 b3), (.int .i64 (D.toInt (D.cell 8 (nth r0 0)))), (.int .i64 (D.toInt (D.cell 9 (nth r0 0)))), (.int .i64 (D.toInt (D.cell 10 (nth r0 0)))), (.int .i64 (D.toInt (D.cell 11 (nth r0 0)))), (.int .i64 (D.toInt (D.cell (12 : Nat) (nth r0 0)))), (.int .i64 (D.toInt (D.cell (13 : Nat) (nth r0 0)))), (.int .i64 (D.toInt (D.cell (14 : Nat) (nth r0 0)))), (.int .i64 (D.toInt (D.cell (15 : Nat) (nth r0 0)))), (.int .i64 (D.toInt (D.cell (16 : Nat) (nth r0 0)))), (.int .i64 (D.toInt (D.cell (17 : Nat) (nth r0 0)))), (.int .i64 (D.toInt (D.cell (18 : Nat) (nth r0 0)))), (.int .i64 (D.toInt (D.cell (19 : Nat) (nth r0 0)))), (.int .i64 (D.toInt (D.cell (20 : Nat) (nth r0 0))))]), (.int .i64 ((1 : Int)))])
 (cond (decide (b0 = (6 : Int)))
 (some [(.agg [(.int .i64 (D.toInt (D.cell 0 (nth r0 0)))), (.arr true (D.nil (D.cell 1 (nth r0 0))) (.r3 (D.r3 (D.cell 1 (nth r0 0))))), (.arr true (D.nil (D.cell 2 (nth r0 0))) (.ints .i64 (D.ints (D.cell 2 (nth r0 0))))), (.arr true (D.nil (D.cell 3 (nth r0 0))) (.ints .i64 (D.ints (D.cell 3 (nth r0 0))))), (.arr true (D.nil (D.cell 4 (nth r0 0))) (.ints .i64 (D.ints (D.cell 4 (nth r0 0))))), (.int .i64 (D.toInt (D.cell 5 (nth r0 0)))), (.int .i64 (D.toInt (D.cell 6 (nth r0 0)))), (.int .i64 (D.toInt (D.cell 7 (nth r0 0)))), (.int .i64 (D.toInt (D.cell 8 (nth r0 0)))), (.int .i64 (D.toInt (D.cell 9 (nth r0 0)))), (.int .i64 (D.toInt (D.cell 10 (nth r0 0)))), (.int .i64 b1), (.int .i64 b2), (.int .i64 b3), (.int .i64 (D.toInt (D.cell (14 : Nat) (nth r0 0)))), (.int .i64 (D.toInt (D.cell (15 : Nat) (nth r0 0)))), (.int .i64 (D.toInt (D.cell (16 : Nat) (nth r0 0)))), (.int .i64 (D.toInt (D.cell (17 : Nat) (nth r0 0)))), (.int .i64 (D.toInt (D.cell (18 : Nat) (nth r0 0)))), (.int .i64 (D.toInt (D.cell (19 : Nat) (nth r0 0)))), (.int .i64 (D.toInt (D.cell (20 : Nat) (nth r0 0))))]), (.int .i64 (nI (List.length (D.ints (D.cell 2 (nth r0 0))))))])
 ((go k spec_Drop [(.agg [(.int .i64 a0), (.arr false a1z (.r3 a1)), (.arr false a2z (.ints .i64 a2)), (.arr false a3z (.ints .i64 a3)), (.arr false a4z (.ints .i64 a4)), (.int .i64 a5), (.int .i64 a6), (.int .i64 a7), (.int .i64 a8), (.int .i64 a9), (.int .i64 a10), (.int .i64 a11), (.int .i64 a12), (.int .i64 a13), (.int .i64 a14), (.int .i64 a15), (.int .i64 a16), (.int .i64 a17), (.int .i64 a18), (.int .i64 a19), (.int .i64 a20)]), (.int .i64 b1), (.int .i64 b2), (.int .i64 b3)]).bind fun r5 =>
 cond (!bit (nth r5 1))
 (some [(.agg [(.int .i64 (D.toInt (D.cell 0 (nth r5 0)))), (.arr true (D.nil (D.cell 1 (nth r5 0))) (.r3 (D.r3 (D.cell 1 (nth r5 0))))), (.arr true (D.nil (D.cell 2 (nth r5 0))) (.ints .i64 (D.ints (D.cell 2 (nth r5 0))))), (.arr true (D.nil (D.cell 3 (nth r5 0))) (.ints .i64 (D.ints (D.cell 3 (nth r5 0))))), (.arr true (D.nil (D.cell 4 (nth r5 0))) (.ints .i64 (D.ints (D.cell 4 (nth r5 0))))), (.int .i64 (D.toInt (D.cell 5 (nth r5 0)))), (.int .i64 (D.toInt (D.cell 6 (nth r5 0)))), (.int .i64 (D.toInt (D.cell 7 (nth r5 0)))), (.int .i64 (D.toInt (D.cell 8 (nth r5 0)))), (.int .i64 (D.toInt (D.cell 9 (nth r5 0)))), (.int .i64 (D.toInt (D.cell 10 (nth r5 0)))), (.int .i64 (D.toInt (D.cell 11 (nth r5 0)))), (.int .i64 (D.toInt (D.cell (12 : Nat) (nth r5 0)))), (.int .i64 (D.toInt (D.cell (13 : Nat) (nth r5 0)))), (.int .i64 (D.toInt (D.cell (14 : Nat) (nth r5 0)))), (.int .i64 (D.toInt (D.cell (15 : Nat) (nth r5 0)))), (.int .i64 (D.toInt (D.cell (16 : Nat) (nth r5 0)))), (.int .i64 (D.toInt (D.cell (17 : Nat) (nth r5 0)))), (.int .i64 (D.toInt (D.cell (18 : Nat) (nth r5 0)))), (.int .i64 (D.toInt (D.cell (19 : Nat) (nth r5 0)))), (.int .i64 (D.toInt (D.cell (20 : Nat) (nth r5 0))))]), (.int .i64 (0 : Int))])
 (some [(.agg [(.int .i64 (D.toInt (D.cell 0 (nth r5 0)))), (.arr true (D.nil (D.cell 1 (nth r5 0))) (.r3 (D.r3 (D.cell 1 (nth r5 0))))), (.arr true (D.nil (D.cell 2 (nth r5 0))) (.ints .i64 (D.ints (D.cell 2 (nth r5 0))))), (.arr true (D.nil (D.cell 3 (nth r5 0))) (.ints .i64 (D.ints (D.cell 3 (nth r5 0))))), (.arr true (D.nil (D.cell 4 (nth r5 0))) (.ints .i64 (D.ints (D.cell 4 (nth r5 0))))), (.int .i64 (D.toInt (D.cell 5 (nth r5 0)))), (.int .i64 (D.toInt (D.cell 6 (nth r5 0)))), (.int .i64 (D.toInt (D.cell 7 (nth r5 0)))), (.int .i64 (D.toInt (D.cell 8 (nth r5 0)))), (.int .i64 (D.toInt (D.cell 9 (nth r5 0)))), (.int .i64 (D.toInt (D.cell 10 (nth r5 0)))), (.int .i64 (D.toInt (D.cell 11 (nth r5 0)))), (.int .i64 (D.toInt (D.cell (12 : Nat) (nth r5 0)))), (.int .i64 (D.toInt (D.cell (13 : Nat) (nth r5 0)))), (.int .i64 (D.toInt (D.cell (14 : Nat) (nth r5 0)))), (.int .i64 (D.toInt (D.cell (15 : Nat) (nth r5 0)))), (.int .i64 (D.toInt (D.cell (16 : Nat) (nth r5 0)))), (.int .i64 (D.toInt (D.cell (17 : Nat) (nth r5 0)))), (.int .i64 (D.toInt (D.cell (18 : Nat) (nth r5 0)))), (.int .i64 (D.toInt (D.cell (19 : Nat) (nth r5 0)))), (.int .i64 (D.toInt (D.cell (20 : Nat) (nth r5 0))))]), (.int .i64 ((1 : Int)))]))))))))) := by kernel_rfl
theorem qie (k : Nat) (a0 : Int) (a1z : Bool) (a1 : List (Int × Int × Int)) (a2z : Bool) (a2 : List Int) (a3z : Bool) (a3 : List Int) (a4z : Bool) (a4 : List Int) (a5 a6 a7 a8 a9 a10 a11 a12 a13 a14 a15 a16 a17 a18 a19 a20 b0 b1 b2 b3 : Int) : go (k + 1) impl_DoAct [(.agg [(.int .i64 a0), (.arr false a1z (.r3 a1)), (.arr false a2z (.ints .i64 a2)), (.arr false a3z (.ints .i64 a3)), (.arr false a4z (.ints .i64 a4)), (.int .i64 a5), (.int .i64 a6), (.int .i64 a7), (.int .i64 a8), (.int .i64 a9), (.int .i64 a10), (.int .i64 a11), (.int .i64 a12), (.int .i64 a13), (.int .i64 a14), (.int .i64 a15), (.int .i64 a16), (.int .i64 a17), (.int .i64 a18), (.int .i64 a19), (.int .i64 a20)]), (.agg [(.int .i64 b0), (.int .i64 b1), (.int .i64 b2), (.int .i64 b3)])] =
 (go k impl_copyWorld [(.agg [(.int .i64 a0), (.arr false a1z (.r3 a1)), (.arr false a2z (.ints .i64 a2)), (.arr false a3z (.ints .i64 a3)), (.arr false a4z (.ints .i64 a4)), (.int .i64 a5), (.int .i64 a6), (.int .i64 a7), (.int .i64 a8), (.int .i64 a9), (.int .i64 a10), (.int .i64 a11), (.int .i64 a12), (.int .i64 a13), (.int .i64 a14), (.int .i64 a15), (.int .i64 a16), (.int .i64 a17), (.int .i64 a18), (.int .i64 a19), (.int .i64 a20)])]).bind fun r0 =>
 (go k impl_WorldOk [(.agg [(.int .i64 a0), (.arr false a1z (.r3 a1)), (.arr false a2z (.ints .i64 a2)), (.arr false a3z (.ints .i64 a3)), (.arr false a4z (.ints .i64 a4)), (.int .i64 a5), (.int .i64 a6), (.int .i64 a7), (.int .i64 a8), (.int .i64 a9), (.int .i64 a10), (.int .i64 a11), (.int .i64 a12), (.int .i64 a13), (.int .i64 a14), (.int .i64 a15), (.int .i64 a16), (.int .i64 a17), (.int .i64 a18), (.int .i64 a19), (.int .i64 a20)])]).bind fun r1 =>
 cond (!bit (nth r1 0))
 (some [(.agg [(.int .i64 (D.toInt (D.cell 0 (nth r0 0)))), (.arr true (D.nil (D.cell 1 (nth r0 0))) (.r3 (D.r3 (D.cell 1 (nth r0 0))))), (.arr true (D.nil (D.cell 2 (nth r0 0))) (.ints .i64 (D.ints (D.cell 2 (nth r0 0))))), (.arr true (D.nil (D.cell 3 (nth r0 0))) (.ints .i64 (D.ints (D.cell 3 (nth r0 0))))), (.arr true (D.nil (D.cell 4 (nth r0 0))) (.ints .i64 (D.ints (D.cell 4 (nth r0 0))))), (.int .i64 (D.toInt (D.cell 5 (nth r0 0)))), (.int .i64 (D.toInt (D.cell 6 (nth r0 0)))), (.int .i64 (D.toInt (D.cell 7 (nth r0 0)))), (.int .i64 (D.toInt (D.cell 8 (nth r0 0)))), (.int .i64 (D.toInt (D.cell 9 (nth r0 0)))), (.int .i64 (D.toInt (D.cell 10 (nth r0 0)))), (.int .i64 (D.toInt (D.cell 11 (nth r0 0)))), (.int .i64 (D.toInt (D.cell (12 : Nat) (nth r0 0)))), (.int .i64 (D.toInt (D.cell (13 : Nat) (nth r0 0)))), (.int .i64 (D.toInt (D.cell (14 : Nat) (nth r0 0)))), (.int .i64 (D.toInt (D.cell (15 : Nat) (nth r0 0)))), (.int .i64 (D.toInt (D.cell (16 : Nat) (nth r0 0)))), (.int .i64 (D.toInt (D.cell (17 : Nat) (nth r0 0)))), (.int .i64 (D.toInt (D.cell (18 : Nat) (nth r0 0)))), (.int .i64 (D.toInt (D.cell (19 : Nat) (nth r0 0)))), (.int .i64 (D.toInt (D.cell (20 : Nat) (nth r0 0))))]), (.int .i64 ((-1 : Int)))])
 ((go k impl_ActOk [(.agg [(.int .i64 b0), (.int .i64 b1), (.int .i64 b2), (.int .i64 b3)])]).bind fun r2 =>
 cond (!bit (nth r2 0))
 (some [(.agg [(.int .i64 (D.toInt (D.cell 0 (nth r0 0)))), (.arr true (D.nil (D.cell 1 (nth r0 0))) (.r3 (D.r3 (D.cell 1 (nth r0 0))))), (.arr true (D.nil (D.cell 2 (nth r0 0))) (.ints .i64 (D.ints (D.cell 2 (nth r0 0))))), (.arr true (D.nil (D.cell 3 (nth r0 0))) (.ints .i64 (D.ints (D.cell 3 (nth r0 0))))), (.arr true (D.nil (D.cell 4 (nth r0 0))) (.ints .i64 (D.ints (D.cell 4 (nth r0 0))))), (.int .i64 (D.toInt (D.cell 5 (nth r0 0)))), (.int .i64 (D.toInt (D.cell 6 (nth r0 0)))), (.int .i64 (D.toInt (D.cell 7 (nth r0 0)))), (.int .i64 (D.toInt (D.cell 8 (nth r0 0)))), (.int .i64 (D.toInt (D.cell 9 (nth r0 0)))), (.int .i64 (D.toInt (D.cell 10 (nth r0 0)))), (.int .i64 (D.toInt (D.cell 11 (nth r0 0)))), (.int .i64 (D.toInt (D.cell (12 : Nat) (nth r0 0)))), (.int .i64 (D.toInt (D.cell (13 : Nat) (nth r0 0)))), (.int .i64 (D.toInt (D.cell (14 : Nat) (nth r0 0)))), (.int .i64 (D.toInt (D.cell (15 : Nat) (nth r0 0)))), (.int .i64 (D.toInt (D.cell (16 : Nat) (nth r0 0)))), (.int .i64 (D.toInt (D.cell (17 : Nat) (nth r0 0)))), (.int .i64 (D.toInt (D.cell (18 : Nat) (nth r0 0)))), (.int .i64 (D.toInt (D.cell (19 : Nat) (nth r0 0)))), (.int .i64 (D.toInt (D.cell (20 : Nat) (nth r0 0))))]), (.int .i64 ((-1 : Int)))])
 ((go k impl_World_do [(.ptr true [(.int .i64 (D.toInt (D.cell 0 (nth r0 0)))), (.arr true (D.nil (D.cell 1 (nth r0 0))) (.r3 (D.r3 (D.cell 1 (nth r0 0))))), (.arr true (D.nil (D.cell 2 (nth r0 0))) (.ints .i64 (D.ints (D.cell 2 (nth r0 0))))), (.arr true (D.nil (D.cell 3 (nth r0 0))) (.ints .i64 (D.ints (D.cell 3 (nth r0 0))))), (.arr true (D.nil (D.cell 4 (nth r0 0))) (.ints .i64 (D.ints (D.cell 4 (nth r0 0))))), (.int .i64 (D.toInt (D.cell 5 (nth r0 0)))), (.int .i64 (D.toInt (D.cell 6 (nth r0 0)))), (.int .i64 (D.toInt (D.cell 7 (nth r0 0)))), (.int .i64 (D.toInt (D.cell 8 (nth r0 0)))), (.int .i64 (D.toInt (D.cell 9 (nth r0 0)))), (.int .i64 (D.toInt (D.cell 10 (nth r0 0)))), (.int .i64 (D.toInt (D.cell 11 (nth r0 0)))), (.int .i64 (D.toInt (D.cell (12 : Nat) (nth r0 0)))), (.int .i64 (D.toInt (D.cell (13 : Nat) (nth r0 0)))), (.int .i64 (D.toInt (D.cell (14 : Nat) (nth r0 0)))), (.int .i64 (D.toInt (D.cell (15 : Nat) (nth r0 0)))), (.int .i64 (D.toInt (D.cell (16 : Nat) (nth r0 0)))), (.int .i64 (D.toInt (D.cell (17 : Nat) (nth r0 0)))), (.int .i64 (D.toInt (D.cell (18 : Nat) (nth r0 0)))), (.int .i64 (D.toInt (D.cell (19 : Nat) (nth r0 0)))), (.int .i64 (D.toInt (D.cell (20 : Nat) (nth r0 0))))]), (.agg [(.int .i64 b0), (.int .i64 b1), (.int .i64 b2), (.int .i64 b3)])]).bind fun r3 =>
 some [(.agg [(.int .i64 (D.toInt (D.cell 0 (nth r3 1)))), (.arr true (D.nil (D.cell 1 (nth r3 1))) (.r3 (D.r3 (D.cell 1 (nth r3 1))))), (.arr true (D.nil (D.cell 2 (nth r3 1))) (.ints .i64 (D.ints (D.cell 2 (nth r3 1))))), (.arr true (D.nil (D.cell 3 (nth r3 1))) (.ints .i64 (D.ints (D.cell 3 (nth r3 1))))), (.arr true (D.nil (D.cell 4 (nth r3 1))) (.ints .i64 (D.ints (D.cell 4 (nth r3 1))))), (.int .i64 (D.toInt (D.cell 5 (nth r3 1)))), (.int .i64 (D.toInt (D.cell 6 (nth r3 1)))), (.int .i64 (D.toInt (D.cell 7 (nth r3 1)))), (.int .i64 (D.toInt (D.cell 8 (nth r3 1)))), (.int .i64 (D.toInt (D.cell 9 (nth r3 1)))), (.int .i64 (D.toInt (D.cell 10 (nth r3 1)))), (.int .i64 (D.toInt (D.cell 11 (nth r3 1)))), (.int .i64 (D.toInt (D.cell (12 : Nat) (nth r3 1)))), (.int .i64 (D.toInt (D.cell (13 : Nat) (nth r3 1)))), (.int .i64 (D.toInt (D.cell (14 : Nat) (nth r3 1)))), (.int .i64 (D.toInt (D.cell (15 : Nat) (nth r3 1)))), (.int .i64 (D.toInt (D.cell (16 : Nat) (nth r3 1)))), (.int .i64 (D.toInt (D.cell (17 : Nat) (nth r3 1)))), (.int .i64 (D.toInt (D.cell (18 : Nat) (nth r3 1)))), (.int .i64 (D.toInt (D.cell (19 : Nat) (nth r3 1)))), (.int .i64 (D.toInt (D.cell (20 : Nat) (nth r3 1))))]), (.int .i64 (D.toInt (nth r3 0)))])) := by kernel_rfl

end Go.Proofs.YtoldpdhhfmlckaaGreat
end
section
namespace Go.Proofs.YtoldpdhhfmlckaaGreat
open Go.Ev
def qxc (x0 : Int) (z1 : Bool) (l2 : List (Int × Int × Int × Int)) (z3 : Bool) (l4 : List (Int × Int × Int)) (z5 : Bool) (l6 : List Int) (z7 : Bool) (l8 : List Int) (z9 : Bool) (l10 : List Int) (x11 x12 x13 x14 x15 x16 x17 x18 x19 x20 x21 x22 x23 x24 x25 x26 x27 : Int) (z28 : Bool) (l29 : List (Int × Int × Int)) (z30 : Bool) (l31 : List Int) (z32 : Bool) (l33 : List Int) (z34 : Bool) (l35 : List Int) (x36 x37 x38 x39 x40 x41 x42 x43 x44 x45 x46 x47 x48 x49 x50 x51 x52 : Int) (z53 : Bool) (l54 : List Int) : St := ⟨fill 46 [(1, (.sl 0 none)), (4, (.ptr 5 0 0)), (6, (.ptr 10 0 0)), (7, (.sl 11 none)), (8, (.int .i64 x0))], [], [(.arr false z1 (.r4 l2)), (.arr true z3 (.r3 l4)), (.arr true z5 (.ints .i64 l6)), (.arr true z7 (.ints .i64 l8)), (.arr true z9 (.ints .i64 l10)), (.box true [(.int .i64 x11), (.sl 1 none), (.sl 2 none), (.sl 3 none), (.sl 4 none), (.int .i64 x12), (.int .i64 x13), (.int .i64 x14), (.int .i64 x15), (.int .i64 x16), (.int .i64 x17), (.int .i64 x18), (.int .i64 x19), (.int .i64 x20), (.int .i64 x21), (.int .i64 x22), (.int .i64 x23), (.int .i64 x24), (.int .i64 x25), (.int .i64 x26), (.int .i64 x27)]), (.arr true z28 (.r3 l29)), (.arr true z30 (.ints .i64 l31)), (.arr true z32 (.ints .i64 l33)), (.arr true z34 (.ints .i64 l35)), (.box true [(.int .i64 x36), (.sl 6 none), (.sl 7 none), (.sl 8 none), (.sl 9 none), (.int .i64 x37), (.int .i64 x38), (.int .i64 x39), (.int .i64 x40), (.int .i64 x41), (.int .i64 x42), (.int .i64 x43), (.int .i64 x44), (.int .i64 x45), (.int .i64 x46), (.int .i64 x47), (.int .i64 x48), (.int .i64 x49), (.int .i64 x50), (.int .i64 x51), (.int .i64 x52)]), (.arr true z53 (.ints .i64 l54))]⟩
theorem qml (k : Nat) (a0 : Int) (a1z : Bool) (a1 : List (Int × Int × Int)) (a2z : Bool) (a2 : List Int) (a3z : Bool) (a3 : List Int) (a4z : Bool) (a4 : List Int) (a5 a6 a7 a8 a9 a10 a11 a12 a13 a14 a15 a16 a17 a18 a19 a20 : Int) (bz : Bool) (b : List (Int × Int × Int × Int)) : go (k + 1) spec_RunActs [(.agg [(.int .i64 a0), (.arr false a1z (.r3 a1)), (.arr false a2z (.ints .i64 a2)), (.arr false a3z (.ints .i64 a3)), (.arr false a4z (.ints .i64 a4)), (.int .i64 a5), (.int .i64 a6), (.int .i64 a7), (.int .i64 a8), (.int .i64 a9), (.int .i64 a10), (.int .i64 a11), (.int .i64 a12), (.int .i64 a13), (.int .i64 a14), (.int .i64 a15), (.int .i64 a16), (.int .i64 a17), (.int .i64 a18), (.int .i64 a19), (.int .i64 a20)]), (.arr false bz (.r4 b))] =
 (go k spec_l36Copy [(.agg [(.int .i64 a0), (.arr false a1z (.r3 a1)), (.arr false a2z (.ints .i64 a2)), (.arr false a3z (.ints .i64 a3)), (.arr false a4z (.ints .i64 a4)), (.int .i64 a5), (.int .i64 a6), (.int .i64 a7), (.int .i64 a8), (.int .i64 a9), (.int .i64 a10), (.int .i64 a11), (.int .i64 a12), (.int .i64 a13), (.int .i64 a14), (.int .i64 a15), (.int .i64 a16), (.int .i64 a17), (.int .i64 a18), (.int .i64 a19), (.int .i64 a20)])]).bind fun r0 =>
 (go k spec_WorldOk [(.agg [(.int .i64 a0), (.arr false a1z (.r3 a1)), (.arr false a2z (.ints .i64 a2)), (.arr false a3z (.ints .i64 a3)), (.arr false a4z (.ints .i64 a4)), (.int .i64 a5), (.int .i64 a6), (.int .i64 a7), (.int .i64 a8), (.int .i64 a9), (.int .i64 a10), (.int .i64 a11), (.int .i64 a12), (.int .i64 a13), (.int .i64 a14), (.int .i64 a15), (.int .i64 a16), (.int .i64 a17), (.int .i64 a18), (.int .i64 a19), (.int .i64 a20)])]).bind fun r1 =>
 cond (!bit (nth r1 0))
 (some [(.agg [(.int .i64 (D.toInt (D.cell 0 (nth r0 0)))), (.arr true (D.nil (D.cell 1 (nth r0 0))) (.r3 (D.r3 (D.cell 1 (nth r0 0))))), (.arr true (D.nil (D.cell 2 (nth r0 0))) (.ints .i64 (D.ints (D.cell 2 (nth r0 0))))), (.arr true (D.nil (D.cell 3 (nth r0 0))) (.ints .i64 (D.ints (D.cell 3 (nth r0 0))))), (.arr true (D.nil (D.cell 4 (nth r0 0))) (.ints .i64 (D.ints (D.cell 4 (nth r0 0))))), (.int .i64 (D.toInt (D.cell 5 (nth r0 0)))), (.int .i64 (D.toInt (D.cell 6 (nth r0 0)))), (.int .i64 (D.toInt (D.cell 7 (nth r0 0)))), (.int .i64 (D.toInt (D.cell 8 (nth r0 0)))), (.int .i64 (D.toInt (D.cell 9 (nth r0 0)))), (.int .i64 (D.toInt (D.cell 10 (nth r0 0)))), (.int .i64 (D.toInt (D.cell 11 (nth r0 0)))), (.int .i64 (D.toInt (D.cell (12 : Nat) (nth r0 0)))), (.int .i64 (D.toInt (D.cell (13 : Nat) (nth r0 0)))), (.int .i64 (D.toInt (D.cell (14 : Nat) (nth r0 0)))), (.int .i64 (D.toInt (D.cell (15 : Nat) (nth r0 0)))), (.int .i64 (D.toInt (D.cell (16 : Nat) (nth r0 0)))), (.int .i64 (D.toInt (D.cell (17 : Nat) (nth r0 0)))), (.int .i64 (D.toInt (D.cell (18 : Nat) (nth r0 0)))), (.int .i64 (D.toInt (D.cell (19 : Nat) (nth r0 0)))), (.int .i64 (D.toInt (D.cell (20 : Nat) (nth r0 0))))]), (.arr true false (.ints .i64 []))])
 (cond (decide ((30 : Int) < nI (List.length b)))
 (some [(.agg [(.int .i64 (D.toInt (D.cell 0 (nth r0 0)))), (.arr true (D.nil (D.cell 1 (nth r0 0))) (.r3 (D.r3 (D.cell 1 (nth r0 0))))), (.arr true (D.nil (D.cell 2 (nth r0 0))) (.ints .i64 (D.ints (D.cell 2 (nth r0 0))))), (.arr true (D.nil (D.cell 3 (nth r0 0))) (.ints .i64 (D.ints (D.cell 3 (nth r0 0))))), (.arr true (D.nil (D.cell 4 (nth r0 0))) (.ints .i64 (D.ints (D.cell 4 (nth r0 0))))), (.int .i64 (D.toInt (D.cell 5 (nth r0 0)))), (.int .i64 (D.toInt (D.cell 6 (nth r0 0)))), (.int .i64 (D.toInt (D.cell 7 (nth r0 0)))), (.int .i64 (D.toInt (D.cell 8 (nth r0 0)))), (.int .i64 (D.toInt (D.cell 9 (nth r0 0)))), (.int .i64 (D.toInt (D.cell 10 (nth r0 0)))), (.int .i64 (D.toInt (D.cell 11 (nth r0 0)))), (.int .i64 (D.toInt (D.cell (12 : Nat) (nth r0 0)))), (.int .i64 (D.toInt (D.cell (13 : Nat) (nth r0 0)))), (.int .i64 (D.toInt (D.cell (14 : Nat) (nth r0 0)))), (.int .i64 (D.toInt (D.cell (15 : Nat) (nth r0 0)))), (.int .i64 (D.toInt (D.cell (16 : Nat) (nth r0 0)))), (.int .i64 (D.toInt (D.cell (17 : Nat) (nth r0 0)))), (.int .i64 (D.toInt (D.cell (18 : Nat) (nth r0 0)))), (.int .i64 (D.toInt (D.cell (19 : Nat) (nth r0 0)))), (.int .i64 (D.toInt (D.cell (20 : Nat) (nth r0 0))))]), (.arr true false (.ints .i64 []))])
 (lp k spec_RunActs [] [] 6 k (qxc (0 : Int) bz b true [] true [] true [] true [] (0 : Int) (0 : Int) (0 : Int) (0 : Int) (0 : Int) (0 : Int) (0 : Int) (0 : Int) (0 : Int) (0 : Int) (0 : Int) (0 : Int) (0 : Int) (0 : Int) (0 : Int) (0 : Int) (0 : Int) (D.nil (D.cell 1 (nth r0 0))) (D.r3 (D.cell 1 (nth r0 0))) (D.nil (D.cell 2 (nth r0 0))) (D.ints (D.cell 2 (nth r0 0))) (D.nil (D.cell 3 (nth r0 0))) (D.ints (D.cell 3 (nth r0 0))) (D.nil (D.cell 4 (nth r0 0))) (D.ints (D.cell 4 (nth r0 0))) (D.toInt (D.cell 0 (nth r0 0))) (D.toInt (D.cell 5 (nth r0 0))) (D.toInt (D.cell 6 (nth r0 0))) (D.toInt (D.cell 7 (nth r0 0))) (D.toInt (D.cell 8 (nth r0 0))) (D.toInt (D.cell 9 (nth r0 0))) (D.toInt (D.cell 10 (nth r0 0))) (D.toInt (D.cell 11 (nth r0 0))) (D.toInt (D.cell (12 : Nat) (nth r0 0))) (D.toInt (D.cell (13 : Nat) (nth r0 0))) (D.toInt (D.cell (14 : Nat) (nth r0 0))) (D.toInt (D.cell (15 : Nat) (nth r0 0))) (D.toInt (D.cell (16 : Nat) (nth r0 0))) (D.toInt (D.cell (17 : Nat) (nth r0 0))) (D.toInt (D.cell (18 : Nat) (nth r0 0))) (D.toInt (D.cell (19 : Nat) (nth r0 0))) (D.toInt (D.cell (20 : Nat) (nth r0 0))) false []))) := by kernel_rfl
theorem qqk (k n : Nat) (fu : List (Nat × Nat)) (x0 : Int) (z1 : Bool) (l2 : List (Int × Int × Int × Int)) (z3 : Bool) (l4 : List (Int × Int × Int)) (z5 : Bool) (l6 : List Int) (z7 : Bool) (l8 : List Int) (z9 : Bool) (l10 : List Int) (x11 x12 x13 x14 x15 x16 x17 x18 x19 x20 x21 x22 x23 x24 x25 x26 x27 : Int) (z28 : Bool) (l29 : List (Int × Int × Int)) (z30 : Bool) (l31 : List Int) (z32 : Bool) (l33 : List Int) (z34 : Bool) (l35 : List Int) (x36 x37 x38 x39 x40 x41 x42 x43 x44 x45 x46 x47 x48 x49 x50 x51 x52 : Int) (z53 : Bool) (l54 : List Int) : lp k spec_RunActs [] fu 6 (n + 1) (qxc x0 z1 l2 z3 l4 z5 l6 z7 l8 z9 l10 x11 x12 x13 x14 x15 x16 x17 x18 x19 x20 x21 x22 x23 x24 x25 x26 x27 z28 l29 z30 l31 z32 l33 z34 l35 x36 x37 x38 x39 x40 x41 x42 x43 x44 x45 x46 x47 x48 x49 x50 x51 x52 z53 l54) =
 cond (decide (x0 < nI (List.length l2)))
 (cond (decide ((0 : Int) ≤ x0) && decide (x0 < nI (List.length l2)))
 ((go k spec_DoAct [(.agg [(.int .i64 x36), (.arr false z28 (.r3 l29)), (.arr false z30 (.ints .i64 l31)), (.arr false z32 (.ints .i64 l33)), (.arr false z34 (.ints .i64 l35)), (.int .i64 x37), (.int .i64 x38), (.int .i64 x39), (.int .i64 x40), (.int .i64 x41), (.int .i64 x42), (.int .i64 x43), (.int .i64 x44), (.int .i64 x45), (.int .i64 x46), (.int .i64 x47), (.int .i64 x48), (.int .i64 x49), (.int .i64 x50), (.int .i64 x51), (.int .i64 x52)]), (.agg [(.int .i64 (Prod.fst (List.getD l2 (Int.toNat x0) zz4))), (.int .i64 (Prod.fst (Prod.snd (List.getD l2 (Int.toNat x0) zz4)))), (.int .i64 (Prod.fst (Prod.snd (Prod.snd (List.getD l2 (Int.toNat x0) zz4))))), (.int .i64 (Prod.snd (Prod.snd (Prod.snd (List.getD l2 (Int.toNat x0) zz4)))))])]).bind fun r0 =>
 cond (decide (List.length (l54 ++ [D.toInt (nth r0 1)]) ≤ bigLen))
 (lp k spec_RunActs [] fu 6 n (qxc (IntKind.wrap .i64 (x0 + (1 : Int))) z1 l2 z3 l4 z5 l6 z7 l8 z9 l10 x11 x12 x13 x14 x15 x16 x17 x18 x19 x20 x21 x22 x23 x24 x25 x26 x27 (D.nil (D.cell 1 (nth r0 0))) (D.r3 (D.cell 1 (nth r0 0))) (D.nil (D.cell 2 (nth r0 0))) (D.ints (D.cell 2 (nth r0 0))) (D.nil (D.cell 3 (nth r0 0))) (D.ints (D.cell 3 (nth r0 0))) (D.nil (D.cell 4 (nth r0 0))) (D.ints (D.cell 4 (nth r0 0))) (D.toInt (D.cell 0 (nth r0 0))) (D.toInt (D.cell 5 (nth r0 0))) (D.toInt (D.cell 6 (nth r0 0))) (D.toInt (D.cell 7 (nth r0 0))) (D.toInt (D.cell 8 (nth r0 0))) (D.toInt (D.cell 9 (nth r0 0))) (D.toInt (D.cell 10 (nth r0 0))) (D.toInt (D.cell 11 (nth r0 0))) (D.toInt (D.cell (12 : Nat) (nth r0 0))) (D.toInt (D.cell (13 : Nat) (nth r0 0))) (D.toInt (D.cell (14 : Nat) (nth r0 0))) (D.toInt (D.cell (15 : Nat) (nth r0 0))) (D.toInt (D.cell (16 : Nat) (nth r0 0))) (D.toInt (D.cell (17 : Nat) (nth r0 0))) (D.toInt (D.cell (18 : Nat) (nth r0 0))) (D.toInt (D.cell (19 : Nat) (nth r0 0))) (D.toInt (D.cell (20 : Nat) (nth r0 0))) (z53 && decide (List.length (l54 ++ [D.toInt (nth r0 1)]) = 0)) (l54 ++ [D.toInt (nth r0 1)])))
 none)
 none)
 (some [(.agg [(.int .i64 x36), (.arr true z28 (.r3 l29)), (.arr true z30 (.ints .i64 l31)), (.arr true z32 (.ints .i64 l33)), (.arr true z34 (.ints .i64 l35)), (.int .i64 x37), (.int .i64 x38), (.int .i64 x39), (.int .i64 x40), (.int .i64 x41), (.int .i64 x42), (.int .i64 x43), (.int .i64 x44), (.int .i64 x45), (.int .i64 x46), (.int .i64 x47), (.int .i64 x48), (.int .i64 x49), (.int .i64 x50), (.int .i64 x51), (.int .i64 x52)]), (.arr true z53 (.ints .i64 l54))]) := by kernel_rfl
def qv5 (x0 x1 : Int) (z2 : Bool) (l3 : List (Int × Int × Int)) (z4 : Bool) (l5 : List Int) (z6 : Bool) (l7 : List Int) (z8 : Bool) (l9 : List Int) (x10 x11 x12 x13 x14 x15 x16 x17 x18 x19 x20 x21 x22 x23 x24 x25 x26 : Int) (z27 : Bool) (l28 : List (Int × Int × Int)) (z29 : Bool) (l30 : List Int) (z31 : Bool) (l32 : List Int) (z33 : Bool) (l34 : List Int) (x35 x36 x37 x38 x39 x40 x41 x42 x43 x44 x45 x46 x47 x48 x49 x50 x51 : Int) (z52 : Bool) (l53 : List Int) (z54 : Bool) (l55 : List (Int × Int × Int × Int)) : St := ⟨fill 44 [(4, (.ptr 4 0 0)), (6, (.ptr 9 0 0)), (7, (.sl 10 none)), (24, (.sl 11 none)), (25, (.int .i64 x0)), (26, (.int .i64 x1))], [], [(.arr true z2 (.r3 l3)), (.arr true z4 (.ints .i64 l5)), (.arr true z6 (.ints .i64 l7)), (.arr true z8 (.ints .i64 l9)), (.box true [(.int .i64 x10), (.sl 0 none), (.sl 1 none), (.sl 2 none), (.sl 3 none), (.int .i64 x11), (.int .i64 x12), (.int .i64 x13), (.int .i64 x14), (.int .i64 x15), (.int .i64 x16), (.int .i64 x17), (.int .i64 x18), (.int .i64 x19), (.int .i64 x20), (.int .i64 x21), (.int .i64 x22), (.int .i64 x23), (.int .i64 x24), (.int .i64 x25), (.int .i64 x26)]), (.arr true z27 (.r3 l28)), (.arr true z29 (.ints .i64 l30)), (.arr true z31 (.ints .i64 l32)), (.arr true z33 (.ints .i64 l34)), (.box true [(.int .i64 x35), (.sl 5 none), (.sl 6 none), (.sl 7 none), (.sl 8 none), (.int .i64 x36), (.int .i64 x37), (.int .i64 x38), (.int .i64 x39), (.int .i64 x40), (.int .i64 x41), (.int .i64 x42), (.int .i64 x43), (.int .i64 x44), (.int .i64 x45), (.int .i64 x46), (.int .i64 x47), (.int .i64 x48), (.int .i64 x49), (.int .i64 x50), (.int .i64 x51)]), (.arr true z52 (.ints .i64 l53)), (.arr false z54 (.r4 l55))]⟩
theorem qi5 (k : Nat) (a0 : Int) (a1z : Bool) (a1 : List (Int × Int × Int)) (a2z : Bool) (a2 : List Int) (a3z : Bool) (a3 : List Int) (a4z : Bool) (a4 : List Int) (a5 a6 a7 a8 a9 a10 a11 a12 a13 a14 a15 a16 a17 a18 a19 a20 : Int) (bz : Bool) (b : List (Int × Int × Int × Int)) : go (k + 1) impl_RunActs [(.agg [(.int .i64 a0), (.arr false a1z (.r3 a1)), (.arr false a2z (.ints .i64 a2)), (.arr false a3z (.ints .i64 a3)), (.arr false a4z (.ints .i64 a4)), (.int .i64 a5), (.int .i64 a6), (.int .i64 a7), (.int .i64 a8), (.int .i64 a9), (.int .i64 a10), (.int .i64 a11), (.int .i64 a12), (.int .i64 a13), (.int .i64 a14), (.int .i64 a15), (.int .i64 a16), (.int .i64 a17), (.int .i64 a18), (.int .i64 a19), (.int .i64 a20)]), (.arr false bz (.r4 b))] =
 (go k impl_copyWorld [(.agg [(.int .i64 a0), (.arr false a1z (.r3 a1)), (.arr false a2z (.ints .i64 a2)), (.arr false a3z (.ints .i64 a3)), (.arr false a4z (.ints .i64 a4)), (.int .i64 a5), (.int .i64 a6), (.int .i64 a7), (.int .i64 a8), (.int .i64 a9), (.int .i64 a10), (.int .i64 a11), (.int .i64 a12), (.int .i64 a13), (.int .i64 a14), (.int .i64 a15), (.int .i64 a16), (.int .i64 a17), (.int .i64 a18), (.int .i64 a19), (.int .i64 a20)])]).bind fun r0 =>
 (go k impl_WorldOk [(.agg [(.int .i64 a0), (.arr false a1z (.r3 a1)), (.arr false a2z (.ints .i64 a2)), (.arr false a3z (.ints .i64 a3)), (.arr false a4z (.ints .i64 a4)), (.int .i64 a5), (.int .i64 a6), (.int .i64 a7), (.int .i64 a8), (.int .i64 a9), (.int .i64 a10), (.int .i64 a11), (.int .i64 a12), (.int .i64 a13), (.int .i64 a14), (.int .i64 a15), (.int .i64 a16), (.int .i64 a17), (.int .i64 a18), (.int .i64 a19), (.int .i64 a20)])]).bind fun r1 =>
 cond (!bit (nth r1 0))
 (some [(.agg [(.int .i64 (D.toInt (D.cell 0 (nth r0 0)))), (.arr true (D.nil (D.cell 1 (nth r0 0))) (.r3 (D.r3 (D.cell 1 (nth r0 0))))), (.arr true (D.nil (D.cell 2 (nth r0 0))) (.ints .i64 (D.ints (D.cell 2 (nth r0 0))))), (.arr true (D.nil (D.cell 3 (nth r0 0))) (.ints .i64 (D.ints (D.cell 3 (nth r0 0))))), (.arr true (D.nil (D.cell 4 (nth r0 0))) (.ints .i64 (D.ints (D.cell 4 (nth r0 0))))), (.int .i64 (D.toInt (D.cell 5 (nth r0 0)))), (.int .i64 (D.toInt (D.cell 6 (nth r0 0)))), (.int .i64 (D.toInt (D.cell 7 (nth r0 0)))), (.int .i64 (D.toInt (D.cell 8 (nth r0 0)))), (.int .i64 (D.toInt (D.cell 9 (nth r0 0)))), (.int .i64 (D.toInt (D.cell 10 (nth r0 0)))), (.int .i64 (D.toInt (D.cell 11 (nth r0 0)))), (.int .i64 (D.toInt (D.cell (12 : Nat) (nth r0 0)))), (.int .i64 (D.toInt (D.cell (13 : Nat) (nth r0 0)))), (.int .i64 (D.toInt (D.cell (14 : Nat) (nth r0 0)))), (.int .i64 (D.toInt (D.cell (15 : Nat) (nth r0 0)))), (.int .i64 (D.toInt (D.cell (16 : Nat) (nth r0 0)))), (.int .i64 (D.toInt (D.cell (17 : Nat) (nth r0 0)))), (.int .i64 (D.toInt (D.cell (18 : Nat) (nth r0 0)))), (.int .i64 (D.toInt (D.cell (19 : Nat) (nth r0 0)))), (.int .i64 (D.toInt (D.cell (20 : Nat) (nth r0 0))))]), (.arr true true (.ints .i64 []))])
 (cond (decide ((30 : Int) < nI (List.length b)))
 (some [(.agg [(.int .i64 (D.toInt (D.cell 0 (nth r0 0)))), (.arr true (D.nil (D.cell 1 (nth r0 0))) (.r3 (D.r3 (D.cell 1 (nth r0 0))))), (.arr true (D.nil (D.cell 2 (nth r0 0))) (.ints .i64 (D.ints (D.cell 2 (nth r0 0))))), (.arr true (D.nil (D.cell 3 (nth r0 0))) (.ints .i64 (D.ints (D.cell 3 (nth r0 0))))), (.arr true (D.nil (D.cell 4 (nth r0 0))) (.ints .i64 (D.ints (D.cell 4 (nth r0 0))))), (.int .i64 (D.toInt (D.cell 5 (nth r0 0)))), (.int .i64 (D.toInt (D.cell 6 (nth r0 0)))), (.int .i64 (D.toInt (D.cell 7 (nth r0 0)))), (.int .i64 (D.toInt (D.cell 8 (nth r0 0)))), (.int .i64 (D.toInt (D.cell 9 (nth r0 0)))), (.int .i64 (D.toInt (D.cell 10 (nth r0 0)))), (.int .i64 (D.toInt (D.cell 11 (nth r0 0)))), (.int .i64 (D.toInt (D.cell (12 : Nat) (nth r0 0)))), (.int .i64 (D.toInt (D.cell (13 : Nat) (nth r0 0)))), (.int .i64 (D.toInt (D.cell (14 : Nat) (nth r0 0)))), (.int .i64 (D.toInt (D.cell (15 : Nat) (nth r0 0)))), (.int .i64 (D.toInt (D.cell (16 : Nat) (nth r0 0)))), (.int .i64 (D.toInt (D.cell (17 : Nat) (nth r0 0)))), (.int .i64 (D.toInt (D.cell (18 : Nat) (nth r0 0)))), (.int .i64 (D.toInt (D.cell (19 : Nat) (nth r0 0)))), (.int .i64 (D.toInt (D.cell (20 : Nat) (nth r0 0))))]), (.arr true true (.ints .i64 []))])
 (lp k impl_RunActs [] [] 6 k (qv5 (nI (List.length b)) (0 : Int) true [] true [] true [] true [] (0 : Int) (0 : Int) (0 : Int) (0 : Int) (0 : Int) (0 : Int) (0 : Int) (0 : Int) (0 : Int) (0 : Int) (0 : Int) (0 : Int) (0 : Int) (0 : Int) (0 : Int) (0 : Int) (0 : Int) (D.nil (D.cell 1 (nth r0 0))) (D.r3 (D.cell 1 (nth r0 0))) (D.nil (D.cell 2 (nth r0 0))) (D.ints (D.cell 2 (nth r0 0))) (D.nil (D.cell 3 (nth r0 0))) (D.ints (D.cell 3 (nth r0 0))) (D.nil (D.cell 4 (nth r0 0))) (D.ints (D.cell 4 (nth r0 0))) (D.toInt (D.cell 0 (nth r0 0))) (D.toInt (D.cell 5 (nth r0 0))) (D.toInt (D.cell 6 (nth r0 0))) (D.toInt (D.cell 7 (nth r0 0))) (D.toInt (D.cell 8 (nth r0 0))) (D.toInt (D.cell 9 (nth r0 0))) (D.toInt (D.cell 10 (nth r0 0))) (D.toInt (D.cell 11 (nth r0 0))) (D.toInt (D.cell (12 : Nat) (nth r0 0))) (D.toInt (D.cell (13 : Nat) (nth r0 0))) (D.toInt (D.cell (14 : Nat) (nth r0 0))) (D.toInt (D.cell (15 : Nat) (nth r0 0))) (D.toInt (D.cell (16 : Nat) (nth r0 0))) (D.toInt (D.cell (17 : Nat) (nth r0 0))) (D.toInt (D.cell (18 : Nat) (nth r0 0))) (D.toInt (D.cell (19 : Nat) (nth r0 0))) (D.toInt (D.cell (20 : Nat) (nth r0 0))) false [] bz b))) := by kernel_rfl
theorem qpd (k n : Nat) (fu : List (Nat × Nat)) (x0 x1 : Int) (z2 : Bool) (l3 : List (Int × Int × Int)) (z4 : Bool) (l5 : List Int) (z6 : Bool) (l7 : List Int) (z8 : Bool) (l9 : List Int) (x10 x11 x12 x13 x14 x15 x16 x17 x18 x19 x20 x21 x22 x23 x24 x25 x26 : Int) (z27 : Bool) (l28 : List (Int × Int × Int)) (z29 : Bool) (l30 : List Int) (z31 : Bool) (l32 : List Int) (z33 : Bool) (l34 : List Int) (x35 x36 x37 x38 x39 x40 x41 x42 x43 x44 x45 x46 x47 x48 x49 x50 x51 : Int) (z52 : Bool) (l53 : List Int) (z54 : Bool) (l55 : List (Int × Int × Int × Int)) : lp k impl_RunActs [] fu 6 (n + 1) (qv5 x0 x1 z2 l3 z4 l5 z6 l7 z8 l9 x10 x11 x12 x13 x14 x15 x16 x17 x18 x19 x20 x21 x22 x23 x24 x25 x26 z27 l28 z29 l30 z31 l32 z33 l34 x35 x36 x37 x38 x39 x40 x41 x42 x43 x44 x45 x46 x47 x48 x49 x50 x51 z52 l53 z54 l55) =
 cond (decide (x1 < x0))
 (cond (decide ((0 : Int) ≤ x1) && decide (x1 < nI (List.length l55)))
 ((go k impl_DoAct [(.agg [(.int .i64 x35), (.arr false z27 (.r3 l28)), (.arr false z29 (.ints .i64 l30)), (.arr false z31 (.ints .i64 l32)), (.arr false z33 (.ints .i64 l34)), (.int .i64 x36), (.int .i64 x37), (.int .i64 x38), (.int .i64 x39), (.int .i64 x40), (.int .i64 x41), (.int .i64 x42), (.int .i64 x43), (.int .i64 x44), (.int .i64 x45), (.int .i64 x46), (.int .i64 x47), (.int .i64 x48), (.int .i64 x49), (.int .i64 x50), (.int .i64 x51)]), (.agg [(.int .i64 (Prod.fst (List.getD l55 (Int.toNat x1) zz4))), (.int .i64 (Prod.fst (Prod.snd (List.getD l55 (Int.toNat x1) zz4)))), (.int .i64 (Prod.fst (Prod.snd (Prod.snd (List.getD l55 (Int.toNat x1) zz4))))), (.int .i64 (Prod.snd (Prod.snd (Prod.snd (List.getD l55 (Int.toNat x1) zz4)))))])]).bind fun r0 =>
 cond (decide (List.length (l53 ++ [D.toInt (nth r0 1)]) ≤ bigLen))
 (lp k impl_RunActs [] fu 6 n (qv5 x0 (IntKind.wrap .i64 (x1 + (1 : Int))) z2 l3 z4 l5 z6 l7 z8 l9 x10 x11 x12 x13 x14 x15 x16 x17 x18 x19 x20 x21 x22 x23 x24 x25 x26 (D.nil (D.cell 1 (nth r0 0))) (D.r3 (D.cell 1 (nth r0 0))) (D.nil (D.cell 2 (nth r0 0))) (D.ints (D.cell 2 (nth r0 0))) (D.nil (D.cell 3 (nth r0 0))) (D.ints (D.cell 3 (nth r0 0))) (D.nil (D.cell 4 (nth r0 0))) (D.ints (D.cell 4 (nth r0 0))) (D.toInt (D.cell 0 (nth r0 0))) (D.toInt (D.cell 5 (nth r0 0))) (D.toInt (D.cell 6 (nth r0 0))) (D.toInt (D.cell 7 (nth r0 0))) (D.toInt (D.cell 8 (nth r0 0))) (D.toInt (D.cell 9 (nth r0 0))) (D.toInt (D.cell 10 (nth r0 0))) (D.toInt (D.cell 11 (nth r0 0))) (D.toInt (D.cell (12 : Nat) (nth r0 0))) (D.toInt (D.cell (13 : Nat) (nth r0 0))) (D.toInt (D.cell (14 : Nat) (nth r0 0))) (D.toInt (D.cell (15 : Nat) (nth r0 0))) (D.toInt (D.cell (16 : Nat) (nth r0 0))) (D.toInt (D.cell (17 : Nat) (nth r0 0))) (D.toInt (D.cell (18 : Nat) (nth r0 0))) (D.toInt (D.cell (19 : Nat) (nth r0 0))) (D.toInt (D.cell (20 : Nat) (nth r0 0))) (z52 && decide (List.length (l53 ++ [D.toInt (nth r0 1)]) = 0)) (l53 ++ [D.toInt (nth r0 1)]) z54 l55))
 none)
 none)
 (some [(.agg [(.int .i64 x35), (.arr true z27 (.r3 l28)), (.arr true z29 (.ints .i64 l30)), (.arr true z31 (.ints .i64 l32)), (.arr true z33 (.ints .i64 l34)), (.int .i64 x36), (.int .i64 x37), (.int .i64 x38), (.int .i64 x39), (.int .i64 x40), (.int .i64 x41), (.int .i64 x42), (.int .i64 x43), (.int .i64 x44), (.int .i64 x45), (.int .i64 x46), (.int .i64 x47), (.int .i64 x48), (.int .i64 x49), (.int .i64 x50), (.int .i64 x51)]), (.arr true z52 (.ints .i64 l53))]) := by kernel_rfl
end Go.Proofs.YtoldpdhhfmlckaaGreat
end
section
namespace Go.Proofs.YtoldpdhhfmlckaaGreat
open Go.Ev
set_option maxRecDepth 20000
def sgl (c d : Int) : Bool := decide (c = 0) && decide (d = 0)
def qaq (a b c d : Int) : Bool := cond (decide (a = 1)) (sgl c d && inR b 1 20) (cond (decide (a = 2)) (sgl c d && inR b 0 10000) (cond (decide (a = 3)) (sgl c d && inR b 0 10000) (cond (decide (a = 4)) (qa7 b c d) (cond (decide (a = 5)) (sgl c d && inR b 0 1000) (cond (decide (a = 6)) (inR b 0 1000000 && (inR c 0 1000000 && inR d 0 100)) (cond (decide (a = 7)) (inR b 0 127 && (inR c 1 10000 && inR d 0 1000)) false))))))
set_option maxHeartbeats 2000000 in
theorem qbc (k : Nat) (hk : 2000000 ≤ k) (a0 : Int) (a1 : Int) (a2 : Int) (a3 : Int) : go (k + 3) impl_ActOk [(.agg [(.int .i64 (a0)), (.int .i64 (a1)), (.int .i64 (a2)), (.int .i64 (a3))])] = some [.bool (qaq a0 a1 a2 a3)] := by
  rw [qh6]
  unfold qaq sgl
  by_cases hc : a2 = 0 <;> by_cases hd : a3 = 0
  all_goals
    by_cases h1 : a0 = 1
    · simp (disch := omega) only [dT, qdk, bit, qa2, nth0, qzn, qhn, dF, qhl, Bool.and_true, Bool.true_and, Bool.and_false, Bool.false_and]
    by_cases h2 : a0 = 2
    · simp (disch := omega) only [dT, dF, bit, qhn, qcz, qa2, nth0, qzn, qhl, Bool.and_true, Bool.true_and, Bool.and_false, Bool.false_and]
    by_cases h3 : a0 = 3
    · simp (disch := omega) only [dT, dF, bit, qhn, qcz, qa2, nth0, qzn, qhl, Bool.and_true, Bool.true_and, Bool.and_false, Bool.false_and]
    by_cases h4 : a0 = 4
    · simp (disch := omega) only [dT, dF, bit, qhn, qbe, qa2, nth0, qzn, qhl, Bool.and_true, Bool.true_and, Bool.and_false, Bool.false_and]
    by_cases h5 : a0 = 5
    · simp (disch := omega) only [dT, dF, bit, qhn, qc0, qa2, nth0, qzn, qhl, Bool.and_true, Bool.true_and, Bool.and_false, Bool.false_and]
    by_cases h6 : a0 = 6
    · simp (disch := omega) only [dT, dF, qdk, bit, qa2, nth0, qzn, qhn, qhp, qhl, Bool.and_true, Bool.true_and, Bool.and_false, Bool.false_and]
    by_cases h7 : a0 = 7
    · simp (disch := omega) only [dT, dF, qdk, bit, qa2, nth0, qzn, qhn, qhp, qhl, Bool.and_true, Bool.true_and, Bool.and_false, Bool.false_and]
    simp (disch := omega) only [dT, dF, bit, qhn, qhl, Bool.and_true, Bool.true_and, Bool.and_false, Bool.false_and]
set_option maxHeartbeats 2000000 in
theorem qew (k : Nat) (hk : 2000000 ≤ k) (a0 : Int) (a1 : Int) (a2 : Int) (a3 : Int) : go (k + 3) spec_ActOk [(.agg [(.int .i64 (a0)), (.int .i64 (a1)), (.int .i64 (a2)), (.int .i64 (a3))])] = some [.bool (qaq a0 a1 a2 a3)] := by
  rw [qlz]
  unfold qaq sgl
  by_cases hc : a2 = 0 <;> by_cases hd : a3 = 0
  all_goals
    by_cases h1 : a0 = 1
    · simp (disch := omega) only [qnr, dF, qhl, Bool.and_true, dT, qfu, bit, qa2, nth0, qzn, qhn, qgt, qzo, dTT, qgu, qg5, qg7, Bool.not_true, Bool.true_and, Bool.and_false, Bool.not_false, Bool.false_and]
    by_cases h2 : a0 = 2
    · simp (disch := omega) only [qnr, dF, qhl, Bool.and_true, qfu, bit, qa2, nth0, qzn, dT, qhn, qgt, qzo, dTT, qgu, qg5, qg7, Bool.not_true, Bool.true_and, Bool.and_false, Bool.not_false, Bool.false_and]
    by_cases h3 : a0 = 3
    · simp (disch := omega) only [qnr, dF, qhl, Bool.and_true, qfu, bit, qa2, nth0, qzn, dT, qhn, qgt, qzo, dTT, qgu, qg5, qg7, Bool.not_true, Bool.true_and, Bool.and_false, Bool.not_false, Bool.false_and]
    by_cases h4 : a0 = 4
    · simp (disch := omega) only [qnr, dT, dF, qhl, qhn, Bool.and_true, bit, qey, qa2, nth0, qzn, qgt, qzo, dTT, qgu, qg5, qg7, Bool.not_true, Bool.true_and, Bool.and_false, Bool.false_and]
    by_cases h5 : a0 = 5
    · simp (disch := omega) only [qnr, dF, qhl, Bool.and_true, qfu, bit, qa2, nth0, qzn, dT, qhn, qgt, qzo, dTT, qgu, qg5, qg7, Bool.not_true, Bool.true_and, Bool.and_false, Bool.not_false, Bool.false_and]
    by_cases h6 : a0 = 6
    · simp (disch := omega) only [qnr, dF, dT, qhl, qhn, Bool.and_true, qfu, bit, qa2, nth0, qzn, qhp, qgt, qzo, dTT, qgu, qg5, qg7, Bool.not_true, Bool.true_and, Bool.and_false, Bool.false_and]
    by_cases h7 : a0 = 7
    · simp (disch := omega) only [qnr, dF, dT, qhn, qhl, Bool.and_true, qfu, bit, qa2, nth0, qzn, qhp, qgt, qzo, dTT, qgu, qg5, qg7, Bool.not_true, Bool.true_and, Bool.and_false, Bool.false_and]
    simp (disch := omega) only [qnr, dF, qhl, Bool.and_true, bit, qa2, nth0, qgt, qzo, dTT, qgu, qg5, dT, qg7, Bool.not_true, Bool.true_and, Bool.and_false, Bool.not_false, qhn, Bool.false_and]
abbrev wdP (w : Wd) : D := .ptr true [.int .i64 w.r, .arr true false (.r3 w.s.1), .arr true false (.ints .i64 w.s.2.1), .arr true false (.ints .i64 w.s.2.2), .arr true false (.ints .i64 w.b), .int .i64 w.p.bi, .int .i64 w.p.bs, .int .i64 w.p.bo, .int .i64 w.p.rain, .int .i64 w.p.loss, .int .i64 w.p.dec, .int .i64 w.p.high, .int .i64 w.p.low, .int .i64 w.p.every, .int .i64 w.k, .int .i64 w.ld.mi, .int .i64 w.ld.mo, .int .i64 w.ld.ti, .int .i64 w.ld.ou, .int .i64 w.f, .int .i64 w.g]
def qh4 (w : Wd) (p m h : Int) : Bool := qh1 w.r w.s.1 w.s.2.1 w.s.2.2 w.b w.p.bi w.p.bs w.p.bo w.p.rain w.p.loss w.p.dec w.p.high w.p.low w.p.every w.k w.ld.mi w.ld.mo w.ld.ti w.ld.ou w.f w.g p m h
def drp1 (w : Wd) (p m h : Int) : Wd := { w with s := (w.s.1, w.s.2.1.set (qq2 w.r w.s.1 p).toNat (w.s.2.1.getD (qq2 w.r w.s.1 p).toNat 0 + m), w.s.2.2.set (qq2 w.r w.s.1 p).toNat (w.s.2.2.getD (qq2 w.r w.s.1 p).toNat 0 + m * h)), ld := { w.ld with mi := w.ld.mi + m, ti := w.ld.ti + m * h } }
def drp (w : Wd) (p m h : Int) : Wd := cond (qh4 w p m h) (drp1 w p m h) w
theorem qbm (k : Nat) (hk : 2000000 ≤ k) (w : Wd) (p m h : Int) (S : Sml w) : go (k + 10) impl_Drop [wdR w, .int .i64 p, .int .i64 m, .int .i64 h] = some [wdO (drp w p m h), .bool (qh4 w p m h)] := by
  have e := qbl k hk w.r w.s.1 w.s.2.1 w.s.2.2 w.b w.p.bi w.p.bs w.p.bo w.p.rain w.p.loss w.p.dec w.p.high w.p.low w.p.every w.k w.ld.mi w.ld.mo w.ld.ti w.ld.ou w.f w.g p m h S.h1 S.h2 S.h3 S.h4
  refine e.trans ?_
  unfold drp
  cases g : qh4 w p m h
  · unfold qh4 at g; rw [g]; rfl
  · unfold qh4 at g; rw [g]; rfl
theorem qe4 (k : Nat) (hk : 2000000 ≤ k) (w : Wd) (p m h : Int) (S : Sml w) : go (k + 9) spec_Drop [wdR w, .int .i64 p, .int .i64 m, .int .i64 h] = some [wdO (drp w p m h), .bool (qh4 w p m h)] := by
  have e := qe3 k hk w.r false w.s.1 false w.s.2.1 false w.s.2.2 false w.b w.p.bi w.p.bs w.p.bo w.p.rain w.p.loss w.p.dec w.p.high w.p.low w.p.every w.k w.ld.mi w.ld.mo w.ld.ti w.ld.ou w.f w.g p m h S.h1 S.h2 S.h3 S.h4
  refine e.trans ?_
  unfold drp
  cases g : qh4 w p m h
  · unfold qh4 at g; rw [g]; rfl
  · unfold qh4 at g; rw [g]; rfl
def actW (w : Wd) (a b c d : Int) : Wd × Int :=
  if a = 1 then (adv w b, isum (adv w b).s.2.1) else if a = 2 then ({ w with p := { w.p with rain := b } }, 1) else if a = 3 then ({ w with p := { w.p with loss := b } }, 1) else if a = 4 then ({ w with p := { w.p with bi := b, bs := c, bo := d } }, 1) else
  if a = 5 then ({ w with p := { w.p with dec := b } }, 1) else if a = 6 then ({ w with p := { w.p with high := b, low := c, every := d } }, (w.s.1.length : Int)) else (drp w b c d, cond (qh4 w b c d) 1 0)
def doW (w : Wd) (a b c d : Int) : Wd × Int := cond (wdOk w && qaq a b c d) (actW w a b c d) (w, -1)
theorem qaw {w : Wd} (h : wdOk w = true) (n : Int) : StF (adv w n).r (adv w n).s.1 (adv w n).s.2.1 (adv w n).s.2.2 (adv w n).b := by
  unfold adv
  cases g : qav w n
  · exact (wdF h).F
  · exact (qau n.toNat w 0 (wdF h).adv).F
theorem qca (k : Nat) (hk : 2000000 ≤ k) (r : Int) (l : List Cell) (m t b : List Int) (F : StF r l m t b) : go (k + 9) impl_TotalMass [.agg [.int .i64 (r), .arr false (false) (.r3 (l)), .arr false (false) (.ints .i64 (m)), .arr false (false) (.ints .i64 (t)), .arr false (false) (.ints .i64 (b))]] = some [.int .i64 (isum m)] := by
  rw [qjx]
  have := F.len; have := F.ml; have := F.tl; have := F.rr; have := F.bl
  have g := stF.2 F
  have eS := qdg (k + 7) (by omega) false m (by omega) F.mmem
  simp (disch := omega) only [qb8, g, bit, eS, qa2, nth0, qzo, qzn, Bool.not_true, qhl]
theorem qar {a b c d : Int} (h : qaq a b c d = true) : 1 ≤ a ∧ a ≤ 7 := by
  unfold qaq at h
  by_cases h1 : a = 1
  · omega
  by_cases h2 : a = 2
  · omega
  by_cases h3 : a = 3
  · omega
  by_cases h4 : a = 4
  · omega
  by_cases h5 : a = 5
  · omega
  by_cases h6 : a = 6
  · omega
  by_cases h7 : a = 7
  · omega
  rw [dF h1, dF h2, dF h3, dF h4, dF h5, dF h6, dF h7] at h
  cases h
set_option maxHeartbeats 2000000 in
theorem qcq (k : Nat) (hk : 2000000 ≤ k) (w : Wd) (a b c d : Int) (hw : wdOk w = true) (ha : qaq a b c d = true) :
    go (k + 13) impl_World_do [wdP w, .agg [.int .i64 a, .int .i64 b, .int .i64 c, .int .i64 d]] = some [.int .i64 (actW w a b c d).2, wdP (actW w a b c d).1] := by
  rw [qj1]
  have F := (wdF hw).F
  have S := F.sml
  have L := F.len
  have s1 := S.h1
  have kd := qar ha
  unfold actW
  by_cases h1 : a = 1
  · have G := qaw hw b
    have eA := qbd k (by omega) w b S
    have eT := qca (k + 3) (by omega) _ _ _ _ _ G
    rw [if_pos h1]
    simp (disch := omega) only [dT, eA, qa2, nth0, qgt, qzo, qgu, qt9, quz, qg5, qoq, qg7, qg8, eT, qg9, qha, qhb, qhc, qhd, qgv, qgw, qgx, qgy, qgz, qg0, qg1, qg2, qg3, qg4, qg6, dF, nI, bit, qhl, qhn]
  rw [if_neg h1]
  by_cases h2 : a = 2
  · rw [if_pos h2]; simp (disch := omega) only [dF, dT, nI, bit, qhl, qhn]
  rw [if_neg h2]
  by_cases h3 : a = 3
  · rw [if_pos h3]; simp (disch := omega) only [dF, dT, nI, bit, qhl, qhn]
  rw [if_neg h3]
  by_cases h4 : a = 4
  · rw [if_pos h4]; simp (disch := omega) only [dF, dT, nI, bit, qhl, qhn]
  rw [if_neg h4]
  by_cases h5 : a = 5
  · rw [if_pos h5]; simp (disch := omega) only [dF, dT, nI, bit, qhl, qhn]
  rw [if_neg h5]
  by_cases h6 : a = 6
  · rw [if_pos h6]; simp (disch := omega) only [dF, dT, nI, bit, qhl, qhn]
  rw [if_neg h6]
  have h7 : a = 7 := by omega
  have eD := qbm (k + 2) (by omega) w b c d S
  cases g : qh4 w b c d
  · rw [g] at eD; simp (disch := omega) only [dF, nI, dT, eD, bit, qa2, nth1, qzn, Bool.not_false, nth0, qgt, qzo, qgu, qt9, quz, qg5, qoq, qg7, qg8, qg9, qha, qhb, qhc, qhd, qgv, qgw, qgx, qgy, qgz, qg0, qg1, qg2, qg3, qg4, qg6, qhn, qhl]
  · rw [g] at eD; simp (disch := omega) only [dF, nI, dT, eD, bit, qa2, nth1, qzn, Bool.not_true, nth0, qgt, qzo, qgu, qt9, quz, qg5, qoq, qg7, qg8, qg9, qha, qhb, qhc, qhd, qgv, qgw, qgx, qgy, qgz, qg0, qg1, qg2, qg3, qg4, qg6, qhl, qhn]
set_option maxHeartbeats 2000000 in
theorem qbk (k : Nat) (hk : 2000000 ≤ k) (w : Wd) (a b c d : Int) (S : Sml w) :
    go (k + 14) impl_DoAct [wdR w, .agg [.int .i64 a, .int .i64 b, .int .i64 c, .int .i64 d]] = some [wdO (doW w a b c d).1, .int .i64 (doW w a b c d).2] := by
  rw [qie]
  have eC := qco (k + 9) (by omega) w S
  have eO := qce (k + 4) (by omega) w S
  unfold doW
  cases g : wdOk w
  · rw [g] at eO
    simp (disch := omega) only [eC, eO, bit, qa2, nth0, qzn, Bool.not_false, qhn, qgt, qzo, qgu, qt9, quz, qg5, qoq, qg7, qg8, qg9, qha, qhb, qhc, qhd, qgv, qgw, qgx, qgy, qgz, qg0, qg1, qg2, qg3, qg4, qg6, Bool.false_and, qhl]
  rw [g] at eO
  cases g2 : qaq a b c d
  · simp (disch := omega) only [eC, eO, bit, qbc, g2, qa2, nth0, qzn, Bool.not_false, qhn, Bool.not_true, qhl, qgt, qzo, qgu, qt9, quz, qg5, qoq, qg7, qg8, qg9, qha, qhb, qhc, qhd, qgv, qgw, qgx, qgy, qgz, qg0, qg1, qg2, qg3, qg4, qg6, Bool.and_false]
  have eD := qcq k (by omega) w a b c d g g2
  simp (disch := omega) only [eC, eO, bit, qbc, g2, qa2, nth0, qzn, Bool.not_true, qhl, qgt, qzo, qgu, qt9, quz, qg5, qoq, qg7, qg8, qg9, qha, qhb, qhc, qhd, qgv, qgw, qgx, qgy, qgz, qg0, qg1, qg2, qg3, qg4, qg6, eD, nth1, Bool.and_true, qhn]
  rfl
set_option maxHeartbeats 2000000 in
theorem qe2 (k : Nat) (hk : 2000000 ≤ k) (w : Wd) (a b c d : Int) (S : Sml w) :
    go (k + 10) spec_DoAct [wdR w, .agg [.int .i64 a, .int .i64 b, .int .i64 c, .int .i64 d]] = some [wdO (doW w a b c d).1, .int .i64 (doW w a b c d).2] := by
  rw [ql5]
  have eC := qgl (k + 6) (by omega) w S
  have eO := qfr (k + 1) (by omega) w S
  unfold doW
  cases g : wdOk w
  · rw [g] at eO
    simp (disch := omega) only [eC, eO, bit, nI, qa2, nth0, qzn, Bool.not_false, qhn, qgt, qzo, qgu, qt9, quz, qg5, qoq, qg7, qg8, qg9, qha, qhb, qhc, qhd, qgv, qgw, qgx, qgy, qgz, qg0, qg1, qg2, qg3, qg4, qg6, Bool.false_and, qhl]
  rw [g] at eO
  cases g2 : qaq a b c d
  · simp (disch := omega) only [eC, eO, bit, qew, g2, nI, qa2, nth0, qzn, Bool.not_false, qhn, Bool.not_true, qhl, qgt, qzo, qgu, qt9, quz, qg5, qoq, qg7, qg8, qg9, qha, qhb, qhc, qhd, qgv, qgw, qgx, qgy, qgz, qg0, qg1, qg2, qg3, qg4, qg6, Bool.and_false]
  have F := (wdF g).F
  have L := F.len; have ml := F.ml
  have kd := qar g2
  simp only [Bool.and_self, qhn]
  unfold actW
  by_cases h1 : a = 1
  · have G := qaw g b
    have GL := G.len; have Gm := G.ml
    have eA := qex k (by omega) w b S
    have eT := qf4 (k + 8) (by omega) false _ (by omega) G.mmem
    rw [if_pos h1]
    simp (disch := omega) only [eC, eO, bit, qew, g2, dT, eA, qa2, nth0, qg5, qt9, qoq, eT, qgt, qzo, qgu, quz, qg7, qg8, qg9, qha, qhb, qhc, qhd, qgv, qgw, qgx, qgy, qgz, qg0, qg1, qg2, qg3, qg4, qg6, dF, nI, qhl, qhn, qzn, Bool.not_true]
  rw [if_neg h1]
  by_cases h2 : a = 2
  · rw [if_pos h2]; simp (disch := omega) only [eC, eO, bit, qew, g2, dF, dT, nI, qhl, qhn, qa2, nth0, qzn, Bool.not_true, qgt, qzo, qgu, qt9, quz, qg5, qoq, qg7, qg8, qg9, qha, qhb, qhd, qgv, qgw, qgx, qgy, qgz, qg0, qg1, qg2, qg3, qg4, qg6]
  rw [if_neg h2]
  by_cases h3 : a = 3
  · rw [if_pos h3]; simp (disch := omega) only [eC, eO, bit, qew, g2, dF, dT, nI, qhl, qhn, qa2, nth0, qzn, Bool.not_true, qgt, qzo, qgu, qt9, quz, qg5, qoq, qg7, qg8, qg9, qha, qhb, qhc, qgv, qgw, qgx, qgy, qgz, qg0, qg1, qg2, qg3, qg4, qg6]
  rw [if_neg h3]
  by_cases h4 : a = 4
  · rw [if_pos h4]; simp (disch := omega) only [eC, eO, bit, qew, g2, dF, dT, nI, qhl, qhn, qa2, nth0, qzn, Bool.not_true, qgt, qzo, qgu, qt9, quz, qg5, qoq, qg7, qg8, qhc, qhd, qgv, qgw, qgx, qgy, qgz, qg0, qg1, qg2, qg3, qg4, qg6]
  rw [if_neg h4]
  by_cases h5 : a = 5
  · rw [if_pos h5]; simp (disch := omega) only [eC, eO, bit, qew, g2, dF, dT, nI, qhl, qhn, qa2, nth0, qzn, Bool.not_true, qgt, qzo, qgu, qt9, quz, qg5, qoq, qg7, qg8, qg9, qha, qhb, qhc, qhd, qgw, qgx, qgy, qgz, qg0, qg1, qg2, qg3, qg4, qg6]
  rw [if_neg h5]
  by_cases h6 : a = 6
  · rw [if_pos h6]; simp (disch := omega) only [eC, eO, bit, qew, g2, dF, dT, nI, qhn, qhl, qa2, nth0, qzn, Bool.not_true, qgt, qzo, qgu, qt9, quz, qg5, qoq, qg7, qg8, qg9, qha, qhb, qhc, qhd, qgv, qgz, qg0, qg1, qg2, qg3, qg4, qg6, ml]
  rw [if_neg h6]
  have h7 : a = 7 := by omega
  have eD := qe4 k (by omega) w b c d S
  cases q : qh4 w b c d
  · rw [q] at eD; simp (disch := omega) only [eC, eO, bit, qew, g2, dF, nI, eD, qa2, nth1, qzn, Bool.not_false, nth0, qgt, qzo, qgu, qt9, quz, qg5, qoq, qg7, qg8, qg9, qha, qhb, qhc, qhd, qgv, qgw, qgx, qgy, qgz, qg0, qg1, qg2, qg3, qg4, qg6, qhn, qhl, Bool.not_true]
  · rw [q] at eD; simp (disch := omega) only [eC, eO, bit, qew, g2, dF, nI, eD, qa2, nth1, qzn, Bool.not_true, nth0, qgt, qzo, qgu, qt9, quz, qg5, qoq, qg7, qg8, qg9, qha, qhb, qhc, qhd, qgv, qgw, qgx, qgy, qgz, qg0, qg1, qg2, qg3, qg4, qg6, qhl, qhn]
end Go.Proofs.YtoldpdhhfmlckaaGreat
end
section
namespace Go.Proofs.YtoldpdhhfmlckaaGreat
open Go.Ev
set_option maxRecDepth 20000
abbrev Acts := List (Int × Int × Int × Int)
def runN (acts : Acts) : Nat → Wd → Wd × List Int
  | 0, w => (w, [])
  | n + 1, w => ((doW (runN acts n w).1 (acts.getD n zz4).1 (acts.getD n zz4).2.1 (acts.getD n zz4).2.2.1 (acts.getD n zz4).2.2.2).1, (runN acts n w).2 ++ [(doW (runN acts n w).1 (acts.getD n zz4).1 (acts.getD n zz4).2.1 (acts.getD n zz4).2.2.1 (acts.getD n zz4).2.2.2).2])
theorem qvs (acts : Acts) : ∀ (n : Nat) (w : Wd), (runN acts n w).2.length = n
  | 0, w => rfl
  | n + 1, w => by simp [runN, qvs acts n w]
theorem qh5 {w : Wd} (S : Sml w) (p m h : Int) : Sml (drp w p m h) := by
  unfold drp
  cases qh4 w p m h
  · exact S
  · exact ⟨S.h1, by show ((List.set _ _ _).length : Int) ≤ _; rw [List.length_set]; exact S.h2, by show ((List.set _ _ _).length : Int) ≤ _; rw [List.length_set]; exact S.h3, S.h4⟩
theorem qay {w : Wd} (h : Sml w) (n : Int) : Sml (adv w n) := by
  unfold adv
  cases g : qav w n
  · exact h
  · simp only [qav, Bool.and_eq_true] at g
    exact ((qau n.toNat w 0 (wdF g.1).adv).F).sml
theorem qh0 {w : Wd} (S : Sml w) (a b c d : Int) : Sml (doW w a b c d).1 := by
  unfold doW
  cases wdOk w && qaq a b c d
  · exact S
  · simp only [qhn]
    unfold actW
    by_cases h1 : a = 1
    · rw [if_pos h1]; exact qay S b
    rw [if_neg h1]
    by_cases h2 : a = 2
    · rw [if_pos h2]; exact ⟨S.h1, S.h2, S.h3, S.h4⟩
    rw [if_neg h2]
    by_cases h3 : a = 3
    · rw [if_pos h3]; exact ⟨S.h1, S.h2, S.h3, S.h4⟩
    rw [if_neg h3]
    by_cases h4 : a = 4
    · rw [if_pos h4]; exact ⟨S.h1, S.h2, S.h3, S.h4⟩
    rw [if_neg h4]
    by_cases h5 : a = 5
    · rw [if_pos h5]; exact ⟨S.h1, S.h2, S.h3, S.h4⟩
    rw [if_neg h5]
    by_cases h6 : a = 6
    · rw [if_pos h6]; exact ⟨S.h1, S.h2, S.h3, S.h4⟩
    rw [if_neg h6]
    exact qh5 S b c d
theorem qvt (acts : Acts) {w : Wd} (S : Sml w) : ∀ n, Sml (runN acts n w).1
  | 0 => S
  | n + 1 => qh0 (qvt acts S n) _ _ _ _
set_option maxHeartbeats 2000000 in
theorem qrt (k : Nat) (hk : 2000000 ≤ k) (fu : List (Nat × Nat)) (acts : Acts) (hl : acts.length ≤ 30) (zz : Bool) (w0 : Wd) (S : Sml w0) (z2 : Bool) (l3 : List Cell) (z4 : Bool) (l5 : List Int) (z6 : Bool) (l7 : List Int) (z8 : Bool) (l9 : List Int) (x10 x11 x12 x13 x14 x15 x16 x17 x18 x19 x20 x21 x22 x23 x24 x25 x26 : Int) : ∀ (N i : Nat) (w : Wd) (L : List Int), w = (runN acts i w0).1 → L = (runN acts i w0).2 → i ≤ acts.length → acts.length - i < N →
    lp (k + 14) impl_RunActs [] fu 6 (N) (qv5 (acts.length : Int) (i : Int) z2 l3 z4 l5 z6 l7 z8 l9 x10 x11 x12 x13 x14 x15 x16 x17 x18 x19 x20 x21 x22 x23 x24 x25 x26 false w.s.1 false w.s.2.1 false w.s.2.2 false w.b w.r w.p.bi w.p.bs w.p.bo w.p.rain w.p.loss w.p.dec w.p.high w.p.low w.p.every w.k w.ld.mi w.ld.mo w.ld.ti w.ld.ou w.f w.g false L zz acts) = some [wdO (runN acts acts.length w0).1, .arr true false (.ints .i64 (runN acts acts.length w0).2)]
  | 0, i, w, L, ew, eL, hi, hN => by omega
  | N + 1, i, w, L, ew, eL, hi, hN => by
    rw [qpd]
    by_cases g : i < acts.length
    · have T := qvt acts S i
      rw [← ew] at T
      have e1 : (runN acts (i + 1) w0).1 = (doW w (acts.getD i zz4).1 (acts.getD i zz4).2.1 (acts.getD i zz4).2.2.1 (acts.getD i zz4).2.2.2).1 := by rw [runN, ← ew]
      have e2 : (runN acts (i + 1) w0).2 = L ++ [(doW w (acts.getD i zz4).1 (acts.getD i zz4).2.1 (acts.getD i zz4).2.2.1 (acts.getD i zz4).2.2.2).2] := by rw [runN, ← ew, ← eL]
      have IH := qrt k hk fu acts hl zz w0 S z2 l3 z4 l5 z6 l7 z8 l9 x10 x11 x12 x13 x14 x15 x16 x17 x18 x19 x20 x21 x22 x23 x24 x25 x26 N (i + 1) _ _ e1.symm e2.symm (by omega) (by omega)
      have eD := qbk k (by omega) w (acts.getD i zz4).1 (acts.getD i zz4).2.1 (acts.getD i zz4).2.2.1 (acts.getD i zz4).2.2.2 T
      have ll := qvs acts (i + 1) w0
      rw [e2] at ll
      generalize doW w (acts.getD i zz4).1 (acts.getD i zz4).2.1 (acts.getD i zz4).2.2.1 (acts.getD i zz4).2.2.2 = X at *
      simp (disch := omega) only [dT, nI, Bool.and_true, Int.toNat_natCast, eD, big0, qgr, q0f, Bool.false_and, qa2, nth1, qzo, ll, nth0, qgu, qt9, quz, qg5, qoq, qg7, qg8, qgt, qg9, qha, qhb, qhc, qhd, qgv, qgw, qgx, qgy, qgz, qg0, qg1, qg2, qg3, qg4, qg6, IH, qhn]
    · have : i = acts.length := by omega
      subst this
      subst ew; subst eL
      simp (disch := omega) only [dF, dT, nI, Bool.and_false, Int.toNat_natCast, big0, qgr, q0f, Bool.false_and, qhl]
set_option maxHeartbeats 2000000 in
theorem qsw (k : Nat) (hk : 2000000 ≤ k) (fu : List (Nat × Nat)) (acts : Acts) (hl : acts.length ≤ 30) (zz : Bool) (w0 : Wd) (S : Sml w0) (z3 : Bool) (l4 : List Cell) (z5 : Bool) (l6 : List Int) (z7 : Bool) (l8 : List Int) (z9 : Bool) (l10 : List Int) (x11 x12 x13 x14 x15 x16 x17 x18 x19 x20 x21 x22 x23 x24 x25 x26 x27 : Int) : ∀ (N i : Nat) (w : Wd) (L : List Int), w = (runN acts i w0).1 → L = (runN acts i w0).2 → i ≤ acts.length → acts.length - i < N →
    lp (k + 10) spec_RunActs [] fu 6 (N) (qxc (i : Int) zz acts z3 l4 z5 l6 z7 l8 z9 l10 x11 x12 x13 x14 x15 x16 x17 x18 x19 x20 x21 x22 x23 x24 x25 x26 x27 false w.s.1 false w.s.2.1 false w.s.2.2 false w.b w.r w.p.bi w.p.bs w.p.bo w.p.rain w.p.loss w.p.dec w.p.high w.p.low w.p.every w.k w.ld.mi w.ld.mo w.ld.ti w.ld.ou w.f w.g false L) = some [wdO (runN acts acts.length w0).1, .arr true false (.ints .i64 (runN acts acts.length w0).2)]
  | 0, i, w, L, ew, eL, hi, hN => by omega
  | N + 1, i, w, L, ew, eL, hi, hN => by
    rw [qqk]
    by_cases g : i < acts.length
    · have T := qvt acts S i
      rw [← ew] at T
      have e1 : (runN acts (i + 1) w0).1 = (doW w (acts.getD i zz4).1 (acts.getD i zz4).2.1 (acts.getD i zz4).2.2.1 (acts.getD i zz4).2.2.2).1 := by rw [runN, ← ew]
      have e2 : (runN acts (i + 1) w0).2 = L ++ [(doW w (acts.getD i zz4).1 (acts.getD i zz4).2.1 (acts.getD i zz4).2.2.1 (acts.getD i zz4).2.2.2).2] := by rw [runN, ← ew, ← eL]
      have IH := qsw k hk fu acts hl zz w0 S z3 l4 z5 l6 z7 l8 z9 l10 x11 x12 x13 x14 x15 x16 x17 x18 x19 x20 x21 x22 x23 x24 x25 x26 x27 N (i + 1) _ _ e1.symm e2.symm (by omega) (by omega)
      have eD := qe2 k (by omega) w (acts.getD i zz4).1 (acts.getD i zz4).2.1 (acts.getD i zz4).2.2.1 (acts.getD i zz4).2.2.2 T
      have ll := qvs acts (i + 1) w0
      rw [e2] at ll
      generalize doW w (acts.getD i zz4).1 (acts.getD i zz4).2.1 (acts.getD i zz4).2.2.1 (acts.getD i zz4).2.2.2 = X at *
      simp (disch := omega) only [nI, dT, Bool.and_true, Int.toNat_natCast, eD, big0, qgr, q0f, Bool.false_and, qa2, nth1, qzo, ll, nth0, qgu, qt9, quz, qg5, qoq, qg7, qg8, qgt, qg9, qha, qhb, qhc, qhd, qgv, qgw, qgx, qgy, qgz, qg0, qg1, qg2, qg3, qg4, qg6, IH, qhn]
    · have : i = acts.length := by omega
      subst this
      subst ew; subst eL
      simp (disch := omega) only [nI, dF, dT, Bool.and_false, Int.toNat_natCast, big0, qgr, q0f, Bool.false_and, qhl]
def qvu (w : Wd) (acts : Acts) : Bool := wdOk w && decide ((acts.length : Int) ≤ 30)
def runW (w : Wd) (acts : Acts) : Wd × List Int := cond (qvu w acts) (runN acts acts.length w) (w, [])
theorem qb2 (k : Nat) (hk : 2000000 ≤ k) (w : Wd) (z : Bool) (acts : Acts) (S : Sml w) (hl : (acts.length : Int) ≤ 1048576) : go (k + 15) impl_RunActs [wdR w, .arr false z (.r4 acts)] = some [wdO (runW w acts).1, .arr true (!(qvu w acts)) (.ints .i64 (runW w acts).2)] := by
  rw [qi5]
  have eC := qco (k + 10) (by omega) w S
  have eO := qce (k + 5) (by omega) w S
  unfold runW qvu
  cases g : wdOk w
  · rw [g] at eO
    simp (disch := omega) only [eC, eO, bit, nI, qa2, nth0, qzn, Bool.not_false, qhn, qgt, qzo, qgu, qt9, quz, qg5, qoq, qg7, qg8, qg9, qha, qhb, qhc, qhd, qgv, qgw, qgx, qgy, qgz, qg0, qg1, qg2, qg3, qg4, qg6, Bool.false_and, qhl]
  rw [g] at eO
  by_cases g2 : (acts.length : Int) ≤ 30
  case neg => simp (disch := omega) only [eC, eO, bit, nI, dT, qhn, qa2, nth0, qzn, Bool.not_true, qhl, qgt, qzo, qgu, qt9, quz, qg5, qoq, qg7, qg8, qg9, qha, qhb, qhc, qhd, qgv, qgw, qgx, qgy, qgz, qg0, qg1, qg2, qg3, qg4, qg6, dF, Bool.and_false, Bool.not_false]
  have e := qrt k hk [] acts (by omega) z w S true [] true [] true [] true [] 0 0 0 0 0 0 0 0 0 0 0 0 0 0 0 0 0 (k + 14) 0 w [] rfl rfl (by omega) (by omega)
  rw [show ((0 : Nat) : Int) = 0 from rfl] at e
  simp (disch := omega) only [eC, eO, bit, nI, dF, qhl, qa2, nth0, qzn, Bool.not_true, qgu, qt9, quz, qg5, qoq, qg7, qg8, qgt, qzo, qg9, qha, qhb, qhc, qhd, qgv, qgw, qgx, qgy, qgz, qg0, qg1, qg2, qg3, qg4, qg6, dT, Bool.and_true, qhn]
  exact e
theorem qfh (k : Nat) (hk : 2000000 ≤ k) (w : Wd) (z : Bool) (acts : Acts) (S : Sml w) (hl : (acts.length : Int) ≤ 1048576) : go (k + 11) spec_RunActs [wdR w, .arr false z (.r4 acts)] = some [wdO (runW w acts).1, .arr true false (.ints .i64 (runW w acts).2)] := by
  rw [qml]
  have eC := qgl (k + 7) (by omega) w S
  have eO := qfr (k + 2) (by omega) w S
  unfold runW qvu
  cases g : wdOk w
  · rw [g] at eO
    simp (disch := omega) only [eC, eO, bit, nI, qa2, nth0, qzn, Bool.not_false, qhn, qgt, qzo, qgu, qt9, quz, qg5, qoq, qg7, qg8, qg9, qha, qhb, qhc, qhd, qgv, qgw, qgx, qgy, qgz, qg0, qg1, qg2, qg3, qg4, qg6, Bool.false_and, qhl]
  rw [g] at eO
  by_cases g2 : (acts.length : Int) ≤ 30
  case neg => simp (disch := omega) only [eC, eO, bit, nI, dT, qhn, qa2, nth0, qzn, Bool.not_true, qhl, qgt, qzo, qgu, qt9, quz, qg5, qoq, qg7, qg8, qg9, qha, qhb, qhc, qhd, qgv, qgw, qgx, qgy, qgz, qg0, qg1, qg2, qg3, qg4, qg6, dF, Bool.and_false]
  have e := qsw k hk [] acts (by omega) z w S true [] true [] true [] true [] 0 0 0 0 0 0 0 0 0 0 0 0 0 0 0 0 0 (k + 10) 0 w [] rfl rfl (by omega) (by omega)
  rw [show ((0 : Nat) : Int) = 0 from rfl] at e
  simp (disch := omega) only [eC, eO, bit, nI, dF, qhl, qa2, nth0, qzn, Bool.not_true, qgu, qt9, quz, qg5, qoq, qg7, qg8, qgt, qzo, qg9, qha, qhb, qhc, qhd, qgv, qgw, qgx, qgy, qgz, qg0, qg1, qg2, qg3, qg4, qg6, dT, Bool.and_true, qhn]
  exact e
theorem qvv (w : Wd) (acts : Acts) : (runW w acts).2.length ≤ 30 := by
  unfold runW
  cases g : qvu w acts
  · simp
  · simp only [qvu, Bool.and_eq_true, decide_eq_true_eq] at g
    rw [qhn, qvs]; omega
theorem qvw {w : Wd} (S : Sml w) (acts : Acts) : Sml (runW w acts).1 := by
  unfold runW
  cases qvu w acts
  · exact S
  · exact qvt acts S _
end Go.Proofs.YtoldpdhhfmlckaaGreat
end
