/- What the program's functions compute, and plain facts of it (part 1). No condition beyond those that each theorem states. -/
import Derived.Test.YtoldpdhhfmlckaaGreatQC3
set_option linter.unusedVariables false
set_option linter.unusedSimpArgs false
section
namespace Go.Proofs.YtoldpdhhfmlckaaGreat
open Go.Ev
theorem qxy {α : Type} (l m : List α) (i : Nat) (x : α) (t : List α) (h : i < l.length) : (l.set i x).take (i + 1) ++ t = l.take i ++ (x :: t) := by
  have : (l.set i x).take (i + 1) = l.take i ++ [x] := by
    rw [List.take_succ_eq_append_getElem (by simp; omega)]
    simp [List.take_set_of_le]
  rw [this]; simp
end Go.Proofs.YtoldpdhhfmlckaaGreat
end
section
namespace Go.Proofs.YtoldpdhhfmlckaaGreat
open Go.Ev
def qwt (x0 x1 : Int) (z2 : Bool) (l3 : List (Int × Int × Int)) : St := ⟨fill 34 [(0, (.sl 0 none)), (1, (.int .i64 (x0))), (5, (.int .i64 (x1)))], [(.sl 0 none)], [(.arr true (z2) (.r3 (l3)))]⟩
theorem qk6 (k : Nat) (az : Bool) (a : List (Int × Int × Int)) (b : Int) : go (k + 1) laws_markIdS [(.arr true (az) (.r3 (a))), (.int .i64 (b))] =
 lp k laws_markIdS [(.arr true (az) (.r3 (a)))] [] 2 k (qwt b (0 : Int) az a) := by kernel_rfl
theorem qp1 (k n : Nat) (fu : List (Nat × Nat)) (az : Bool) (a : List (Int × Int × Int)) (x0 x1 : Int) (z2 : Bool) (l3 : List (Int × Int × Int)) : lp k laws_markIdS [(.arr true (az) (.r3 (a)))] fu 2 (n + 1) (qwt x0 x1 z2 l3) =
 cond (decide (x1 < nI (List.length l3)))
 (cond (decide ((0 : Int) ≤ x1) && decide (x1 < nI (List.length l3)))
 (cond (decide ((0 : Int) ≤ x1) && decide (x1 < nI (List.length (List.set l3 (Int.toNat x1) (x0, Prod.fst (Prod.snd (List.getD l3 (Int.toNat x1) zz3)), Prod.snd (Prod.snd (List.getD l3 (Int.toNat x1) zz3)))))))
 (cond (decide ((0 : Int) ≤ x1) && decide (x1 < nI (List.length (List.set (List.set l3 (Int.toNat x1) (x0, Prod.fst (Prod.snd (List.getD l3 (Int.toNat x1) zz3)), Prod.snd (Prod.snd (List.getD l3 (Int.toNat x1) zz3)))) (Int.toNat x1) (Prod.fst (List.getD (List.set l3 (Int.toNat x1) (x0, Prod.fst (Prod.snd (List.getD l3 (Int.toNat x1) zz3)), Prod.snd (Prod.snd (List.getD l3 (Int.toNat x1) zz3)))) (Int.toNat x1) zz3), IntKind.wrap .i64 (x0 + (1 : Int)), Prod.snd (Prod.snd (List.getD (List.set l3 (Int.toNat x1) (x0, Prod.fst (Prod.snd (List.getD l3 (Int.toNat x1) zz3)), Prod.snd (Prod.snd (List.getD l3 (Int.toNat x1) zz3)))) (Int.toNat x1) zz3)))))))
 (lp k laws_markIdS [(.arr true (az) (.r3 (a)))] fu 2 n (qwt (IntKind.wrap .i64 (IntKind.wrap .i64 (IntKind.wrap .i64 (x0 + (1 : Int)) + (1 : Int)) + (1 : Int))) (IntKind.wrap .i64 (x1 + (1 : Int))) z2 (List.set (List.set (List.set l3 (Int.toNat x1) (x0, Prod.fst (Prod.snd (List.getD l3 (Int.toNat x1) zz3)), Prod.snd (Prod.snd (List.getD l3 (Int.toNat x1) zz3)))) (Int.toNat x1) (Prod.fst (List.getD (List.set l3 (Int.toNat x1) (x0, Prod.fst (Prod.snd (List.getD l3 (Int.toNat x1) zz3)), Prod.snd (Prod.snd (List.getD l3 (Int.toNat x1) zz3)))) (Int.toNat x1) zz3), IntKind.wrap .i64 (x0 + (1 : Int)), Prod.snd (Prod.snd (List.getD (List.set l3 (Int.toNat x1) (x0, Prod.fst (Prod.snd (List.getD l3 (Int.toNat x1) zz3)), Prod.snd (Prod.snd (List.getD l3 (Int.toNat x1) zz3)))) (Int.toNat x1) zz3)))) (Int.toNat x1) (Prod.fst (List.getD (List.set (List.set l3 (Int.toNat x1) (x0, Prod.fst (Prod.snd (List.getD l3 (Int.toNat x1) zz3)), Prod.snd (Prod.snd (List.getD l3 (Int.toNat x1) zz3)))) (Int.toNat x1) (Prod.fst (List.getD (List.set l3 (Int.toNat x1) (x0, Prod.fst (Prod.snd (List.getD l3 (Int.toNat x1) zz3)), Prod.snd (Prod.snd (List.getD l3 (Int.toNat x1) zz3)))) (Int.toNat x1) zz3), IntKind.wrap .i64 (x0 + (1 : Int)), Prod.snd (Prod.snd (List.getD (List.set l3 (Int.toNat x1) (x0, Prod.fst (Prod.snd (List.getD l3 (Int.toNat x1) zz3)), Prod.snd (Prod.snd (List.getD l3 (Int.toNat x1) zz3)))) (Int.toNat x1) zz3)))) (Int.toNat x1) zz3), Prod.fst (Prod.snd (List.getD (List.set (List.set l3 (Int.toNat x1) (x0, Prod.fst (Prod.snd (List.getD l3 (Int.toNat x1) zz3)), Prod.snd (Prod.snd (List.getD l3 (Int.toNat x1) zz3)))) (Int.toNat x1) (Prod.fst (List.getD (List.set l3 (Int.toNat x1) (x0, Prod.fst (Prod.snd (List.getD l3 (Int.toNat x1) zz3)), Prod.snd (Prod.snd (List.getD l3 (Int.toNat x1) zz3)))) (Int.toNat x1) zz3), IntKind.wrap .i64 (x0 + (1 : Int)), Prod.snd (Prod.snd (List.getD (List.set l3 (Int.toNat x1) (x0, Prod.fst (Prod.snd (List.getD l3 (Int.toNat x1) zz3)), Prod.snd (Prod.snd (List.getD l3 (Int.toNat x1) zz3)))) (Int.toNat x1) zz3)))) (Int.toNat x1) zz3)), IntKind.wrap .i64 (IntKind.wrap .i64 (x0 + (1 : Int)) + (1 : Int))))))
 (none))
 (none))
 (none))
 (some [(.int .i64 (x0)), (.arr true (z2) (.r3 (l3)))]) := by kernel_rfl
theorem qk8 (k : Nat) (a0 : Int) (a1z : Bool) (a1 : List (Int × Int × Int)) (b : Int) : go (k + 1) laws_markMesh [(.agg [(.int .i64 (a0)), (.arr true (a1z) (.r3 (a1)))]), (.int .i64 (b))] =
 (go k laws_markIdS [(.arr true (a1z) (.r3 (a1))), (.int .i64 (b))]).bind fun r0 =>
 some [(.int .i64 (D.toInt (nth r0 0))), (.agg [(.int .i64 (a0)), (.arr true (a1z) (.r3 (D.r3 (nth r0 1))))])] := by kernel_rfl
def qwu (x0 x1 : Int) (z2 : Bool) (l3 : List Int) : St := ⟨fill 19 [(0, (.sl 0 none)), (1, (.int .i64 (x0))), (5, (.int .i64 (x1)))], [(.sl 0 none)], [(.arr true (z2) (.ints .i64 (l3)))]⟩
theorem qk7 (k : Nat) (az : Bool) (a : List Int) (b : Int) : go (k + 1) laws_markIntS [(.arr true (az) (.ints .i64 (a))), (.int .i64 (b))] =
 lp k laws_markIntS [(.arr true (az) (.ints .i64 (a)))] [] 2 k (qwu b (0 : Int) az a) := by kernel_rfl
theorem qp2 (k n : Nat) (fu : List (Nat × Nat)) (az : Bool) (a : List Int) (x0 x1 : Int) (z2 : Bool) (l3 : List Int) : lp k laws_markIntS [(.arr true (az) (.ints .i64 (a)))] fu 2 (n + 1) (qwu x0 x1 z2 l3) =
 cond (decide (x1 < nI (List.length l3)))
 (cond (decide ((0 : Int) ≤ x1) && decide (x1 < nI (List.length l3)))
 (lp k laws_markIntS [(.arr true (az) (.ints .i64 (a)))] fu 2 n (qwu (IntKind.wrap .i64 (x0 + (1 : Int))) (IntKind.wrap .i64 (x1 + (1 : Int))) z2 (List.set l3 (Int.toNat x1) x0)))
 (none))
 (some [(.int .i64 (x0)), (.arr true (z2) (.ints .i64 (l3)))]) := by kernel_rfl
def qwr (x0 x1 : Int) (z2 : Bool) (l3 : List Int) : St := ⟨fill 21 [(0, (.sl 0 none)), (1, (.int .i64 (x0))), (5, (.int .i64 (x1)))], [], [(.arr false (z2) (.ints .i64 (l3)))]⟩
theorem qk1 (k : Nat) (az : Bool) (a : List Int) (b : Int) : go (k + 1) laws_heldIntS [(.arr false (az) (.ints .i64 (a))), (.int .i64 (b))] =
 lp k laws_heldIntS [] [] 2 k (qwr b (0 : Int) az a) := by kernel_rfl
theorem qpz (k n : Nat) (fu : List (Nat × Nat)) (x0 x1 : Int) (z2 : Bool) (l3 : List Int) : lp k laws_heldIntS [] fu 2 (n + 1) (qwr x0 x1 z2 l3) =
 cond (decide (x1 < nI (List.length l3)))
 (cond (decide ((0 : Int) ≤ x1) && decide (x1 < nI (List.length l3)))
 (cond (!decide (List.getD l3 (Int.toNat x1) (0 : Int) = x0))
 (some [(.int .i64 ((-1 : Int)))])
 (lp k laws_heldIntS [] fu 2 n (qwr (IntKind.wrap .i64 (x0 + (1 : Int))) (IntKind.wrap .i64 (x1 + (1 : Int))) z2 l3)))
 (none))
 (some [(.int .i64 (x0))]) := by kernel_rfl

end Go.Proofs.YtoldpdhhfmlckaaGreat
end
section
namespace Go.Proofs.YtoldpdhhfmlckaaGreat
open Go.Ev
def marks (b : Int) : Nat → List Int
  | 0 => []
  | n + 1 => b :: marks (b + 1) n
theorem qtj : ∀ (n : Nat) (b : Int), (marks b n).length = n
  | 0, b => rfl
  | n + 1, b => by simp [marks, qtj n]
theorem qti : ∀ (n i : Nat) (b : Int), i < n → (marks b n).getD i 0 = b + i
  | 0, i, b, h => by omega
  | n + 1, 0, b, h => by simp [marks]
  | n + 1, i + 1, b, h => by
    have := qti n i (b + 1) (by omega)
    simp only [marks, List.getD_cons_succ, this]; omega
theorem qse (k : Nat) (hk : 2000000 ≤ k) (fu : List (Nat × Nat)) (az : Bool) (a : List Int) (z : Bool) (L : Nat) (hl : (L : Int) ≤ 1048576) : ∀ (n i : Nat) (l : List Int) (b : Int), l.length = L → i ≤ L → 0 ≤ b → b ≤ 8796093022208 + i → L - i < n →
    lp k laws_markIntS [(.arr true (az) (.ints .i64 (a)))] fu 2 (n) (qwu b (i : Int) z l) = some [.int .i64 (b + (L - i : Nat)), .arr true z (.ints .i64 (l.take i ++ marks b (L - i)))]
  | 0, i, l, b, hL, hi, h0, hb, hn => by omega
  | n + 1, i, l, b, hL, hi, h0, hb, hn => by
    rw [qp2]
    by_cases h : i < L
    · simp (disch := omega) only [nI, dT, Bool.and_true, q0f, qgr, Int.toNat_natCast, qhn]
      rw [qse k hk fu az a z L hl n (i + 1) (l.set i b) (b + 1) (by simp [hL]) (by omega) (by omega) (by omega) (by omega)]
      rw [qxy l l i b _ (by omega), show L - i = (L - (i + 1)) + 1 by omega]
      simp only [marks]
      rw [show b + 1 + ((L - (i + 1) : Nat) : Int) = b + ((L - (i + 1) + 1 : Nat) : Int) by omega]
    · simp (disch := omega) only [nI, dF, dT, Bool.and_false, q0f, qgr, Int.toNat_natCast, qhl]
      rw [show L - i = 0 by omega]
      simp only [marks, List.append_nil]
      rw [List.take_of_length_le (by omega)]
      simp
theorem qd3 (k : Nat) (hk : 2000000 ≤ k) (az : Bool) (a : List Int) (b : Int) (hl : (a.length : Int) ≤ 1048576) (h0 : 0 ≤ b) (hb : b ≤ 8796093022208) : go (k + 1) laws_markIntS [(.arr true (az) (.ints .i64 (a))), (.int .i64 (b))] = some [.int .i64 (b + a.length), .arr true az (.ints .i64 (marks b a.length))] := by
  rw [qk7]
  have e := qse k hk [] az a az a.length hl k 0 a b rfl (by omega) h0 (by omega) (by omega)
  simpa using e
theorem qsb (k : Nat) (hk : 2000000 ≤ k) (fu : List (Nat × Nat)) (z : Bool) (L : Nat) (b0 : Int) (hl : (L : Int) ≤ 1048576) (h0 : 0 ≤ b0) (hb : b0 ≤ 8796093022208) : ∀ (n i : Nat), i ≤ L → L - i < n →
    lp k laws_heldIntS [] fu 2 (n) (qwr (b0 + (i : Int)) (i : Int) z (marks b0 L)) = some [.int .i64 (b0 + L)]
  | 0, i, hi, hn => by omega
  | n + 1, i, hi, hn => by
    rw [qpz]
    simp only [qtj]
    by_cases h : i < L
    · simp (disch := omega) only [nI, dT, Bool.and_true, Int.toNat_natCast, qti, dTT, Bool.not_true, q0f, qgr, qhl, qhn]
      have := qsb k hk fu z L b0 hl h0 hb n (i + 1) (by omega) (by omega)
      rw [show b0 + ((i + 1 : Nat) : Int) = b0 + (i : Int) + 1 by omega] at this
      exact this
    · simp (disch := omega) only [nI, dF, dT, Bool.and_false, Int.toNat_natCast, q0f, qgr, qhl]
      rw [show i = L by omega]
theorem qdx (k : Nat) (hk : 2000000 ≤ k) (z : Bool) (L : Nat) (b0 : Int) (hl : (L : Int) ≤ 1048576) (h0 : 0 ≤ b0) (hb : b0 ≤ 8796093022208) : go (k + 1) laws_heldIntS [.arr false z (.ints .i64 (marks b0 L)), .int .i64 b0] = some [.int .i64 (b0 + L)] := by
  rw [qk1]
  have e := qsb k hk [] z L b0 hl h0 hb k 0 (by omega) (by omega)
  simpa using e
end Go.Proofs.YtoldpdhhfmlckaaGreat
end
section
namespace Go.Proofs.YtoldpdhhfmlckaaGreat
open Go.Ev
theorem qk9 (k : Nat) (a0 : Int) (a1z : Bool) (a1 : List (Int × Int × Int)) (a2z : Bool) (a2 : List Int) (a3z : Bool) (a3 : List Int) (a4z : Bool) (a4 : List Int) (b : Int) : go (k + 1) laws_markState [(.agg [(.int .i64 (a0)), (.arr true (a1z) (.r3 (a1))), (.arr true (a2z) (.ints .i64 (a2))), (.arr true (a3z) (.ints .i64 (a3))), (.arr true (a4z) (.ints .i64 (a4)))]), (.int .i64 (b))] =
 (go k laws_markMesh [(.agg [(.int .i64 (a0)), (.arr true (a1z) (.r3 (a1)))]), (.int .i64 (b))]).bind fun r0 =>
 (go k laws_markIntS [(.arr true (a2z) (.ints .i64 (a2))), (.int .i64 (D.toInt (nth r0 0)))]).bind fun r1 =>
 (go k laws_markIntS [(.arr true (a3z) (.ints .i64 (a3))), (.int .i64 (D.toInt (nth r1 0)))]).bind fun r2 =>
 (go k laws_markIntS [(.arr true (a4z) (.ints .i64 (a4))), (.int .i64 (D.toInt (nth r2 0)))]).bind fun r3 =>
 some [(.int .i64 (D.toInt (nth r3 0))), (.agg [(.int .i64 (a0)), (.arr true (a1z) (.r3 (D.r3 (D.cell 1 (nth r0 1))))), (.arr true (a2z) (.ints .i64 (D.ints (nth r1 1)))), (.arr true (a3z) (.ints .i64 (D.ints (nth r2 1)))), (.arr true (a4z) (.ints .i64 (D.ints (nth r3 1))))])] := by kernel_rfl
end Go.Proofs.YtoldpdhhfmlckaaGreat
end
section
namespace Go.Proofs.YtoldpdhhfmlckaaGreat
open Go.Ev
def qte (b : Int) : Nat → List Cell
  | 0 => []
  | n + 1 => (b, b + 1, b + 2) :: qte (b + 3) n
theorem qx0 {α : Type} (l : List α) (i : Nat) (x y : α) : (l.set i x).set i y = l.set i y := List.set_set ..
theorem qob {α : Type} {l : List α} {i : Nat} (h : i < l.length) (x d : α) : (l.set i x).getD i d = x := by rw [qxx]; simp [h]
theorem qsd (k : Nat) (hk : 2000000 ≤ k) (fu : List (Nat × Nat)) (az : Bool) (a : List Cell) (z : Bool) (L : Nat) (hl : (L : Int) ≤ 1048576) : ∀ (n i : Nat) (l : List Cell) (b : Int), l.length = L → i ≤ L → 0 ≤ b → b ≤ 8796093022208 + 3 * i → L - i < n →
    lp k laws_markIdS [(.arr true (az) (.r3 (a)))] fu 2 (n) (qwt b (i : Int) z l) = some [.int .i64 (b + 3 * (L - i : Nat)), .arr true z (.r3 (l.take i ++ qte b (L - i)))]
  | 0, i, l, b, hL, hi, h0, hb, hn => by omega
  | n + 1, i, l, b, hL, hi, h0, hb, hn => by
    rw [qp1]
    by_cases h : i < L
    · have e := qsd k hk fu az a z L hl n (i + 1) (l.set i (b, b + 1, b + 2)) (b + 3) (by simp [hL]) (by omega) (by omega) (by omega) (by omega)
      rw [qxy l l i _ _ (by omega)] at e
      rw [show L - i = (L - (i + 1)) + 1 by omega]
      simp only [qte]
      simp (disch := omega) only [nI, dT, Bool.and_true, Int.toNat_natCast, List.length_set, qob, q0f, qx0, show b + 1 + 1 = b + 2 by omega, show b + 2 + 1 = b + 3 by omega, qgr, qhn]
      rw [e, show b + 3 + 3 * ((L - (i + 1) : Nat) : Int) = b + 3 * ((L - (i + 1) + 1 : Nat) : Int) by omega]
    · simp (disch := omega) only [nI, dF, dT, Bool.and_false, Int.toNat_natCast, List.length_set, q0f, qgr, qhl]
      rw [show L - i = 0 by omega]
      simp only [qte, List.append_nil]
      rw [List.take_of_length_le (by omega)]
      simp
theorem qd2 (k : Nat) (hk : 2000000 ≤ k) (az : Bool) (a : List (Int × Int × Int)) (b : Int) (hl : (a.length : Int) ≤ 1048576) (h0 : 0 ≤ b) (hb : b ≤ 8796093022208) : go (k + 1) laws_markIdS [(.arr true (az) (.r3 (a))), (.int .i64 (b))] = some [.int .i64 (b + 3 * a.length), .arr true az (.r3 (qte b a.length))] := by
  rw [qk6]
  have e := qsd k hk [] az a az a.length hl (k + 0) 0 a b rfl (by omega) h0 (by omega) (by omega)
  simpa using e
theorem qd4 (k : Nat) (hk : 2000000 ≤ k) (a0 : Int) (a1z : Bool) (a1 : List (Int × Int × Int)) (b : Int) (hl : (a1.length : Int) ≤ 1048576) (h0 : 0 ≤ b) (hb : b ≤ 8796093022208) : go (k + 2) laws_markMesh [(.agg [(.int .i64 (a0)), (.arr true (a1z) (.r3 (a1)))]), (.int .i64 (b))] = some [.int .i64 (b + 3 * a1.length), .agg [.int .i64 a0, .arr true a1z (.r3 (qte b a1.length))]] := by
  rw [qk8]
  simp (disch := omega) only [qd2, qa2, nth0, qzo, nth1, quz]
theorem qd5 (k : Nat) (hk : 2000000 ≤ k) (a0 : Int) (a1z : Bool) (a1 : List (Int × Int × Int)) (a2z : Bool) (a2 : List Int) (a3z : Bool) (a3 : List Int) (a4z : Bool) (a4 : List Int) (b : Int) (h1 : (a1.length : Int) ≤ 1048576) (h2 : (a2.length : Int) ≤ 1048576) (h3 : (a3.length : Int) ≤ 1048576) (h4 : (a4.length : Int) ≤ 1048576) (h0 : 0 ≤ b) (hb : b ≤ 8700000000000) :
    go (k + 3) laws_markState [(.agg [(.int .i64 (a0)), (.arr true (a1z) (.r3 (a1))), (.arr true (a2z) (.ints .i64 (a2))), (.arr true (a3z) (.ints .i64 (a3))), (.arr true (a4z) (.ints .i64 (a4)))]), (.int .i64 (b))] = some [.int .i64 (b + 3 * a1.length + a2.length + a3.length + a4.length), .agg [.int .i64 a0, .arr true a1z (.r3 (qte b a1.length)), .arr true a2z (.ints .i64 (marks (b + 3 * a1.length) a2.length)), .arr true a3z (.ints .i64 (marks (b + 3 * a1.length + a2.length) a3.length)), .arr true a4z (.ints .i64 (marks (b + 3 * a1.length + a2.length + a3.length) a4.length))]] := by
  rw [qk9]
  simp (disch := omega) only [qd4, qa2, nth0, qzo, qd3, nth1, qgu, quz, qoq]
end Go.Proofs.YtoldpdhhfmlckaaGreat
end
section
namespace Go.Proofs.YtoldpdhhfmlckaaGreat
open Go.Ev
theorem qin (k : Nat) (a0 : Int) (a1z : Bool) (a1 : List (Int × Int × Int)) (b : Int) : go (k + 1) impl_LeafAt [(.agg [(.int .i64 (a0)), (.arr false (a1z) (.r3 (a1)))]), (.int .i64 (b))] =
 (go k impl_MeshOk [(.agg [(.int .i64 (a0)), (.arr false (a1z) (.r3 (a1)))])]).bind fun r0 =>
 cond (!bit (nth r0 0))
 (some [(.int .i64 ((-1 : Int)))])
 ((go k slices_IndexFunc_impl_Id_impl_Id [(.arr false (a1z) (.r3 (a1))), (.fn impl_LeafAt_1 [(.ptr false [(.int .i64 (b))])])]).bind fun r1 =>
 some [(.int .i64 (D.toInt (nth r1 0)))]) := by kernel_rfl
theorem qio (k : Nat) (v0 v1 v2 v3 : Int) : go (k + 1) impl_LeafAt_1 [(.agg [(.int .i64 (v0)), (.int .i64 (v1)), (.int .i64 (v2))]), (.ptr false [(.int .i64 (v3))])] =
 (go k impl_StartOf [(.agg [(.int .i64 (v0)), (.int .i64 (v1)), (.int .i64 (v2))])]).bind fun r0 =>
 cond (decide (D.toInt (nth r0 0) ≤ v3))
 ((go k impl_endOf [(.agg [(.int .i64 (v0)), (.int .i64 (v1)), (.int .i64 (v2))])]).bind fun r1 =>
 some [(.bool (decide (v3 < D.toInt (nth r1 0))))])
 (some [(.bool (false))]) := by kernel_rfl
def qw0 (x0 x1 : Int) (z2 : Bool) (l3 : List (Int × Int × Int)) (x4 : Int) : St := ⟨fill 19 [(0, (.sl 0 none)), (1, (.fn impl_LeafAt_1 [(.ptr 1 (0) (0))])), (7, (.int .i64 (x0))), (8, (.int .i64 (x1)))], [], [(.arr false (z2) (.r3 (l3))), (.box false [(.int .i64 (x4))])]⟩
theorem qlx (k : Nat) (v0 : Bool) (v1 : List (Int × Int × Int)) (v2 : Int) : go (k + 1) slices_IndexFunc_impl_Id_impl_Id [(.arr false (v0) (.r3 (v1))), (.fn impl_LeafAt_1 [(.ptr false [(.int .i64 (v2))])])] =
 lp k slices_IndexFunc_impl_Id_impl_Id [] [] 2 k (qw0 (nI (List.length v1)) (0 : Int) v0 v1 v2) := by kernel_rfl
theorem qp8 (k n : Nat) (fu : List (Nat × Nat)) (x0 x1 : Int) (z2 : Bool) (l3 : List (Int × Int × Int)) (x4 : Int) : lp k slices_IndexFunc_impl_Id_impl_Id [] fu 2 (n + 1) (qw0 x0 x1 z2 l3 x4) =
 cond (decide (x1 < x0))
 (cond (decide ((0 : Int) ≤ x1) && decide (x1 < nI (List.length l3)))
 ((go k impl_LeafAt_1 [(.agg [(.int .i64 (Prod.fst (List.getD l3 (Int.toNat x1) zz3))), (.int .i64 (Prod.fst (Prod.snd (List.getD l3 (Int.toNat x1) zz3)))), (.int .i64 (Prod.snd (Prod.snd (List.getD l3 (Int.toNat x1) zz3))))]), (.ptr false [(.int .i64 (x4))])]).bind fun r0 =>
 cond (bit (nth r0 0))
 (some [(.int .i64 (x1))])
 (lp k slices_IndexFunc_impl_Id_impl_Id [] fu 2 n (qw0 x0 (IntKind.wrap .i64 (x1 + (1 : Int))) z2 l3 x4)))
 (none))
 (some [(.int .i64 ((-1 : Int)))]) := by kernel_rfl
def qw7 (x0 x1 : Int) (z2 : Bool) (l3 : List (Int × Int × Int)) (x4 : Int) : St := ⟨fill 36 [(1, (.int .i64 (x0))), (2, (.ptr 1 (0) (0))), (5, (.int .i64 (x1)))], [], [(.arr false (z2) (.r3 (l3))), (.box true [(.int .i64 (x4)), (.sl 0 none)])]⟩
theorem qmd (k : Nat) (a0 : Int) (a1z : Bool) (a1 : List (Int × Int × Int)) (b : Int) : go (k + 1) spec_LeafAt [(.agg [(.int .i64 (a0)), (.arr false (a1z) (.r3 (a1)))]), (.int .i64 (b))] =
 lp k spec_LeafAt [] [] 2 k (qw7 b (0 : Int) a1z a1 a0) := by kernel_rfl
theorem qqf (k n : Nat) (fu : List (Nat × Nat)) (x0 x1 : Int) (z2 : Bool) (l3 : List (Int × Int × Int)) (x4 : Int) : lp k spec_LeafAt [] fu 2 (n + 1) (qw7 x0 x1 z2 l3 x4) =
 cond (decide (x1 < nI (List.length l3)))
 ((go k spec_MeshOk [(.agg [(.int .i64 (x4)), (.arr false (z2) (.r3 (l3)))])]).bind fun r0 =>
 cond (bit (nth r0 0))
 (cond (decide ((0 : Int) ≤ x1) && decide (x1 < nI (List.length l3)))
 ((go k spec_StartOf [(.agg [(.int .i64 (Prod.fst (List.getD l3 (Int.toNat x1) zz3))), (.int .i64 (Prod.fst (Prod.snd (List.getD l3 (Int.toNat x1) zz3)))), (.int .i64 (Prod.snd (Prod.snd (List.getD l3 (Int.toNat x1) zz3))))])]).bind fun r1 =>
 cond (decide (D.toInt (nth r1 0) ≤ x0))
 (cond (decide ((0 : Int) ≤ x1) && decide (x1 < nI (List.length l3)))
 ((go k spec_l04End [(.agg [(.int .i64 (Prod.fst (List.getD l3 (Int.toNat x1) zz3))), (.int .i64 (Prod.fst (Prod.snd (List.getD l3 (Int.toNat x1) zz3)))), (.int .i64 (Prod.snd (Prod.snd (List.getD l3 (Int.toNat x1) zz3))))])]).bind fun r2 =>
 cond (decide (x0 < D.toInt (nth r2 0)))
 (some [(.int .i64 (x1))])
 (lp k spec_LeafAt [] fu 2 n (qw7 x0 (IntKind.wrap .i64 (x1 + (1 : Int))) z2 l3 x4)))
 (none))
 (lp k spec_LeafAt [] fu 2 n (qw7 x0 (IntKind.wrap .i64 (x1 + (1 : Int))) z2 l3 x4)))
 (none))
 (some [(.int .i64 ((-1 : Int)))]))
 (some [(.int .i64 ((-1 : Int)))]) := by kernel_rfl
theorem qi4 (k : Nat) (a0 : Int) (a1z : Bool) (a1 : List (Int × Int × Int)) (a2z : Bool) (a2 : List Int) (a3z : Bool) (a3 : List Int) (a4z : Bool) (a4 : List Int) (b : Int) : go (k + 1) impl_ReadGauge [(.agg [(.int .i64 (a0)), (.arr false (a1z) (.r3 (a1))), (.arr false (a2z) (.ints .i64 (a2))), (.arr false (a3z) (.ints .i64 (a3))), (.arr false (a4z) (.ints .i64 (a4)))]), (.int .i64 (b))] =
 (go k impl_LeafAt [(.agg [(.int .i64 (a0)), (.arr false (a1z) (.r3 (a1)))]), (.int .i64 (b))]).bind fun r0 =>
 (go k impl_SurfaceOf [(.agg [(.int .i64 (a0)), (.arr false (a1z) (.r3 (a1))), (.arr false (a2z) (.ints .i64 (a2))), (.arr false (a3z) (.ints .i64 (a3))), (.arr false (a4z) (.ints .i64 (a4)))]), (.int .i64 (D.toInt (nth r0 0)))]).bind fun r1 =>
 some [(.int .i64 (D.toInt (nth r1 0)))] := by kernel_rfl
theorem qno (k : Nat) (a0 : Int) (a1z : Bool) (a1 : List (Int × Int × Int)) (a2z : Bool) (a2 : List Int) (a3z : Bool) (a3 : List Int) (a4z : Bool) (a4 : List Int) (b : Int) : go (k + 1) spec_l32Read [(.agg [(.int .i64 (a0)), (.arr false (a1z) (.r3 (a1))), (.arr false (a2z) (.ints .i64 (a2))), (.arr false (a3z) (.ints .i64 (a3))), (.arr false (a4z) (.ints .i64 (a4)))]), (.int .i64 (b))] =
 (go k spec_LeafAt [(.agg [(.int .i64 (a0)), (.arr false (a1z) (.r3 (a1)))]), (.int .i64 (b))]).bind fun r0 =>
 cond (decide (D.toInt (nth r0 0) < (0 : Int)))
 (some [(.int .i64 (0 : Int))])
 ((go k spec_l09Surface [(.agg [(.int .i64 (a0)), (.arr false (a1z) (.r3 (a1))), (.arr false (a2z) (.ints .i64 (a2))), (.arr false (a3z) (.ints .i64 (a3))), (.arr false (a4z) (.ints .i64 (a4)))]), (.int .i64 (D.toInt (nth r0 0)))]).bind fun r1 =>
 some [(.int .i64 (D.toInt (nth r1 0)))]) := by kernel_rfl
theorem qjw (k : Nat) (a0 : Int) (a1z : Bool) (a1 : List (Int × Int × Int)) (a2z : Bool) (a2 : List Int) (a3z : Bool) (a3 : List Int) (a4z : Bool) (a4 : List Int) (b : Int) : go (k + 1) impl_SurfaceOf [(.agg [(.int .i64 (a0)), (.arr false (a1z) (.r3 (a1))), (.arr false (a2z) (.ints .i64 (a2))), (.arr false (a3z) (.ints .i64 (a3))), (.arr false (a4z) (.ints .i64 (a4)))]), (.int .i64 (b))] =
 (go k impl_StateOk [(.agg [(.int .i64 (a0)), (.arr false (a1z) (.r3 (a1))), (.arr false (a2z) (.ints .i64 (a2))), (.arr false (a3z) (.ints .i64 (a3))), (.arr false (a4z) (.ints .i64 (a4)))])]).bind fun r0 =>
 cond (!bit (nth r0 0))
 (some [(.int .i64 (0 : Int))])
 ((go k impl_Mesh_has [(.agg [(.int .i64 (a0)), (.arr false (a1z) (.r3 (a1)))]), (.int .i64 (b))]).bind fun r1 =>
 cond (!bit (nth r1 0))
 (some [(.int .i64 (0 : Int))])
 ((go k impl_State_surface [(.agg [(.int .i64 (a0)), (.arr false (a1z) (.r3 (a1))), (.arr false (a2z) (.ints .i64 (a2))), (.arr false (a3z) (.ints .i64 (a3))), (.arr false (a4z) (.ints .i64 (a4)))]), (.int .i64 (b))]).bind fun r2 =>
 some [(.int .i64 (D.toInt (nth r2 0)))])) := by kernel_rfl

end Go.Proofs.YtoldpdhhfmlckaaGreat
end
section
namespace Go.Proofs.YtoldpdhhfmlckaaGreat
open Go.Ev
abbrev cst (x : Cell) : Int := qyq x.1 x.2.1 x.2.2
def qq4 (pos : Int) (l : List Cell) : Nat → Nat → Int
  | 0, _ => -1
  | n + 1, i => cond (decide (cst (l.getD i zz3) ≤ pos) && decide (pos < cst (l.getD i zz3) + qz7 (l.getD i zz3).2.1)) (i : Int) (qq4 pos l n (i + 1))
theorem qq5 (pos : Int) (l : List Cell) : ∀ (n i : Nat), -1 ≤ qq4 pos l n i ∧ qq4 pos l n i < ((i + n : Nat) : Int) ∧ (0 ≤ qq4 pos l n i → (i : Int) ≤ qq4 pos l n i)
  | 0, i => by simp [qq4]; omega
  | n + 1, i => by
    have := qq5 pos l n (i + 1)
    unfold qq4
    cases (decide (cst (l.getD i zz3) ≤ pos) && decide (pos < cst (l.getD i zz3) + qz7 (l.getD i zz3).2.1))
    · simp only [qhl]; omega
    · simp only [qhn]; omega
def qq2 (r : Int) (l : List Cell) (pos : Int) : Int := cond (qtt r 0 l) (qq4 pos l l.length 0) (-1)
theorem qq3 (r : Int) (l : List Cell) (pos : Int) : -1 ≤ qq2 r l pos ∧ qq2 r l pos < l.length := by
  unfold qq2
  cases qtt r 0 l
  · simp; omega
  · have := qq5 pos l l.length 0; simp only [qhn]; omega
theorem qa9 (k : Nat) (hk : 2000000 ≤ k) (a b c pos : Int) : go (k + 6) impl_LeafAt_1 [.agg [.int .i64 a, .int .i64 b, .int .i64 c], .ptr false [.int .i64 pos]] = some [.bool (decide (qyq a b c ≤ pos) && decide (pos < qyq a b c + qz7 b))] := by
  rw [qio]
  simp (disch := omega) only [qb7, qcr, qa2, nth0, qzo, qhp]
theorem qrq (k : Nat) (hk : 2000000 ≤ k) (fu : List (Nat × Nat)) (z : Bool) (l : List Cell) (pos : Int) (hl : (l.length : Int) ≤ 1048576) : ∀ (n i : Nat), i ≤ l.length → l.length - i < n →
    lp (k + 6) slices_IndexFunc_impl_Id_impl_Id [] fu 2 (n) (qw0 (l.length : Int) (i : Int) z l pos) = some [.int .i64 (qq4 pos l (l.length - i) i)]
  | 0, i, hi, hn => by omega
  | n + 1, i, hi, hn => by
    rw [qp8]
    by_cases h : i < l.length
    · have e := qrq k hk fu z l pos hl n (i + 1) (by omega) (by omega)
      rw [show l.length - i = (l.length - (i + 1)) + 1 by omega, qq4]
      simp (disch := omega) only [dT, nI, Bool.and_true, Int.toNat_natCast, qa9, bit, qgr, q0f, e, qa2, nth0, qzn, qhn, cst]
      cases (decide (qyq (l.getD i zz3).1 (l.getD i zz3).2.1 (l.getD i zz3).2.2 ≤ pos) && decide (pos < qyq (l.getD i zz3).1 (l.getD i zz3).2.1 (l.getD i zz3).2.2 + qz7 (l.getD i zz3).2.1)) <;> rfl
    · simp (disch := omega) only [dF, dT, nI, Bool.and_false, Int.toNat_natCast, bit, qgr, q0f, qhl]
      rw [show l.length - i = 0 by omega]; rfl
theorem qbt (k : Nat) (hk : 2000000 ≤ k) (a0 : Int) (a1z : Bool) (a1 : List (Int × Int × Int)) (b : Int) (hl : (a1.length : Int) ≤ 1048576) : go (k + 8) impl_LeafAt [(.agg [(.int .i64 (a0)), (.arr false (a1z) (.r3 (a1)))]), (.int .i64 (b))] = some [.int .i64 (qq2 a0 a1 b)] := by
  rw [qin]
  simp (disch := omega) only [qbw, bit, qa2, nth0, qzn]
  unfold qq2
  cases qtt a0 0 a1
  · rfl
  rw [Bool.not_true, qhl, qlx]
  have e := qrq k hk [] a1z a1 b hl (k + 6) 0 (by omega) (by omega)
  rw [show ((0 : Nat) : Int) = 0 from rfl] at e
  simp (disch := omega) only [nI, e, qa2, nth0, qzo, qhn]
  rfl
theorem qsr (k : Nat) (hk : 2000000 ≤ k) (fu : List (Nat × Nat)) (z : Bool) (r : Int) (l : List Cell) (pos : Int) (hl : (l.length : Int) ≤ 1048576) (hm : qtt r 0 l = true) : ∀ (n i : Nat), i ≤ l.length → l.length - i < n →
    lp (k + 5) spec_LeafAt [] fu 2 (n) (qw7 pos (i : Int) z l r) = some [.int .i64 (qq4 pos l (l.length - i) i)]
  | 0, i, hi, hn => by omega
  | n + 1, i, hi, hn => by
    rw [qqf]
    by_cases h : i < l.length
    · have e := qsr k hk fu z r l pos hl hm n (i + 1) (by omega) (by omega)
      rw [show l.length - i = (l.length - (i + 1)) + 1 by omega, qq4]
      simp (disch := omega) only [nI, dT, qfe, hm, bit, Bool.and_true, Int.toNat_natCast, qfm, qfw, qgr, q0f, e, qa2, nth0, qzo, qhn, qzn, cst]
      cases decide (qyq (l.getD i zz3).1 (l.getD i zz3).2.1 (l.getD i zz3).2.2 ≤ pos) <;> cases decide (pos < qyq (l.getD i zz3).1 (l.getD i zz3).2.1 (l.getD i zz3).2.2 + qz7 (l.getD i zz3).2.1) <;> rfl
    · simp (disch := omega) only [nI, dF, bit, dT, Bool.and_false, Int.toNat_natCast, qgr, q0f, qhl]
      rw [show l.length - i = 0 by omega]; rfl
theorem qfa (k : Nat) (hk : 2000000 ≤ k) (a0 : Int) (a1z : Bool) (a1 : List (Int × Int × Int)) (b : Int) (hl : (a1.length : Int) ≤ 1048576) : go (k + 6) spec_LeafAt [(.agg [(.int .i64 (a0)), (.arr false (a1z) (.r3 (a1)))]), (.int .i64 (b))] = some [.int .i64 (qq2 a0 a1 b)] := by
  rw [qmd]
  unfold qq2
  cases hm : qtt a0 0 a1
  · rw [show k + 5 = (k + 5 - 1) + 1 by omega]
    rw [show lp (k + 5 - 1 + 1) = lp (k + 5) by rw [show k + 5 - 1 + 1 = k + 5 by omega], qqf]
    by_cases h0 : 0 < a1.length
    · simp (disch := omega) only [nI, dT, qfe, hm, bit, Bool.and_true, q0f, qhn, qa2, nth0, qzn, qhl]
    · simp (disch := omega) only [nI, dF, bit, dT, Bool.and_false, q0f, qhl]
  exact qsr k hk [] a1z a0 a1 b hl hm _ 0 (by omega) (by omega)
def qu9 (r : Int) (l : List Cell) (m t b : List Int) (pos : Int) : Int := cond (stOk r l m t b) (cond (decide (0 ≤ qq2 r l pos)) (surf l m b (qq2 r l pos).toNat) 0) 0
theorem qb9 (k : Nat) (hk : 2000000 ≤ k) (a0 : Int) (a1z : Bool) (a1 : List (Int × Int × Int)) (a2z : Bool) (a2 : List Int) (a3z : Bool) (a3 : List Int) (a4z : Bool) (a4 : List Int) (b : Int) (h1 : (a1.length : Int) ≤ 1048576) (h2 : (a4.length : Int) ≤ 1048576) : go (k + 9) impl_SurfaceOf [(.agg [(.int .i64 (a0)), (.arr false (a1z) (.r3 (a1))), (.arr false (a2z) (.ints .i64 (a2))), (.arr false (a3z) (.ints .i64 (a3))), (.arr false (a4z) (.ints .i64 (a4)))]), (.int .i64 (b))] = some [.int .i64 (cond (stOk a0 a1 a2 a3 a4) (cond (inR b 0 ((a1.length : Int) - 1)) (surf a1 a2 a4 b.toNat) 0) 0)] := by
  rw [qjw]
  simp (disch := omega) only [qb8, bit, qcu, qa2, nth0, qzn]
  cases g1 : stOk a0 a1 a2 a3 a4
  · rfl
  cases g2 : inR b 0 ((a1.length : Int) - 1)
  · rfl
  have F := stF.1 g1
  rw [qoo] at g2
  obtain ⟨i, rfl⟩ : ∃ i : Nat, b = (i : Int) := ⟨b.toNat, by omega⟩
  simp only [Bool.not_true, qhl]
  rw [qdh _ (by omega) _ _ _ _ _ _ _ _ _ F i (by omega)]
  simp (disch := omega) only [qa2, nth0, qzo, Int.toNat_natCast, qhn]
theorem qb1 (k : Nat) (hk : 2000000 ≤ k) (a0 : Int) (a1z : Bool) (a1 : List (Int × Int × Int)) (a2z : Bool) (a2 : List Int) (a3z : Bool) (a3 : List Int) (a4z : Bool) (a4 : List Int) (b : Int) (h1 : (a1.length : Int) ≤ 1048576) (h2 : (a4.length : Int) ≤ 1048576) : go (k + 10) impl_ReadGauge [(.agg [(.int .i64 (a0)), (.arr false (a1z) (.r3 (a1))), (.arr false (a2z) (.ints .i64 (a2))), (.arr false (a3z) (.ints .i64 (a3))), (.arr false (a4z) (.ints .i64 (a4)))]), (.int .i64 (b))] = some [.int .i64 (qu9 a0 a1 a2 a3 a4 b)] := by
  rw [qi4]
  simp (disch := omega) only [qbt, qb9, qa2, nth0, qzo]
  have := qq3 a0 a1 b
  unfold qu9
  by_cases g : 0 ≤ qq2 a0 a1 b
  · rw [show inR (qq2 a0 a1 b) 0 ((a1.length : Int) - 1) = true by rw [qoo]; omega, dT g]
  · rw [show inR (qq2 a0 a1 b) 0 ((a1.length : Int) - 1) = false by rw [← Bool.not_eq_true, qoo]; omega, dF g]
theorem qgi (k : Nat) (hk : 2000000 ≤ k) (a0 : Int) (a1z : Bool) (a1 : List (Int × Int × Int)) (a2z : Bool) (a2 : List Int) (a3z : Bool) (a3 : List Int) (a4z : Bool) (a4 : List Int) (b : Int) (h1 : (a1.length : Int) ≤ 1048576) (F : StF a0 a1 a2 a3 a4) : go (k + 7) spec_l32Read [(.agg [(.int .i64 (a0)), (.arr false (a1z) (.r3 (a1))), (.arr false (a2z) (.ints .i64 (a2))), (.arr false (a3z) (.ints .i64 (a3))), (.arr false (a4z) (.ints .i64 (a4)))]), (.int .i64 (b))] = some [.int .i64 (cond (decide (0 ≤ qq2 a0 a1 b)) (surf a1 a2 a4 (qq2 a0 a1 b).toNat) 0)] := by
  rw [qno]
  have := qq3 a0 a1 b
  by_cases g : 0 ≤ qq2 a0 a1 b
  · obtain ⟨i, hi⟩ : ∃ i : Nat, qq2 a0 a1 b = (i : Int) := ⟨(qq2 a0 a1 b).toNat, by omega⟩
    simp (disch := omega) only [qfa, qa2, nth0, qzo, dF, qhl, dT, qhn]
    rw [hi, qga _ (by omega) _ _ _ _ _ _ _ _ _ F i (by omega)]
    simp (disch := omega) only [qa2, nth0, qzo, Int.toNat_natCast]
  · simp (disch := omega) only [qfa, qa2, nth0, qzo, dT, qhn, dF, qhl]
end Go.Proofs.YtoldpdhhfmlckaaGreat
end
section
namespace Go.Proofs.YtoldpdhhfmlckaaGreat
open Go.Ev
def qwl (x0 x1 : Int) (z2 : Bool) (l3 : List Int) (x4 x5 x6 x7 x8 x9 x10 x11 x12 x13 : Int) (z14 : Bool) (l15 : List (Int × Int × Int)) (z16 : Bool) (l17 : List Int) (z18 : Bool) (l19 : List Int) (z20 : Bool) (l21 : List Int) (x22 : Int) : St := ⟨fill 37 [(3, (.fn impl_GaugeRun_1 [(.ptr 1 (0) (0)), (.ptr 2 (0) (0))])), (5, (.ptr 3 (0) (0))), (9, (.ptr 8 (0) (0))), (26, (.int .i64 (x0))), (27, (.int .i64 (x1)))], [(.fn impl_GaugeRun_1 [(.ptr 1 (0) (0)), (.ptr 2 (0) (0))])], [(.arr true (z2) (.ints .i64 (l3))), (.box true [(.sl 0 none)]), (.box true [(.int .i64 (x4))]), (.box true [(.int .i64 (x5)), (.int .i64 (x6)), (.int .i64 (x7)), (.int .i64 (x8)), (.int .i64 (x9)), (.int .i64 (x10)), (.int .i64 (x11)), (.int .i64 (x12)), (.int .i64 (x13))]), (.arr true (z14) (.r3 (l15))), (.arr true (z16) (.ints .i64 (l17))), (.arr true (z18) (.ints .i64 (l19))), (.arr true (z20) (.ints .i64 (l21))), (.box true [(.int .i64 (x22)), (.sl 4 none), (.sl 5 none), (.sl 6 none), (.sl 7 none)])]⟩
theorem qkf (k : Nat) (v0 : Int) (v1 : Bool) (v2 : List (Int × Int × Int)) (v3 : Bool) (v4 : List Int) (v5 : Bool) (v6 : List Int) (v7 : Bool) (v8 : List Int) (v9 v10 v11 v12 v13 v14 v15 v16 v17 v18 : Int) (v19 : Bool) (v20 : List Int) (v21 : Int) : go (k + 1) impl_observe [(.agg [(.int .i64 (v0)), (.arr false (v1) (.r3 (v2))), (.arr false (v3) (.ints .i64 (v4))), (.arr false (v5) (.ints .i64 (v6))), (.arr false (v7) (.ints .i64 (v8)))]), (.agg [(.int .i64 (v9)), (.int .i64 (v10)), (.int .i64 (v11)), (.int .i64 (v12)), (.int .i64 (v13)), (.int .i64 (v14)), (.int .i64 (v15)), (.int .i64 (v16)), (.int .i64 (v17))]), (.int .i64 (v18)), (.fn impl_GaugeRun_1 [(.ptr true [(.arr true (v19) (.ints .i64 (v20)))]), (.ptr true [(.int .i64 (v21))])])] =
 (go k impl_StateOk [(.agg [(.int .i64 (v0)), (.arr false (v1) (.r3 (v2))), (.arr false (v3) (.ints .i64 (v4))), (.arr false (v5) (.ints .i64 (v6))), (.arr false (v7) (.ints .i64 (v8)))])]).bind fun r0 =>
 cond (!bit (nth r0 0))
 (some [(.bool (false)), (.fn impl_GaugeRun_1 [(.ptr true [(.arr true (v19) (.ints .i64 (v20)))]), (.ptr true [(.int .i64 (v21))])])])
 ((go k impl_PlanOk [(.agg [(.int .i64 (v9)), (.int .i64 (v10)), (.int .i64 (v11)), (.int .i64 (v12)), (.int .i64 (v13)), (.int .i64 (v14)), (.int .i64 (v15)), (.int .i64 (v16)), (.int .i64 (v17))])]).bind fun r1 =>
 cond (!bit (nth r1 0))
 (some [(.bool (false)), (.fn impl_GaugeRun_1 [(.ptr true [(.arr true (v19) (.ints .i64 (v20)))]), (.ptr true [(.int .i64 (v21))])])])
 ((go k impl_within [(.int .i64 (v18)), (.int .i64 (0 : Int)), (.int .i64 ((100 : Int)))]).bind fun r2 =>
 cond (!bit (nth r2 0))
 (some [(.bool (false)), (.fn impl_GaugeRun_1 [(.ptr true [(.arr true (v19) (.ints .i64 (v20)))]), (.ptr true [(.int .i64 (v21))])])])
 ((go k impl_copyState [(.agg [(.int .i64 (v0)), (.arr false (v1) (.r3 (v2))), (.arr false (v3) (.ints .i64 (v4))), (.arr false (v5) (.ints .i64 (v6))), (.arr false (v7) (.ints .i64 (v8)))])]).bind fun r3 =>
 lp k impl_observe [(.fn impl_GaugeRun_1 [(.ptr true [(.arr true (v19) (.ints .i64 (v20)))]), (.ptr true [(.int .i64 (v21))])])] [] 5 k (qwl v18 (0 : Int) v19 v20 v21 v9 v10 v11 v12 v13 v14 v15 v16 v17 (D.nil (D.cell 1 (nth r3 0))) (D.r3 (D.cell 1 (nth r3 0))) (D.nil (D.cell 2 (nth r3 0))) (D.ints (D.cell 2 (nth r3 0))) (D.nil (D.cell 3 (nth r3 0))) (D.ints (D.cell 3 (nth r3 0))) (D.nil (D.cell 4 (nth r3 0))) (D.ints (D.cell 4 (nth r3 0))) (D.toInt (D.cell 0 (nth r3 0))))))) := by kernel_rfl
theorem qpt (k n : Nat) (fu : List (Nat × Nat)) (v19 : Bool) (v20 : List Int) (v21 x0 x1 : Int) (z2 : Bool) (l3 : List Int) (x4 x5 x6 x7 x8 x9 x10 x11 x12 x13 : Int) (z14 : Bool) (l15 : List (Int × Int × Int)) (z16 : Bool) (l17 : List Int) (z18 : Bool) (l19 : List Int) (z20 : Bool) (l21 : List Int) (x22 : Int) : lp k impl_observe [(.fn impl_GaugeRun_1 [(.ptr true [(.arr true (v19) (.ints .i64 (v20)))]), (.ptr true [(.int .i64 (v21))])])] fu 5 (n + 1) (qwl x0 x1 z2 l3 x4 x5 x6 x7 x8 x9 x10 x11 x12 x13 z14 l15 z16 l17 z18 l19 z20 l21 x22) =
 cond (decide (x1 < x0))
 ((go k impl_State_runMacro [(.ptr true [(.int .i64 (x22)), (.arr true (z14) (.r3 (l15))), (.arr true (z16) (.ints .i64 (l17))), (.arr true (z18) (.ints .i64 (l19))), (.arr true (z20) (.ints .i64 (l21)))]), (.agg [(.int .i64 (x5)), (.int .i64 (x6)), (.int .i64 (x7)), (.int .i64 (x8)), (.int .i64 (x9)), (.int .i64 (x10)), (.int .i64 (x11)), (.int .i64 (x12)), (.int .i64 (x13))]), (.int .i64 (x1))]).bind fun r0 =>
 (go k impl_GaugeRun_1 [(.agg [(.int .i64 (D.toInt (D.cell 0 (nth r0 1)))), (.arr false (D.nil (D.cell 1 (nth r0 1))) (.r3 (D.r3 (D.cell 1 (nth r0 1))))), (.arr false (D.nil (D.cell 2 (nth r0 1))) (.ints .i64 (D.ints (D.cell 2 (nth r0 1))))), (.arr false (D.nil (D.cell 3 (nth r0 1))) (.ints .i64 (D.ints (D.cell 3 (nth r0 1))))), (.arr false (D.nil (D.cell 4 (nth r0 1))) (.ints .i64 (D.ints (D.cell 4 (nth r0 1)))))]), (.ptr true [(.arr true (z2) (.ints .i64 (l3)))]), (.ptr false [(.int .i64 (x4))])]).bind fun r1 =>
 lp k impl_observe [(.fn impl_GaugeRun_1 [(.ptr true [(.arr true (v19) (.ints .i64 (v20)))]), (.ptr true [(.int .i64 (v21))])])] fu 5 n (qwl x0 (IntKind.wrap .i64 (x1 + (1 : Int))) (D.nil (D.cell 0 (nth r1 0))) (D.ints (D.cell 0 (nth r1 0))) x4 x5 x6 x7 x8 x9 x10 x11 x12 x13 (D.nil (D.cell 1 (nth r0 1))) (D.r3 (D.cell 1 (nth r0 1))) (D.nil (D.cell 2 (nth r0 1))) (D.ints (D.cell 2 (nth r0 1))) (D.nil (D.cell 3 (nth r0 1))) (D.ints (D.cell 3 (nth r0 1))) (D.nil (D.cell 4 (nth r0 1))) (D.ints (D.cell 4 (nth r0 1))) (D.toInt (D.cell 0 (nth r0 1)))))
 (some [(.bool (true)), (.fn impl_GaugeRun_1 [(.ptr true [(.arr true (z2) (.ints .i64 (l3)))]), (.ptr true [(.int .i64 (x4))])])]) := by kernel_rfl
def qw5 (x0 x1 x2 : Int) (z3 : Bool) (l4 : List (Int × Int × Int)) (z5 : Bool) (l6 : List Int) (z7 : Bool) (l8 : List Int) (z9 : Bool) (l10 : List Int) (x11 x12 x13 x14 x15 x16 x17 x18 x19 x20 : Int) (z21 : Bool) (l22 : List Int) : St := ⟨fill 55 [(2, (.int .i64 (x0))), (3, (.int .i64 (x1))), (4, (.ptr 4 (0) (0))), (5, (.ptr 5 (0) (0))), (9, (.sl 6 none)), (10, (.int .i64 (x2)))], [], [(.arr false (z3) (.r3 (l4))), (.arr false (z5) (.ints .i64 (l6))), (.arr false (z7) (.ints .i64 (l8))), (.arr false (z9) (.ints .i64 (l10))), (.box true [(.int .i64 (x11)), (.sl 0 none), (.sl 1 none), (.sl 2 none), (.sl 3 none)]), (.box true [(.int .i64 (x12)), (.int .i64 (x13)), (.int .i64 (x14)), (.int .i64 (x15)), (.int .i64 (x16)), (.int .i64 (x17)), (.int .i64 (x18)), (.int .i64 (x19)), (.int .i64 (x20))]), (.arr true (z21) (.ints .i64 (l22)))]⟩
def qw6 (x0 x1 x2 : Int) (z3 : Bool) (l4 : List (Int × Int × Int)) (z5 : Bool) (l6 : List Int) (z7 : Bool) (l8 : List Int) (z9 : Bool) (l10 : List Int) (x11 x12 x13 x14 x15 x16 x17 x18 x19 x20 : Int) (z21 : Bool) (l22 : List Int) : St := ⟨fill 55 [(2, (.int .i64 (x0))), (3, (.int .i64 (x1))), (4, (.ptr 4 (0) (0))), (5, (.ptr 5 (0) (0))), (9, (.sl 6 none)), (10, (.int .i64 (x2)))], [], [(.arr true (z3) (.r3 (l4))), (.arr true (z5) (.ints .i64 (l6))), (.arr true (z7) (.ints .i64 (l8))), (.arr true (z9) (.ints .i64 (l10))), (.box true [(.int .i64 (x11)), (.sl 0 none), (.sl 1 none), (.sl 2 none), (.sl 3 none)]), (.box true [(.int .i64 (x12)), (.int .i64 (x13)), (.int .i64 (x14)), (.int .i64 (x15)), (.int .i64 (x16)), (.int .i64 (x17)), (.int .i64 (x18)), (.int .i64 (x19)), (.int .i64 (x20))]), (.arr true (z21) (.ints .i64 (l22)))]⟩
theorem ql7 (k : Nat) (a0 : Int) (a1z : Bool) (a1 : List (Int × Int × Int)) (a2z : Bool) (a2 : List Int) (a3z : Bool) (a3 : List Int) (a4z : Bool) (a4 : List Int) (b0 b1 b2 b3 b4 b5 b6 b7 b8 c d : Int) : go (k + 1) spec_GaugeRun [(.agg [(.int .i64 (a0)), (.arr false (a1z) (.r3 (a1))), (.arr false (a2z) (.ints .i64 (a2))), (.arr false (a3z) (.ints .i64 (a3))), (.arr false (a4z) (.ints .i64 (a4)))]), (.agg [(.int .i64 (b0)), (.int .i64 (b1)), (.int .i64 (b2)), (.int .i64 (b3)), (.int .i64 (b4)), (.int .i64 (b5)), (.int .i64 (b6)), (.int .i64 (b7)), (.int .i64 (b8))]), (.int .i64 (c)), (.int .i64 (d))] =
 (go k spec_StateOk [(.agg [(.int .i64 (a0)), (.arr false (a1z) (.r3 (a1))), (.arr false (a2z) (.ints .i64 (a2))), (.arr false (a3z) (.ints .i64 (a3))), (.arr false (a4z) (.ints .i64 (a4)))])]).bind fun r0 =>
 cond (!bit (nth r0 0))
 (some [(.arr true (false) (.ints .i64 ([])))])
 ((go k spec_PlanOk [(.agg [(.int .i64 (b0)), (.int .i64 (b1)), (.int .i64 (b2)), (.int .i64 (b3)), (.int .i64 (b4)), (.int .i64 (b5)), (.int .i64 (b6)), (.int .i64 (b7)), (.int .i64 (b8))])]).bind fun r1 =>
 cond (!bit (nth r1 0))
 (some [(.arr true (false) (.ints .i64 ([])))])
 ((go k spec_LeafAt [(.agg [(.int .i64 (a0)), (.arr false (a1z) (.r3 (a1)))]), (.int .i64 (d))]).bind fun r2 =>
 cond (decide (D.toInt (nth r2 0) < (0 : Int)))
 (some [(.arr true (false) (.ints .i64 ([])))])
 ((go k spec_l01In [(.int .i64 (c)), (.int .i64 (0 : Int)), (.int .i64 ((100 : Int)))]).bind fun r3 =>
 cond (!bit (nth r3 0))
 (some [(.arr true (false) (.ints .i64 ([])))])
 (lp k spec_GaugeRun [] [] 5 k (qw5 c d (0 : Int) a1z a1 a2z a2 a3z a3 a4z a4 a0 b0 b1 b2 b3 b4 b5 b6 b7 b8 false ([])))))) := by kernel_rfl
theorem qqd (k n : Nat) (fu : List (Nat × Nat)) (x0 x1 x2 : Int) (z3 : Bool) (l4 : List (Int × Int × Int)) (z5 : Bool) (l6 : List Int) (z7 : Bool) (l8 : List Int) (z9 : Bool) (l10 : List Int) (x11 x12 x13 x14 x15 x16 x17 x18 x19 x20 : Int) (z21 : Bool) (l22 : List Int) : lp k spec_GaugeRun [] fu 5 (n + 1) (qw5 x0 x1 x2 z3 l4 z5 l6 z7 l8 z9 l10 x11 x12 x13 x14 x15 x16 x17 x18 x19 x20 z21 l22) =
 cond (decide (x2 < x0))
 ((go k spec_l18Macro [(.agg [(.int .i64 (x11)), (.arr false (z3) (.r3 (l4))), (.arr false (z5) (.ints .i64 (l6))), (.arr false (z7) (.ints .i64 (l8))), (.arr false (z9) (.ints .i64 (l10)))]), (.agg [(.int .i64 (x12)), (.int .i64 (x13)), (.int .i64 (x14)), (.int .i64 (x15)), (.int .i64 (x16)), (.int .i64 (x17)), (.int .i64 (x18)), (.int .i64 (x19)), (.int .i64 (x20))]), (.int .i64 (x2))]).bind fun r0 =>
 (go k spec_l32Read [(.agg [(.int .i64 (D.toInt (D.cell 0 (nth r0 0)))), (.arr false (D.nil (D.cell 1 (nth r0 0))) (.r3 (D.r3 (D.cell 1 (nth r0 0))))), (.arr false (D.nil (D.cell 2 (nth r0 0))) (.ints .i64 (D.ints (D.cell 2 (nth r0 0))))), (.arr false (D.nil (D.cell 3 (nth r0 0))) (.ints .i64 (D.ints (D.cell 3 (nth r0 0))))), (.arr false (D.nil (D.cell 4 (nth r0 0))) (.ints .i64 (D.ints (D.cell 4 (nth r0 0)))))]), (.int .i64 (x1))]).bind fun r1 =>
 cond (decide (List.length (l22 ++ [D.toInt (nth r1 0)]) ≤ bigLen))
 (lp k spec_GaugeRun [] fu 5 n (qw6 x0 x1 (IntKind.wrap .i64 (x2 + (1 : Int))) (D.nil (D.cell 1 (nth r0 0))) (D.r3 (D.cell 1 (nth r0 0))) (D.nil (D.cell 2 (nth r0 0))) (D.ints (D.cell 2 (nth r0 0))) (D.nil (D.cell 3 (nth r0 0))) (D.ints (D.cell 3 (nth r0 0))) (D.nil (D.cell 4 (nth r0 0))) (D.ints (D.cell 4 (nth r0 0))) (D.toInt (D.cell 0 (nth r0 0))) x12 x13 x14 x15 x16 x17 x18 x19 x20 (z21 && decide (List.length (l22 ++ [D.toInt (nth r1 0)]) = 0)) (l22 ++ [D.toInt (nth r1 0)])))
 (none))
 (some [(.arr true (z21) (.ints .i64 (l22)))]) := by kernel_rfl
theorem qqe (k n : Nat) (fu : List (Nat × Nat)) (x0 x1 x2 : Int) (z3 : Bool) (l4 : List (Int × Int × Int)) (z5 : Bool) (l6 : List Int) (z7 : Bool) (l8 : List Int) (z9 : Bool) (l10 : List Int) (x11 x12 x13 x14 x15 x16 x17 x18 x19 x20 : Int) (z21 : Bool) (l22 : List Int) : lp k spec_GaugeRun [] fu 5 (n + 1) (qw6 x0 x1 x2 z3 l4 z5 l6 z7 l8 z9 l10 x11 x12 x13 x14 x15 x16 x17 x18 x19 x20 z21 l22) =
 cond (decide (x2 < x0))
 ((go k spec_l18Macro [(.agg [(.int .i64 (x11)), (.arr false (z3) (.r3 (l4))), (.arr false (z5) (.ints .i64 (l6))), (.arr false (z7) (.ints .i64 (l8))), (.arr false (z9) (.ints .i64 (l10)))]), (.agg [(.int .i64 (x12)), (.int .i64 (x13)), (.int .i64 (x14)), (.int .i64 (x15)), (.int .i64 (x16)), (.int .i64 (x17)), (.int .i64 (x18)), (.int .i64 (x19)), (.int .i64 (x20))]), (.int .i64 (x2))]).bind fun r0 =>
 (go k spec_l32Read [(.agg [(.int .i64 (D.toInt (D.cell 0 (nth r0 0)))), (.arr false (D.nil (D.cell 1 (nth r0 0))) (.r3 (D.r3 (D.cell 1 (nth r0 0))))), (.arr false (D.nil (D.cell 2 (nth r0 0))) (.ints .i64 (D.ints (D.cell 2 (nth r0 0))))), (.arr false (D.nil (D.cell 3 (nth r0 0))) (.ints .i64 (D.ints (D.cell 3 (nth r0 0))))), (.arr false (D.nil (D.cell 4 (nth r0 0))) (.ints .i64 (D.ints (D.cell 4 (nth r0 0)))))]), (.int .i64 (x1))]).bind fun r1 =>
 cond (decide (List.length (l22 ++ [D.toInt (nth r1 0)]) ≤ bigLen))
 (lp k spec_GaugeRun [] fu 5 n (qw6 x0 x1 (IntKind.wrap .i64 (x2 + (1 : Int))) (D.nil (D.cell 1 (nth r0 0))) (D.r3 (D.cell 1 (nth r0 0))) (D.nil (D.cell 2 (nth r0 0))) (D.ints (D.cell 2 (nth r0 0))) (D.nil (D.cell 3 (nth r0 0))) (D.ints (D.cell 3 (nth r0 0))) (D.nil (D.cell 4 (nth r0 0))) (D.ints (D.cell 4 (nth r0 0))) (D.toInt (D.cell 0 (nth r0 0))) x12 x13 x14 x15 x16 x17 x18 x19 x20 (z21 && decide (List.length (l22 ++ [D.toInt (nth r1 0)]) = 0)) (l22 ++ [D.toInt (nth r1 0)])))
 (none))
 (some [(.arr true (z21) (.ints .i64 (l22)))]) := by kernel_rfl
theorem qig (k : Nat) (a0 : Int) (a1z : Bool) (a1 : List (Int × Int × Int)) (a2z : Bool) (a2 : List Int) (a3z : Bool) (a3 : List Int) (a4z : Bool) (a4 : List Int) (b0 b1 b2 b3 b4 b5 b6 b7 b8 c d : Int) : go (k + 1) impl_GaugeRun [(.agg [(.int .i64 (a0)), (.arr false (a1z) (.r3 (a1))), (.arr false (a2z) (.ints .i64 (a2))), (.arr false (a3z) (.ints .i64 (a3))), (.arr false (a4z) (.ints .i64 (a4)))]), (.agg [(.int .i64 (b0)), (.int .i64 (b1)), (.int .i64 (b2)), (.int .i64 (b3)), (.int .i64 (b4)), (.int .i64 (b5)), (.int .i64 (b6)), (.int .i64 (b7)), (.int .i64 (b8))]), (.int .i64 (c)), (.int .i64 (d))] =
 (go k impl_LeafAt [(.agg [(.int .i64 (a0)), (.arr false (a1z) (.r3 (a1)))]), (.int .i64 (d))]).bind fun r0 =>
 cond (decide (D.toInt (nth r0 0) < (0 : Int)))
 (some [(.arr true (true) (.ints .i64 ([])))])
 ((go k impl_observe [(.agg [(.int .i64 (a0)), (.arr false (a1z) (.r3 (a1))), (.arr false (a2z) (.ints .i64 (a2))), (.arr false (a3z) (.ints .i64 (a3))), (.arr false (a4z) (.ints .i64 (a4)))]), (.agg [(.int .i64 (b0)), (.int .i64 (b1)), (.int .i64 (b2)), (.int .i64 (b3)), (.int .i64 (b4)), (.int .i64 (b5)), (.int .i64 (b6)), (.int .i64 (b7)), (.int .i64 (b8))]), (.int .i64 (c)), (.fn impl_GaugeRun_1 [(.ptr true [(.arr true (false) (.ints .i64 ([])))]), (.ptr true [(.int .i64 (d))])])]).bind fun r1 =>
 cond (!bit (nth r1 0))
 (some [(.arr true (true) (.ints .i64 ([])))])
 (some [(.arr true (D.nil (D.cell 0 (D.cell 0 (nth r1 1)))) (.ints .i64 (D.ints (D.cell 0 (D.cell 0 (nth r1 1))))))])) := by kernel_rfl
theorem qih (k : Nat) (v0 : Int) (v1 : Bool) (v2 : List (Int × Int × Int)) (v3 : Bool) (v4 : List Int) (v5 : Bool) (v6 : List Int) (v7 : Bool) (v8 : List Int) (v9 : Bool) (v10 : List Int) (v11 : Int) : go (k + 1) impl_GaugeRun_1 [(.agg [(.int .i64 (v0)), (.arr false (v1) (.r3 (v2))), (.arr false (v3) (.ints .i64 (v4))), (.arr false (v5) (.ints .i64 (v6))), (.arr false (v7) (.ints .i64 (v8)))]), (.ptr true [(.arr true (v9) (.ints .i64 (v10)))]), (.ptr false [(.int .i64 (v11))])] =
 (go k impl_ReadGauge [(.agg [(.int .i64 (v0)), (.arr false (v1) (.r3 (v2))), (.arr false (v3) (.ints .i64 (v4))), (.arr false (v5) (.ints .i64 (v6))), (.arr false (v7) (.ints .i64 (v8)))]), (.int .i64 (v11))]).bind fun r0 =>
 cond (decide (List.length (v10 ++ [D.toInt (nth r0 0)]) ≤ bigLen))
 (some [(.ptr true [(.arr true (v9 && decide (List.length (v10 ++ [D.toInt (nth r0 0)]) = 0)) (.ints .i64 (v10 ++ [D.toInt (nth r0 0)])))])])
 (none) := by kernel_rfl

end Go.Proofs.YtoldpdhhfmlckaaGreat
end
section
namespace Go.Proofs.YtoldpdhhfmlckaaGreat
open Go.Ev
set_option maxRecDepth 20000
def macN (p : Pl) (b : List Int) : Nat → S3 → S3
  | 0, s => s
  | n + 1, s => (mac p b (n : Int) (macN p b n s)).1
theorem qtc {r : Int} {b : List Int} {s : S3} (F : StF r s.1 s.2.1 s.2.2 b) {p : Pl} (P : PlF p) : ∀ n, StF r (macN p b n s).1 (macN p b n s).2.1 (macN p b n s).2.2 b
  | 0 => F
  | n + 1 => (qtd (qtc F P n) P (n : Int)).1
theorem qut {p : Pl} (h : quu p.bi p.bs p.bo p.rain p.loss p.dec p.high p.low p.every = true) : PlF p := by
  simp only [quu, qa7, Bool.and_eq_true, qoo] at h
  exact ⟨by omega, by omega, by omega, by omega, by omega, by omega, by omega, by omega, by omega⟩
theorem qny (f : Nat) (d0 : D) (l : List D) : (D.fn f (d0 :: l)).cell 0 = d0 := Eq.trans rfl rfl
end Go.Proofs.YtoldpdhhfmlckaaGreat
end
section
namespace Go.Proofs.YtoldpdhhfmlckaaGreat
open Go.Ev
set_option maxRecDepth 20000
def rdg (r : Int) (s : S3) (b : List Int) (pos : Int) : Int := cond (decide (0 ≤ qq2 r s.1 pos)) (surf s.1 s.2.1 b (qq2 r s.1 pos).toNat) 0
def grun (p : Pl) (r : Int) (b : List Int) (s : S3) (pos : Int) (j : Nat) : Int := rdg r (macN p b (j + 1) s) b pos
set_option maxHeartbeats 1000000 in
theorem qsq (k : Nat) (hk : 2000000 ≤ k) (fu : List (Nat × Nat)) (r : Int) (s : S3) (b : List Int) (F : StF r s.1 s.2.1 s.2.2 b) (p : Pl) (P : PlF p) (c pos : Int) (hc : c ≤ 100) : ∀ (N n i : Nat), (i : Int) + n = c → n < N →
    lp (k + 8) spec_GaugeRun [] fu 5 (N) (qw6 c pos (i : Int) false (macN p b i s).1 false (macN p b i s).2.1 false (macN p b i s).2.2 false b r p.bi p.bs p.bo p.rain p.loss p.dec p.high p.low p.every false (tab i (grun p r b s pos))) = some [.arr true false (.ints .i64 (tab (i + n) (grun p r b s pos)))]
  | 0, n, i, hi, hN => by omega
  | N + 1, 0, i, hi, hN => by
    rw [qqe]
    simp (disch := omega) only [dF, big0, qgr, q0f, Bool.false_and, qhl]; rfl
  | N + 1, n + 1, i, hi, hN => by
    rw [qqe]
    have G := qtc F P i
    have G1 := qtc F P (i + 1)
    have IH := qsq k hk fu r s b F p P c pos hc N n (i + 1) (by omega) (by omega)
    rw [qzd i, show i + 1 + n = i + (n + 1) by omega] at IH
    have L1 := G1.len
    have eM := qgg k (by omega) r (macN p b i s) b G p P (i : Int) (by omega)
    have eR := qgi (k + 1) (by omega) r false (macN p b (i + 1) s).1 false (macN p b (i + 1) s).2.1 false (macN p b (i + 1) s).2.2 false b pos (by omega) G1
    rw [show cond (decide (0 ≤ qq2 r (macN p b (i + 1) s).1 pos)) (surf (macN p b (i + 1) s).1 (macN p b (i + 1) s).2.1 b (qq2 r (macN p b (i + 1) s).1 pos).toNat) 0 = grun p r b s pos i from rfl] at eR
    have tl : (tab i (grun p r b s pos) ++ [grun p r b s pos i]).length = i + 1 := by rw [List.length_append, qza]; rfl
    simp only [macN] at IH eR
    simp (disch := omega) only [dT, eM, big0, qgr, q0f, Bool.false_and, qa2, nth0, qgt, qzo, qgu, qt9, quz, qg5, qoq, qg7, qg8, eR, tl, IH, qhn]
def gOk (r : Int) (s : S3) (b : List Int) (p : Pl) (c pos : Int) : Bool := stOk r s.1 s.2.1 s.2.2 b && (quu p.bi p.bs p.bo p.rain p.loss p.dec p.high p.low p.every && (decide (0 ≤ qq2 r s.1 pos) && inR c 0 100))
theorem qe5 (k : Nat) (hk : 2000000 ≤ k) (r : Int) (s : S3) (b : List Int) (p : Pl) (c pos : Int) (h1 : (s.1.length : Int) ≤ 1048576) (h4 : (b.length : Int) ≤ 1048576) :
    go (k + 9) spec_GaugeRun [.agg [.int .i64 (r), .arr false (false) (.r3 (s.1)), .arr false (false) (.ints .i64 (s.2.1)), .arr false (false) (.ints .i64 (s.2.2)), .arr false (false) (.ints .i64 (b))], plD p, .int .i64 c, .int .i64 pos] = some [.arr true false (.ints .i64 (cond (gOk r s b p c pos) (tab c.toNat (grun p r b s pos)) []))] := by
  rw [ql7]
  unfold gOk
  cases g : stOk r s.1 s.2.1 s.2.2 b
  · simp (disch := omega) only [qfn, g, bit, qa2, nth0, qzn, Bool.not_false, qhn, Bool.false_and, qhl]
  cases g2 : quu p.bi p.bs p.bo p.rain p.loss p.dec p.high p.low p.every
  · simp (disch := omega) only [qfn, g, bit, qfg, g2, qa2, nth0, qzn, Bool.not_false, qhn, Bool.not_true, qhl, Bool.false_and, Bool.and_false]
  by_cases g4 : 0 ≤ qq2 r s.1 pos
  case neg => simp (disch := omega) only [qfn, g, bit, qfg, g2, qfa, qa2, nth0, qzo, dT, qhn, qzn, Bool.not_true, qhl, dF, Bool.false_and, Bool.and_false]
  cases g3 : inR c 0 100
  · simp (disch := omega) only [qfn, g, bit, qfg, g2, qfa, qfu, g3, qa2, nth0, qzn, Bool.not_false, qhn, qzo, dF, qhl, Bool.not_true, dT, Bool.and_false]
  have F := stF.1 g; have P := qut g2; have bc := qoo.1 g3
  simp (disch := omega) only [qfn, g, bit, qfg, g2, qfa, qfu, g3, qa2, nth0, qzn, Bool.not_true, qhl, qzo, dF, dT, Bool.and_true, qhn]
  cases hn : c.toNat with
  | zero =>
    have : c = 0 := by omega
    subst this
    have e := qqd (k + 8) (k + 8 - 1) [] 0 pos 0 false s.1 false s.2.1 false s.2.2 false b r p.bi p.bs p.bo p.rain p.loss p.dec p.high p.low p.every false []
    rw [show k + 8 - 1 + 1 = k + 8 by omega] at e
    refine e.trans ?_
    simp (disch := omega) only [dF, qt8, big0, q0f, Bool.false_and, qhl]; rfl
  | succ n =>
    have e := qqd (k + 8) (k + 8 - 1) [] c pos 0 false s.1 false s.2.1 false s.2.2 false b r p.bi p.bs p.bo p.rain p.loss p.dec p.high p.low p.every false []
    rw [show k + 8 - 1 + 1 = k + 8 by omega] at e
    refine e.trans ?_
    have IH := qsq k hk [] r s b F p P c pos bc.2 (k + 8 - 1) n 1 (by omega) (by omega)
    have G1 := qtc F P 1
    have L1 := G1.len
    have eM := qgg k (by omega) r s b F p P 0 (by omega)
    have eR := qgi (k + 1) (by omega) r false (macN p b 1 s).1 false (macN p b 1 s).2.1 false (macN p b 1 s).2.2 false b pos (by omega) G1
    rw [show cond (decide (0 ≤ qq2 r (macN p b 1 s).1 pos)) (surf (macN p b 1 s).1 (macN p b 1 s).2.1 b (qq2 r (macN p b 1 s).1 pos).toNat) 0 = grun p r b s pos 0 from rfl] at eR
    rw [show tab 1 (grun p r b s pos) = [] ++ [grun p r b s pos 0] from rfl, show ((1 : Nat) : Int) = 0 + 1 from rfl, show macN p b 1 s = (mac p b 0 s).1 from rfl, Nat.add_comm 1 n] at IH
    rw [show macN p b 1 s = (mac p b 0 s).1 from rfl] at eR
    have tl : ([] ++ [grun p r b s pos 0]).length = 1 := rfl
    have tl' : [grun p r b s pos 0].length = 1 := rfl
    rw [qt8] at IH
    simp (disch := omega) only [dT, eM, qt8, big0, q0f, Bool.false_and, qa2, nth0, qgt, qzo, qgu, qt9, quz, qg5, qoq, qg7, qg8, eR, tl', IH, qhn]
theorem qbo (k : Nat) (hk : 2000000 ≤ k) (r : Int) (s : S3) (b : List Int) (F : StF r s.1 s.2.1 s.2.2 b) (pos : Int) (L : List Int) (hL : L.length ≤ 200) : go (k + 11) impl_GaugeRun_1 [.agg [.int .i64 (r), .arr false (false) (.r3 (s.1)), .arr false (false) (.ints .i64 (s.2.1)), .arr false (false) (.ints .i64 (s.2.2)), .arr false (false) (.ints .i64 (b))], .ptr true [.arr true false (.ints .i64 L)], .ptr false [.int .i64 pos]] = some [.ptr true [.arr true false (.ints .i64 (L ++ [rdg r s b pos]))]] := by
  rw [qih]
  have Le := F.len; have bl := F.bl; have rr := F.rr; have g := stF.2 F
  have eC := qb1 k (by omega) r false s.1 false s.2.1 false s.2.2 false b pos (by omega) (by omega)
  rw [show qu9 r s.1 s.2.1 s.2.2 b pos = rdg r s b pos by unfold qu9 rdg; rw [g]; rfl] at eC
  have ll : (L ++ [rdg r s b pos]).length = L.length + 1 := by simp
  simp (disch := omega) only [eC, big0, Bool.false_and, qa2, nth0, qzo, ll, dT, qhn]
set_option maxHeartbeats 1000000 in
theorem qrp (k : Nat) (hk : 2000000 ≤ k) (fu : List (Nat × Nat)) (v19 : Bool) (v20 : List Int) (v21 : Int) (r : Int) (s : S3) (b : List Int) (F : StF r s.1 s.2.1 s.2.2 b) (p : Pl) (P : PlF p) (c pos : Int) (hc : c ≤ 100) : ∀ (N n i : Nat), (i : Int) + n = c → n < N →
    lp (k + 11) impl_observe [(.fn impl_GaugeRun_1 [(.ptr true [(.arr true (v19) (.ints .i64 (v20)))]), (.ptr true [(.int .i64 (v21))])])] fu 5 (N) (qwl c (i : Int) false (tab i (grun p r b s pos)) pos p.bi p.bs p.bo p.rain p.loss p.dec p.high p.low p.every false (macN p b i s).1 false (macN p b i s).2.1 false (macN p b i s).2.2 false b r) = some [.bool true, .fn impl_GaugeRun_1 [.ptr true [.arr true false (.ints .i64 (tab (i + n) (grun p r b s pos)))], .ptr true [.int .i64 pos]]]
  | 0, n, i, hi, hN => by omega
  | N + 1, 0, i, hi, hN => by
    rw [qpt]
    simp (disch := omega) only [dF, qgr, q0f, qhl]; rfl
  | N + 1, n + 1, i, hi, hN => by
    rw [qpt]
    have G := qtc F P i
    have G1 := qtc F P (i + 1)
    have IH := qrp k hk fu v19 v20 v21 r s b F p P c pos hc N n (i + 1) (by omega) (by omega)
    rw [qzd i, show i + 1 + n = i + (n + 1) by omega] at IH
    have eM := qdc k (by omega) r (macN p b i s) b G p P (i : Int) (by omega)
    have eC := qbo k (by omega) r (macN p b (i + 1) s) b G1 pos (tab i (grun p r b s pos)) (by rw [qza]; omega)
    rw [show rdg r (macN p b (i + 1) s) b pos = grun p r b s pos i from rfl] at eC
    simp only [macN] at IH eC
    simp (disch := omega) only [dT, eM, qgr, q0f, qa2, nth1, qu4, qzo, qu5, qt9, quz, qu6, qoq, qu7, qu8, eC, nth0, IH, qhn]
theorem qbn (k : Nat) (hk : 2000000 ≤ k) (r : Int) (s : S3) (b : List Int) (p : Pl) (c pos : Int) (h1 : (s.1.length : Int) ≤ 1048576) (h2 : (s.2.1.length : Int) ≤ 1048576) (h3 : (s.2.2.length : Int) ≤ 1048576) (h4 : (b.length : Int) ≤ 1048576) :
    go (k + 13) impl_GaugeRun [.agg [.int .i64 (r), .arr false (false) (.r3 (s.1)), .arr false (false) (.ints .i64 (s.2.1)), .arr false (false) (.ints .i64 (s.2.2)), .arr false (false) (.ints .i64 (b))], plD p, .int .i64 c, .int .i64 pos] = some [.arr true (!(gOk r s b p c pos)) (.ints .i64 (cond (gOk r s b p c pos) (tab c.toNat (grun p r b s pos)) []))] := by
  rw [qig]
  unfold gOk
  by_cases g4 : 0 ≤ qq2 r s.1 pos
  case neg =>
    simp (disch := omega) only [qbt, bit, qa2, nth0, qzo, dT, qhn, dF, Bool.false_and, Bool.and_false, Bool.not_false, qhl]
  cases g : stOk r s.1 s.2.1 s.2.2 b
  · simp (disch := omega) only [qbt, qkf, qb8, g, bit, qa2, nth0, qzn, Bool.not_false, qhn, nth1, qzo, dF, qhl, dT, Bool.true_and, Bool.false_and]
  cases g2 : quu p.bi p.bs p.bo p.rain p.loss p.dec p.high p.low p.every
  · simp (disch := omega) only [qbt, qkf, qb8, g, bit, qb0, g2, qa2, nth0, qzn, Bool.not_false, qhn, Bool.not_true, qhl, nth1, qzo, dF, dT, Bool.true_and, Bool.false_and, Bool.and_false]
  cases g3 : inR c 0 100
  · simp (disch := omega) only [qbt, qkf, qb8, g, bit, qb0, g2, qdk, g3, qa2, nth0, qzn, Bool.not_false, qhn, Bool.not_true, qhl, nth1, qzo, dF, dT, Bool.and_false]
  have F := stF.1 g; have P := qut g2; have bc := qoo.1 g3
  have eO := qrp k (by omega) [] false [] pos r s b F p P c pos bc.2 (k + 11) c.toNat 0 (by omega) (by omega)
  rw [show tab 0 (grun p r b s pos) = [] from rfl, show ((0 : Nat) : Int) = 0 from rfl, Nat.zero_add, show macN p b 0 s = s from rfl] at eO
  simp (disch := omega) only [qbt, qkf, qb8, g, bit, qb0, g2, qdk, g3, qcm, qa2, nth0, qgu, qt9, quz, qg5, qoq, qg7, qg8, qgt, qzo, eO, qzn, Bool.not_true, qhl, nth1, qny, qu4, dF, dT, Bool.and_true, qhn]
end Go.Proofs.YtoldpdhhfmlckaaGreat
end
section
namespace Go.Proofs.YtoldpdhhfmlckaaGreat
open Go.Ev
theorem qkl (k : Nat) (a0 : Int) (a1z : Bool) (a1 : List (Int × Int × Int)) (a2z : Bool) (a2 : List Int) (a3z : Bool) (a3 : List Int) (a4z : Bool) (a4 : List Int) (b0 b1 b2 b3 b4 b5 b6 b7 b8 c d : Int) : go (k + 1) laws_FnExactGaugeRun [(.agg [(.int .i64 (a0)), (.arr false (a1z) (.r3 (a1))), (.arr false (a2z) (.ints .i64 (a2))), (.arr false (a3z) (.ints .i64 (a3))), (.arr false (a4z) (.ints .i64 (a4)))]), (.agg [(.int .i64 (b0)), (.int .i64 (b1)), (.int .i64 (b2)), (.int .i64 (b3)), (.int .i64 (b4)), (.int .i64 (b5)), (.int .i64 (b6)), (.int .i64 (b7)), (.int .i64 (b8))]), (.int .i64 (c)), (.int .i64 (d))] =
 (go k laws_szState [(.agg [(.int .i64 (a0)), (.arr false (a1z) (.r3 (a1))), (.arr false (a2z) (.ints .i64 (a2))), (.arr false (a3z) (.ints .i64 (a3))), (.arr false (a4z) (.ints .i64 (a4)))]), (.int .i64 ((1048576 : Int)))]).bind fun r0 =>
 cond (decide (D.toInt (nth r0 0) < (0 : Int)))
 (some [(.bool (true))])
 ((go k laws_toState [(.agg [(.int .i64 (a0)), (.arr false (a1z) (.r3 (a1))), (.arr false (a2z) (.ints .i64 (a2))), (.arr false (a3z) (.ints .i64 (a3))), (.arr false (a4z) (.ints .i64 (a4)))])]).bind fun r1 =>
 (go k laws_toPlan [(.agg [(.int .i64 (b0)), (.int .i64 (b1)), (.int .i64 (b2)), (.int .i64 (b3)), (.int .i64 (b4)), (.int .i64 (b5)), (.int .i64 (b6)), (.int .i64 (b7)), (.int .i64 (b8))])]).bind fun r2 =>
 (go k spec_GaugeRun [(.agg [(.int .i64 (D.toInt (D.cell 0 (nth r1 0)))), (.arr false (D.nil (D.cell 1 (nth r1 0))) (.r3 (D.r3 (D.cell 1 (nth r1 0))))), (.arr false (D.nil (D.cell 2 (nth r1 0))) (.ints .i64 (D.ints (D.cell 2 (nth r1 0))))), (.arr false (D.nil (D.cell 3 (nth r1 0))) (.ints .i64 (D.ints (D.cell 3 (nth r1 0))))), (.arr false (D.nil (D.cell 4 (nth r1 0))) (.ints .i64 (D.ints (D.cell 4 (nth r1 0)))))]), (.agg [(.int .i64 (D.toInt (D.cell 0 (nth r2 0)))), (.int .i64 (D.toInt (D.cell 1 (nth r2 0)))), (.int .i64 (D.toInt (D.cell 2 (nth r2 0)))), (.int .i64 (D.toInt (D.cell 3 (nth r2 0)))), (.int .i64 (D.toInt (D.cell 4 (nth r2 0)))), (.int .i64 (D.toInt (D.cell 5 (nth r2 0)))), (.int .i64 (D.toInt (D.cell 6 (nth r2 0)))), (.int .i64 (D.toInt (D.cell 7 (nth r2 0)))), (.int .i64 (D.toInt (D.cell 8 (nth r2 0))))]), (.int .i64 (c)), (.int .i64 (d))]).bind fun r3 =>
 (go k laws_toState [(.agg [(.int .i64 (a0)), (.arr false (a1z) (.r3 (a1))), (.arr false (a2z) (.ints .i64 (a2))), (.arr false (a3z) (.ints .i64 (a3))), (.arr false (a4z) (.ints .i64 (a4)))])]).bind fun r4 =>
 (go k laws_toPlan [(.agg [(.int .i64 (b0)), (.int .i64 (b1)), (.int .i64 (b2)), (.int .i64 (b3)), (.int .i64 (b4)), (.int .i64 (b5)), (.int .i64 (b6)), (.int .i64 (b7)), (.int .i64 (b8))])]).bind fun r5 =>
 (go k impl_GaugeRun [(.agg [(.int .i64 (D.toInt (D.cell 0 (nth r4 0)))), (.arr false (D.nil (D.cell 1 (nth r4 0))) (.r3 (D.r3 (D.cell 1 (nth r4 0))))), (.arr false (D.nil (D.cell 2 (nth r4 0))) (.ints .i64 (D.ints (D.cell 2 (nth r4 0))))), (.arr false (D.nil (D.cell 3 (nth r4 0))) (.ints .i64 (D.ints (D.cell 3 (nth r4 0))))), (.arr false (D.nil (D.cell 4 (nth r4 0))) (.ints .i64 (D.ints (D.cell 4 (nth r4 0)))))]), (.agg [(.int .i64 (D.toInt (D.cell 0 (nth r5 0)))), (.int .i64 (D.toInt (D.cell 1 (nth r5 0)))), (.int .i64 (D.toInt (D.cell 2 (nth r5 0)))), (.int .i64 (D.toInt (D.cell 3 (nth r5 0)))), (.int .i64 (D.toInt (D.cell 4 (nth r5 0)))), (.int .i64 (D.toInt (D.cell 5 (nth r5 0)))), (.int .i64 (D.toInt (D.cell 6 (nth r5 0)))), (.int .i64 (D.toInt (D.cell 7 (nth r5 0)))), (.int .i64 (D.toInt (D.cell 8 (nth r5 0))))]), (.int .i64 (c)), (.int .i64 (d))]).bind fun r6 =>
 (go k laws_eqIntS [(.arr false (D.nil (nth r6 0)) (.ints .i64 (D.ints (nth r6 0)))), (.arr false (D.nil (nth r3 0)) (.ints .i64 (D.ints (nth r3 0))))]).bind fun r7 =>
 cond (!bit (nth r7 0))
 (some [(.bool (false))])
 ((go k laws_toState [(.agg [(.int .i64 (a0)), (.arr false (a1z) (.r3 (a1))), (.arr false (a2z) (.ints .i64 (a2))), (.arr false (a3z) (.ints .i64 (a3))), (.arr false (a4z) (.ints .i64 (a4)))])]).bind fun r8 =>
 (go k laws_eqState [(.agg [(.int .i64 (D.toInt (D.cell 0 (nth r4 0)))), (.arr false (D.nil (D.cell 1 (nth r4 0))) (.r3 (D.r3 (D.cell 1 (nth r4 0))))), (.arr false (D.nil (D.cell 2 (nth r4 0))) (.ints .i64 (D.ints (D.cell 2 (nth r4 0))))), (.arr false (D.nil (D.cell 3 (nth r4 0))) (.ints .i64 (D.ints (D.cell 3 (nth r4 0))))), (.arr false (D.nil (D.cell 4 (nth r4 0))) (.ints .i64 (D.ints (D.cell 4 (nth r4 0)))))]), (.agg [(.int .i64 (D.toInt (D.cell 0 (nth r8 0)))), (.arr false (D.nil (D.cell 1 (nth r8 0))) (.r3 (D.r3 (D.cell 1 (nth r8 0))))), (.arr false (D.nil (D.cell 2 (nth r8 0))) (.ints .i64 (D.ints (D.cell 2 (nth r8 0))))), (.arr false (D.nil (D.cell 3 (nth r8 0))) (.ints .i64 (D.ints (D.cell 3 (nth r8 0))))), (.arr false (D.nil (D.cell 4 (nth r8 0))) (.ints .i64 (D.ints (D.cell 4 (nth r8 0)))))])]).bind fun r9 =>
 cond (!bit (nth r9 0))
 (some [(.bool (false))])
 ((go k laws_markState [(.agg [(.int .i64 (D.toInt (D.cell 0 (nth r4 0)))), (.arr true (D.nil (D.cell 1 (nth r4 0))) (.r3 (D.r3 (D.cell 1 (nth r4 0))))), (.arr true (D.nil (D.cell 2 (nth r4 0))) (.ints .i64 (D.ints (D.cell 2 (nth r4 0))))), (.arr true (D.nil (D.cell 3 (nth r4 0))) (.ints .i64 (D.ints (D.cell 3 (nth r4 0))))), (.arr true (D.nil (D.cell 4 (nth r4 0))) (.ints .i64 (D.ints (D.cell 4 (nth r4 0)))))]), (.int .i64 ((1 : Int)))]).bind fun r10 =>
 cond (decide (D.toInt (nth r10 0) < (0 : Int)))
 (some [(.bool (false))])
 ((go k laws_eqIntS [(.arr false (D.nil (nth r6 0)) (.ints .i64 (D.ints (nth r6 0)))), (.arr false (D.nil (nth r3 0)) (.ints .i64 (D.ints (nth r3 0))))]).bind fun r11 =>
 cond (!bit (nth r11 0))
 (some [(.bool (false))])
 ((go k laws_markIntS [(.arr true (D.nil (nth r6 0)) (.ints .i64 (D.ints (nth r6 0)))), (.int .i64 ((1 : Int)))]).bind fun r12 =>
 (go k laws_heldIntS [(.arr false (D.nil (nth r6 0)) (.ints .i64 (D.ints (nth r12 1)))), (.int .i64 ((1 : Int)))]).bind fun r13 =>
 cond (decide (D.toInt (nth r13 0) < (0 : Int)))
 (some [(.bool (false))])
 (cond (!decide (D.toInt (nth r13 0) = D.toInt (nth r12 0)))
 (some [(.bool (false))])
 ((go k laws_toState [(.agg [(.int .i64 (a0)), (.arr false (a1z) (.r3 (a1))), (.arr false (a2z) (.ints .i64 (a2))), (.arr false (a3z) (.ints .i64 (a3))), (.arr false (a4z) (.ints .i64 (a4)))])]).bind fun r14 =>
 (go k laws_toPlan [(.agg [(.int .i64 (b0)), (.int .i64 (b1)), (.int .i64 (b2)), (.int .i64 (b3)), (.int .i64 (b4)), (.int .i64 (b5)), (.int .i64 (b6)), (.int .i64 (b7)), (.int .i64 (b8))])]).bind fun r15 =>
 (go k impl_GaugeRun [(.agg [(.int .i64 (D.toInt (D.cell 0 (nth r14 0)))), (.arr false (D.nil (D.cell 1 (nth r14 0))) (.r3 (D.r3 (D.cell 1 (nth r14 0))))), (.arr false (D.nil (D.cell 2 (nth r14 0))) (.ints .i64 (D.ints (D.cell 2 (nth r14 0))))), (.arr false (D.nil (D.cell 3 (nth r14 0))) (.ints .i64 (D.ints (D.cell 3 (nth r14 0))))), (.arr false (D.nil (D.cell 4 (nth r14 0))) (.ints .i64 (D.ints (D.cell 4 (nth r14 0)))))]), (.agg [(.int .i64 (D.toInt (D.cell 0 (nth r15 0)))), (.int .i64 (D.toInt (D.cell 1 (nth r15 0)))), (.int .i64 (D.toInt (D.cell 2 (nth r15 0)))), (.int .i64 (D.toInt (D.cell 3 (nth r15 0)))), (.int .i64 (D.toInt (D.cell 4 (nth r15 0)))), (.int .i64 (D.toInt (D.cell 5 (nth r15 0)))), (.int .i64 (D.toInt (D.cell 6 (nth r15 0)))), (.int .i64 (D.toInt (D.cell 7 (nth r15 0)))), (.int .i64 (D.toInt (D.cell 8 (nth r15 0))))]), (.int .i64 (c)), (.int .i64 (d))]).bind fun r16 =>
 (go k laws_eqIntS [(.arr false (D.nil (nth r16 0)) (.ints .i64 (D.ints (nth r16 0)))), (.arr false (D.nil (nth r3 0)) (.ints .i64 (D.ints (nth r3 0))))]).bind fun r17 =>
 cond (!bit (nth r17 0))
 (some [(.bool (false))])
 ((go k laws_heldIntS [(.arr false (D.nil (nth r6 0)) (.ints .i64 (D.ints (nth r12 1)))), (.int .i64 ((1 : Int)))]).bind fun r18 =>
 cond (decide (D.toInt (nth r18 0) < (0 : Int)))
 (some [(.bool (false))])
 (cond (!decide (D.toInt (nth r18 0) = D.toInt (nth r12 0)))
 (some [(.bool (false))])
 (some [(.bool (true))])))))))))) := by kernel_rfl

end Go.Proofs.YtoldpdhhfmlckaaGreat
end
section
namespace Go.Proofs.YtoldpdhhfmlckaaGreat
open Go.Ev
set_option maxRecDepth 20000
set_option maxHeartbeats 1000000 in
theorem law_GaugeRun (k : Nat) (hk : 2000000 ≤ k) (a0 : Int) (a1z : Bool) (a1 : List (Int × Int × Int)) (a2z : Bool) (a2 : List Int) (a3z : Bool) (a3 : List Int) (a4z : Bool) (a4 : List Int) (b0 : Int) (b1 : Int) (b2 : Int) (b3 : Int) (b4 : Int) (b5 : Int) (b6 : Int) (b7 : Int) (b8 : Int) (c : Int) (d : Int) (hl_a1 : (a1.length : Int) ≤ 9223372036854775807) (hl_a2 : (a2.length : Int) ≤ 9223372036854775807) (hl_a3 : (a3.length : Int) ≤ 9223372036854775807) (hl_a4 : (a4.length : Int) ≤ 9223372036854775807) : go (k + 14) laws_FnExactGaugeRun [(.agg [(.int .i64 (a0)), (.arr false (a1z) (.r3 (a1))), (.arr false (a2z) (.ints .i64 (a2))), (.arr false (a3z) (.ints .i64 (a3))), (.arr false (a4z) (.ints .i64 (a4)))]), (.agg [(.int .i64 (b0)), (.int .i64 (b1)), (.int .i64 (b2)), (.int .i64 (b3)), (.int .i64 (b4)), (.int .i64 (b5)), (.int .i64 (b6)), (.int .i64 (b7)), (.int .i64 (b8))]), (.int .i64 (c)), (.int .i64 (d))] = some [.bool true] := by
  rw [qkl]
  by_cases h : (a1.length : Int) + a2.length + a3.length + a4.length ≤ 1048576
  case neg => simp (disch := omega) only [qeb, if_neg h, bit, qa2, nth0, qzo, dT, qhn]
  obtain ⟨L, hL⟩ : ∃ L : List Int, L = cond (gOk a0 (a1, a2, a3) a4 ⟨b0, b1, b2, b3, b4, b5, b6, b7, b8⟩ c d) (tab c.toNat (grun ⟨b0, b1, b2, b3, b4, b5, b6, b7, b8⟩ a0 a4 (a1, a2, a3) d)) [] := ⟨_, rfl⟩
  obtain ⟨z, hz⟩ : ∃ z : Bool, z = !(gOk a0 (a1, a2, a3) a4 ⟨b0, b1, b2, b3, b4, b5, b6, b7, b8⟩ c d) := ⟨_, rfl⟩
  have ll : (L.length : Int) ≤ 1000 := by
    rw [hL]
    cases g : gOk a0 (a1, a2, a3) a4 ⟨b0, b1, b2, b3, b4, b5, b6, b7, b8⟩ c d
    · simp
    · simp only [gOk, Bool.and_eq_true] at g
      have := qoo.1 g.2.2.2
      rw [qhn, qza]; omega
  have eA : ∀ (k : Nat), 2000000 ≤ k → go (k + 9) spec_GaugeRun [.agg [.int .i64 (a0), .arr false (false) (.r3 (a1)), .arr false (false) (.ints .i64 (a2)), .arr false (false) (.ints .i64 (a3)), .arr false (false) (.ints .i64 (a4))], .agg [.int .i64 b0, .int .i64 b1, .int .i64 b2, .int .i64 b3, .int .i64 b4, .int .i64 b5, .int .i64 b6, .int .i64 b7, .int .i64 b8], .int .i64 c, .int .i64 d] = some [.arr true false (.ints .i64 L)] :=
    fun k hk => by rw [hL]; exact qe5 k hk a0 (a1, a2, a3) a4 ⟨b0, b1, b2, b3, b4, b5, b6, b7, b8⟩ c d (by show (a1.length : Int) ≤ _; omega) (by omega)
  have eB : ∀ (k : Nat), 2000000 ≤ k → go (k + 13) impl_GaugeRun [.agg [.int .i64 (a0), .arr false (false) (.r3 (a1)), .arr false (false) (.ints .i64 (a2)), .arr false (false) (.ints .i64 (a3)), .arr false (false) (.ints .i64 (a4))], .agg [.int .i64 b0, .int .i64 b1, .int .i64 b2, .int .i64 b3, .int .i64 b4, .int .i64 b5, .int .i64 b6, .int .i64 b7, .int .i64 b8], .int .i64 c, .int .i64 d] = some [.arr true z (.ints .i64 L)] :=
    fun k hk => by rw [hL, hz]; exact qbn k hk a0 (a1, a2, a3) a4 ⟨b0, b1, b2, b3, b4, b5, b6, b7, b8⟩ c d (by show (a1.length : Int) ≤ _; omega) (by show (a2.length : Int) ≤ _; omega) (by show (a3.length : Int) ≤ _; omega) (by omega)
  clear hL hz
  simp (disch := omega) only [qeb, if_pos h, qem, qel, bit, qa2, nth0, qgt, qzo, qgu, qg5, qg7, qg8, qg9, qha, qhb, qhc, qt9, quz, qoq, eB, qdu, qd5, dF, qhl, qzn, Bool.not_true, qd3, nth1, qdx, dTT, eA, qdq]
end Go.Proofs.YtoldpdhhfmlckaaGreat
end
