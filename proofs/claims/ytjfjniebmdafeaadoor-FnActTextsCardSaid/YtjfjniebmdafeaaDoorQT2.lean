/- What the program's functions compute, and plain facts of it (part 2). No condition beyond those that each theorem states. -/
import Derived.Test.YtjfjniebmdafeaaDoorQT1
set_option linter.unusedVariables false
set_option linter.unusedSimpArgs false
section
namespace Go.Proofs.YtjfjniebmdafeaaDoor
open Go.Ev
theorem qd6 (k : Nat) (a0 a1 a2 a3 : Int) : go (k + 1) impl_ActOk [(.agg [(.int .i64 (a0)), (.int .i64 (a1)), (.int .i64 (a2)), (.int .i64 (a3))])] =
 cond (decide (a2 = (0 : Int)))
 (cond (decide (a0 = (1 : Int)))
 (cond (decide (a3 = (0 : Int)))
 ((go k impl_within [(.int .i64 (a1)), (.int .i64 ((1 : Int))), (.int .i64 ((20 : Int)))]).bind fun r0 =>
 some [(.bool (bit (nth r0 0)))])
 (some [(.bool (false))]))
 (cond (decide (a0 = (2 : Int)))
 (cond (decide (a0 = (2 : Int)))
 (cond (decide (a3 = (0 : Int)))
 ((go k impl_isRain [(.int .i64 (a1))]).bind fun r1 =>
 some [(.bool (bit (nth r1 0)))])
 (some [(.bool (false))]))
 (cond (decide (a0 = (4 : Int)))
 ((go k impl_BorderOk [(.agg [(.int .i64 (a1)), (.int .i64 (a2)), (.int .i64 (a3))])]).bind fun r2 =>
 some [(.bool (bit (nth r2 0)))])
 (cond (decide (a0 = (5 : Int)))
 (cond (decide (a3 = (0 : Int)))
 ((go k impl_isRate [(.int .i64 (a1))]).bind fun r3 =>
 some [(.bool (bit (nth r3 0)))])
 (some [(.bool (false))]))
 (cond (decide (a0 = (6 : Int)))
 ((go k impl_within [(.int .i64 (a1)), (.int .i64 (0 : Int)), (.int .i64 ((1000000 : Int)))]).bind fun r4 =>
 cond (bit (nth r4 0))
 ((go k impl_within [(.int .i64 (a2)), (.int .i64 (0 : Int)), (.int .i64 ((1000000 : Int)))]).bind fun r5 =>
 cond (bit (nth r5 0))
 ((go k impl_within [(.int .i64 (a3)), (.int .i64 (0 : Int)), (.int .i64 ((100 : Int)))]).bind fun r6 =>
 some [(.bool (bit (nth r6 0)))])
 (some [(.bool (false))]))
 (some [(.bool (false))]))
 (cond (decide (a0 = (7 : Int)))
 ((go k impl_within [(.int .i64 (a1)), (.int .i64 (0 : Int)), (.int .i64 ((127 : Int)))]).bind fun r7 =>
 cond (bit (nth r7 0))
 ((go k impl_within [(.int .i64 (a2)), (.int .i64 ((1 : Int))), (.int .i64 ((10000 : Int)))]).bind fun r8 =>
 cond (bit (nth r8 0))
 ((go k impl_within [(.int .i64 (a3)), (.int .i64 (0 : Int)), (.int .i64 ((1000 : Int)))]).bind fun r9 =>
 some [(.bool (bit (nth r9 0)))])
 (some [(.bool (false))]))
 (some [(.bool (false))]))
 (some [(.bool (false))]))))))
 (cond (decide (a0 = (3 : Int)))
 (cond (decide (a3 = (0 : Int)))
 ((go k impl_isRain [(.int .i64 (a1))]).bind fun r10 =>
 some [(.bool (bit (nth r10 0)))])
 (some [(.bool (false))]))
 (cond (decide (a0 = (4 : Int)))
 ((go k impl_BorderOk [(.agg [(.int .i64 (a1)), (.int .i64 (a2)), (.int .i64 (a3))])]).bind fun r11 =>
 some [(.bool (bit (nth r11 0)))])
 (cond (decide (a0 = (5 : Int)))
 (cond (decide (a3 = (0 : Int)))
 ((go k impl_isRate [(.int .i64 (a1))]).bind fun r12 =>
 some [(.bool (bit (nth r12 0)))])
 (some [(.bool (false))]))
 (cond (decide (a0 = (6 : Int)))
 ((go k impl_within [(.int .i64 (a1)), (.int .i64 (0 : Int)), (.int .i64 ((1000000 : Int)))]).bind fun r13 =>
 cond (bit (nth r13 0))
 ((go k impl_within [(.int .i64 (a2)), (.int .i64 (0 : Int)), (.int .i64 ((1000000 : Int)))]).bind fun r14 =>
 cond (bit (nth r14 0))
 ((go k impl_within [(.int .i64 (a3)), (.int .i64 (0 : Int)), (.int .i64 ((100 : Int)))]).bind fun r15 =>
 some [(.bool (bit (nth r15 0)))])
 (some [(.bool (false))]))
 (some [(.bool (false))]))
 (cond (decide (a0 = (7 : Int)))
 ((go k impl_within [(.int .i64 (a1)), (.int .i64 (0 : Int)), (.int .i64 ((127 : Int)))]).bind fun r16 =>
 cond (bit (nth r16 0))
 ((go k impl_within [(.int .i64 (a2)), (.int .i64 ((1 : Int))), (.int .i64 ((10000 : Int)))]).bind fun r17 =>
 cond (bit (nth r17 0))
 ((go k impl_within [(.int .i64 (a3)), (.int .i64 (0 : Int)), (.int .i64 ((1000 : Int)))]).bind fun r18 =>
 some [(.bool (bit (nth r18 0)))])
 (some [(.bool (false))]))
 (some [(.bool (false))]))
 (some [(.bool (false))]))))))))
 (cond (decide (a0 = (1 : Int)))
 (some [(.bool (false))])
 (cond (decide (a0 = (2 : Int)))
 (cond (decide (a0 = (2 : Int)))
 (some [(.bool (false))])
 (cond (decide (a0 = (4 : Int)))
 ((go k impl_BorderOk [(.agg [(.int .i64 (a1)), (.int .i64 (a2)), (.int .i64 (a3))])]).bind fun r19 =>
 some [(.bool (bit (nth r19 0)))])
 (cond (decide (a0 = (5 : Int)))
 (some [(.bool (false))])
 (cond (decide (a0 = (6 : Int)))
 ((go k impl_within [(.int .i64 (a1)), (.int .i64 (0 : Int)), (.int .i64 ((1000000 : Int)))]).bind fun r20 =>
 cond (bit (nth r20 0))
 ((go k impl_within [(.int .i64 (a2)), (.int .i64 (0 : Int)), (.int .i64 ((1000000 : Int)))]).bind fun r21 =>
 cond (bit (nth r21 0))
 ((go k impl_within [(.int .i64 (a3)), (.int .i64 (0 : Int)), (.int .i64 ((100 : Int)))]).bind fun r22 =>
 some [(.bool (bit (nth r22 0)))])
 (some [(.bool (false))]))
 (some [(.bool (false))]))
 (cond (decide (a0 = (7 : Int)))
 ((go k impl_within [(.int .i64 (a1)), (.int .i64 (0 : Int)), (.int .i64 ((127 : Int)))]).bind fun r23 =>
 cond (bit (nth r23 0))
 ((go k impl_within [(.int .i64 (a2)), (.int .i64 ((1 : Int))), (.int .i64 ((10000 : Int)))]).bind fun r24 =>
 cond (bit (nth r24 0))
 ((go k impl_within [(.int .i64 (a3)), (.int .i64 (0 : Int)), (.int .i64 ((1000 : Int)))]).bind fun r25 =>
 some [(.bool (bit (nth r25 0)))])
 (some [(.bool (false))]))
 (some [(.bool (false))]))
 (some [(.bool (false))]))))))
 (cond (decide (a0 = (3 : Int)))
 (some [(.bool (false))])
 (cond (decide (a0 = (4 : Int)))
 ((go k impl_BorderOk [(.agg [(.int .i64 (a1)), (.int .i64 (a2)), (.int .i64 (a3))])]).bind fun r26 =>
 some [(.bool (bit (nth r26 0)))])
 (cond (decide (a0 = (5 : Int)))
 (some [(.bool (false))])
 (cond (decide (a0 = (6 : Int)))
 ((go k impl_within [(.int .i64 (a1)), (.int .i64 (0 : Int)), (.int .i64 ((1000000 : Int)))]).bind fun r27 =>
 cond (bit (nth r27 0))
 ((go k impl_within [(.int .i64 (a2)), (.int .i64 (0 : Int)), (.int .i64 ((1000000 : Int)))]).bind fun r28 =>
 cond (bit (nth r28 0))
 ((go k impl_within [(.int .i64 (a3)), (.int .i64 (0 : Int)), (.int .i64 ((100 : Int)))]).bind fun r29 =>
 some [(.bool (bit (nth r29 0)))])
 (some [(.bool (false))]))
 (some [(.bool (false))]))
 (cond (decide (a0 = (7 : Int)))
 ((go k impl_within [(.int .i64 (a1)), (.int .i64 (0 : Int)), (.int .i64 ((127 : Int)))]).bind fun r30 =>
 cond (bit (nth r30 0))
 ((go k impl_within [(.int .i64 (a2)), (.int .i64 ((1 : Int))), (.int .i64 ((10000 : Int)))]).bind fun r31 =>
 cond (bit (nth r31 0))
 ((go k impl_within [(.int .i64 (a3)), (.int .i64 (0 : Int)), (.int .i64 ((1000 : Int)))]).bind fun r32 =>
 some [(.bool (bit (nth r32 0)))])
 (some [(.bool (false))]))
 (some [(.bool (false))]))
 (some [(.bool (false))])))))))) := by kernel_rfl
end Go.Proofs.YtjfjniebmdafeaaDoor
end
section
namespace Go.Proofs.YtjfjniebmdafeaaDoor
open Go.Ev
def okp : Int → List Cell → Bool
  | _, [] => true
  | p, x :: l => idOk x.1 x.2.1 x.2.2 && (decide (qkh x.1 x.2.1 x.2.2 = p) && okp (p + qk3 x.2.1) l)
def endp : Int → List Cell → Int
  | p, [] => p
  | p, x :: l => endp (p + qk3 x.2.1) l
theorem qif : ∀ (l : List Cell) (r p : Int), qie r p l = (okp p l && (inR r 1 8 && decide (endp p l = r * 16)))
  | [], r, p => rfl
  | x :: l, r, p => by
    simp only [qie, okp, endp]
    by_cases h : qkh x.1 x.2.1 x.2.2 = p
    · rw [h, qif l r]; simp only [Bool.and_assoc]; rfl
    · rw [dF h]; simp
theorem qig {l : List Cell} {r p : Int} : qie r p l = true ↔ okp p l = true ∧ (1 ≤ r ∧ r ≤ 8) ∧ endp p l = r * 16 := by
  rw [qif]; simp only [Bool.and_eq_true, qgf, decide_eq_true_eq]
theorem qi3 {x : Cell} {l : List Cell} {p : Int} : okp p (x :: l) = true ↔ idOk x.1 x.2.1 x.2.2 = true ∧ qkh x.1 x.2.1 x.2.2 = p ∧ okp (p + qk3 x.2.1) l = true := by
  simp only [okp, Bool.and_eq_true, decide_eq_true_eq]
theorem qft (x : Cell) (l : List Cell) (p : Int) : endp p (x :: l) = endp (p + qk3 x.2.1) l := rfl
theorem qi2 : ∀ (a b : List Cell) (p : Int), okp p (a ++ b) = (okp p a && okp (endp p a) b)
  | [], b, p => by simp [okp, endp]
  | x :: a, b, p => by simp only [List.cons_append, okp, endp, qi2 a b, Bool.and_assoc]
theorem qfs : ∀ (a b : List Cell) (p : Int), endp p (a ++ b) = endp (endp p a) b
  | [], b, p => by simp [endp]
  | x :: a, b, p => by simp only [List.cons_append, endp, qfs a b]
theorem qkw (l : List Cell) : ∀ n i, (qkv l n i < 0 ↔ ∀ j, i ≤ j → j < i + n → ¬ (1 < qhp l j - qhp l (j + 1) ∨ qhp l j - qhp l (j + 1) < -1)) ∧ (0 ≤ qkv l n i → ∃ j : Nat, qkv l n i = j ∧ i ≤ j ∧ j < i + n ∧ (1 < qhp l j - qhp l (j + 1) ∨ qhp l j - qhp l (j + 1) < -1))
  | 0, i => by refine ⟨⟨fun _ j h1 h2 => by omega, fun _ => by simp [qkv]⟩, fun h => by simp [qkv] at h⟩
  | n + 1, i => by
    have ih := qkw l n (i + 1)
    unfold qkv
    by_cases g : 1 < qhp l i - qhp l (i + 1) ∨ qhp l i - qhp l (i + 1) < -1
    · rw [if_pos g]
      refine ⟨⟨fun h => by omega, fun h => absurd g (h i (Nat.le_refl _) (by omega))⟩, fun _ => ⟨i, rfl, Nat.le_refl _, by omega, g⟩⟩
    · rw [if_neg g]
      refine ⟨⟨fun h j h1 h2 => ?_, fun h => ih.1.2 fun j h1 h2 => h j (by omega) (by omega)⟩, fun h => ?_⟩
      · by_cases e : j = i
        · subst e; exact g
        · exact ih.1.1 h j (by omega) (by omega)
      · obtain ⟨j, e, h1, h2, h3⟩ := ih.2 h
        exact ⟨j, e, by omega, by omega, h3⟩
theorem qkx {l : List Cell} (h : 0 ≤ unb l) : ∃ j : Nat, unb l = j ∧ j + 1 < l.length ∧ (1 < qhp l j - qhp l (j + 1) ∨ qhp l j - qhp l (j + 1) < -1) := by
  unfold unb at *
  obtain ⟨j, e, h1, h2, h3⟩ := (qkw l _ _).2 h
  exact ⟨j, e, by omega, h3⟩
end Go.Proofs.YtjfjniebmdafeaaDoor
end
section
namespace Go.Proofs.YtjfjniebmdafeaaDoor
open Go.Ev
theorem w0 : qk3 0 = 16 := by decide
theorem w1_ : qk3 1 = 8 := by decide
theorem w2_ : qk3 2 = 4 := by decide
theorem w3_ : qk3 3 = 2 := by decide
theorem w4_ : qk3 4 = 1 := by decide
theorem qgd {r l i : Int} : idOk r l i = true ↔ (0 ≤ r ∧ r ≤ 7) ∧ (0 ≤ l ∧ l ≤ 4) ∧ 0 ≤ i ∧ i < pow2 l := by
  simp only [idOk, Bool.and_eq_true, qgf, decide_eq_true_eq]
theorem qkj {r l i : Int} (h : idOk r l i = true) : qkh r l i = r * 16 + i * qk3 l := by simp [qkh, h]
abbrev ch0 (x : Cell) : Cell := (x.1, x.2.1 + 1, 2 * x.2.2)
abbrev ch1 (x : Cell) : Cell := (x.1, x.2.1 + 1, 2 * x.2.2 + 1)
theorem qdn {r l i : Int} (h : idOk r l i = true) (hl : l < 4) : idOk r (l + 1) (2 * i) = true ∧ idOk r (l + 1) (2 * i + 1) = true ∧ qkh r (l + 1) (2 * i) = qkh r l i ∧ qkh r (l + 1) (2 * i + 1) = qkh r l i + qk3 (l + 1) ∧ qk3 (l + 1) + qk3 (l + 1) = qk3 l := by
  have h' := qgd.1 h
  rcases lev (qgf.2 h'.2.1) with rfl | rfl | rfl | rfl | rfl
  · have p := h'.2.2; simp only [p20] at p
    have a : idOk r 1 (2 * i) = true := qgd.2 ⟨h'.1, by omega, by rw [p21]; omega⟩
    have b : idOk r 1 (2 * i + 1) = true := qgd.2 ⟨h'.1, by omega, by rw [p21]; omega⟩
    refine ⟨a, b, ?_, ?_, rfl⟩
    · show qkh r 1 (2 * i) = _; rw [qkj a, qkj h, w0, w1_]; omega
    · show qkh r 1 (2 * i + 1) = _ + qk3 1; rw [qkj b, qkj h, w0, w1_]; omega
  · have p := h'.2.2; simp only [p21] at p
    have a : idOk r 2 (2 * i) = true := qgd.2 ⟨h'.1, by omega, by rw [p22]; omega⟩
    have b : idOk r 2 (2 * i + 1) = true := qgd.2 ⟨h'.1, by omega, by rw [p22]; omega⟩
    refine ⟨a, b, ?_, ?_, rfl⟩
    · show qkh r 2 (2 * i) = _; rw [qkj a, qkj h, w1_, w2_]; omega
    · show qkh r 2 (2 * i + 1) = _ + qk3 2; rw [qkj b, qkj h, w1_, w2_]; omega
  · have p := h'.2.2; simp only [p22] at p
    have a : idOk r 3 (2 * i) = true := qgd.2 ⟨h'.1, by omega, by rw [p23]; omega⟩
    have b : idOk r 3 (2 * i + 1) = true := qgd.2 ⟨h'.1, by omega, by rw [p23]; omega⟩
    refine ⟨a, b, ?_, ?_, rfl⟩
    · show qkh r 3 (2 * i) = _; rw [qkj a, qkj h, w2_, w3_]; omega
    · show qkh r 3 (2 * i + 1) = _ + qk3 3; rw [qkj b, qkj h, w2_, w3_]; omega
  · have p := h'.2.2; simp only [p23] at p
    have a : idOk r 4 (2 * i) = true := qgd.2 ⟨h'.1, by omega, by rw [p24]; omega⟩
    have b : idOk r 4 (2 * i + 1) = true := qgd.2 ⟨h'.1, by omega, by rw [p24]; omega⟩
    refine ⟨a, b, ?_, ?_, rfl⟩
    · show qkh r 4 (2 * i) = _; rw [qkj a, qkj h, w3_, w4_]; omega
    · show qkh r 4 (2 * i + 1) = _ + qk3 4; rw [qkj b, qkj h, w3_, w4_]; omega
  · omega
def qke (l : List Cell) (i : Nat) : List Cell := l.take i ++ ch0 (l.getD i zz3) :: ch1 (l.getD i zz3) :: l.drop (i + 1)
theorem qkf {l : List Cell} {i : Nat} (h : i < l.length) : (qke l i).length = l.length + 1 := by
  simp only [qke, List.length_append, List.length_take, List.length_cons, List.length_drop]; omega
theorem qdx {α : Type} {l : List α} {i : Nat} (h : i < l.length) (d : α) : l = l.take i ++ l.getD i d :: l.drop (i + 1) := by
  rw [← qd5 h d, List.take_append_drop]
theorem qkg {l : List Cell} {r p : Int} {i : Nat} (h : qie r p l = true) (hi : i < l.length) (hl : (l.getD i zz3).2.1 < 4) : qie r p (qke l i) = true := by
  rw [qig] at *
  have e := qdx hi zz3
  have h1 := h
  rw [e, qi2, qfs] at h1
  unfold qke
  rw [qi2, qfs]
  simp only [qi3, qft, Bool.and_eq_true] at h1 ⊢
  have c := qdn h1.1.2.1 hl
  refine ⟨⟨h1.1.1, c.1, ?_, c.2.1, ?_, ?_⟩, h1.2.1, ?_⟩
  · rw [c.2.2.1]; exact h1.1.2.2.1
  · rw [c.2.2.2.1, h1.1.2.2.1]
  · rw [Int.add_assoc, c.2.2.2.2]; exact h1.1.2.2.2
  · rw [Int.add_assoc, c.2.2.2.2]; exact h1.2.2
def qdp (l : List Cell) (i : Nat) : Nat := if qhp l (i + 1) < qhp l i then i + 1 else i
theorem qdq {l : List Cell} {r p : Int} {i : Nat} (h : qie r p l = true) (hi : i + 1 < l.length) (hu : 1 < qhp l i - qhp l (i + 1) ∨ qhp l i - qhp l (i + 1) < -1) : qdp l i < l.length ∧ qhp l (qdp l i) < 4 := by
  have h1 := qik _ _ _ h i; have h2 := qik _ _ _ h (i + 1)
  unfold qdp
  by_cases g : qhp l (i + 1) < qhp l i
  · rw [if_pos g]; exact ⟨hi, by omega⟩
  · rw [if_neg g]; exact ⟨by omega, by omega⟩
def balN : Nat → List Cell → List Cell
  | 0, l => l
  | n + 1, l => if unb l < 0 then l else balN n (qke l (qdp l (unb l).toNat))
theorem qay : ∀ (n : Nat) (l : List Cell) (r : Int), qie r 0 l = true → 129 ≤ n + l.length → qie r 0 (balN n l) = true ∧ unb (balN n l) < 0
  | 0, l, r, h, hn => by have := qij h; omega
  | n + 1, l, r, h, hn => by
    unfold balN
    by_cases g : unb l < 0
    · rw [if_pos g]; exact ⟨h, g⟩
    · rw [if_neg g]
      obtain ⟨j, e, h1, h2⟩ := qkx (by omega : 0 ≤ unb l)
      have c := qdq h h1 h2
      rw [e, Int.toNat_natCast]
      exact qay n _ r (qkg h c.1 c.2) (by rw [qkf c.1]; omega)
def bal (l : List Cell) : List Cell := balN (129 - l.length) l
theorem qa0 {l : List Cell} {r : Int} (h : qie r 0 l = true) : qie r 0 (bal l) = true ∧ unb (bal l) < 0 := qay _ l r h (by have := qij h; omega)
end Go.Proofs.YtjfjniebmdafeaaDoor
end
section
namespace Go.Proofs.YtjfjniebmdafeaaDoor
open Go.Ev
theorem qgl : ∀ (a b : List Int), isum (a ++ b) = isum a + isum b
  | [], b => by simp [isum]
  | x :: a, b => by simp only [List.cons_append, isum, qgl a b]; omega
theorem qic : ∀ (m t : List Int), m.length = t.length → (∀ i, i < m.length → (0 ≤ m.getD i 0 ∧ m.getD i 0 ≤ 10000000) ∧ 0 ≤ t.getD i 0 ∧ t.getD i 0 ≤ 1000 * m.getD i 0) → qh9 m t = true
  | [], t, hl, h => by simp [qh9]
  | x :: m, [], hl, h => by simp at hl
  | x :: m, y :: t, hl, h => by
    have h0 := h 0 (by simp)
    simp only [List.getD_cons_zero] at h0
    have ih := qic m t (by simpa using hl) fun i hi => by simpa using h (i + 1) (by simpa using hi)
    simp only [qh9, ih, Bool.and_true, Bool.and_eq_true, qgf]
    exact h0
theorem qfp : ∀ (l : List Int), (∀ x ∈ l, 0 ≤ x) → ∀ x ∈ l, x ≤ isum l
  | [], h, x, hx => by cases hx
  | y :: l, h, x, hx => by
    have hn : 0 ≤ isum l := by
      clear hx
      induction l with
      | nil => simp [isum]
      | cons z l ih =>
        have := ih (fun w hw => h w (by simp only [List.mem_cons] at *; rcases hw with rfl | hw <;> simp_all))
        have := h z (by simp)
        simp only [isum]; omega
    have hy := h y (by simp)
    simp only [isum]
    rcases List.mem_cons.1 hx with rfl | hx
    · omega
    · have := qfp l (fun w hw => h w (by simp [hw])) x hx
      omega
section
variable {r : Int} {l : List Cell} {m t b : List Int}
end
end Go.Proofs.YtjfjniebmdafeaaDoor
end
section
namespace Go.Proofs.YtjfjniebmdafeaaDoor
open Go.Ev
abbrev S3 := List Cell × List Int × List Int
structure StU (r : Int) (s : S3) (b : List Int) : Prop where
  mesh : qie r 0 s.1 = true
  ml : s.2.1.length = s.1.length
  tl : s.2.2.length = s.1.length
  bl : (b.length : Int) = r
  mt : qh9 s.2.1 s.2.2 = true
  bed : qa1 b = true
  sum : isum s.2.1 ≤ 10000000
theorem StU.len {r : Int} {s : S3} {b : List Int} (U : StU r s b) : 1 ≤ s.1.length ∧ s.1.length ≤ 128 := qij U.mesh
theorem StU.rr {r : Int} {s : S3} {b : List Int} (U : StU r s b) : 1 ≤ r ∧ r ≤ 8 := ⟨(qii _ _ _ U.mesh).1, (qii _ _ _ U.mesh).2.1⟩
theorem StU.at {r : Int} {s : S3} {b : List Int} (U : StU r s b) (i : Nat) : 0 ≤ s.2.1.getD i 0 ∧ s.2.1.getD i 0 ≤ 10000000 ∧ 0 ≤ s.2.2.getD i 0 ∧ s.2.2.getD i 0 ≤ 1000 * s.2.1.getD i 0 := qia _ _ (by rw [U.ml, U.tl]) U.mt i
theorem StU.id {r : Int} {s : S3} {b : List Int} (U : StU r s b) {i : Nat} (h : i < s.1.length) : idOk (s.1.getD i zz3).1 (s.1.getD i zz3).2.1 (s.1.getD i zz3).2.2 = true := ((qii _ _ _ U.mesh).2.2.2.1 _ h).2.2
abbrev hA (x : Int) : Int := x - x / 2
abbrev hB (x : Int) : Int := x / 2
end Go.Proofs.YtjfjniebmdafeaaDoor
end
section
namespace Go.Proofs.YtjfjniebmdafeaaDoor
open Go.Ev
theorem qcf (k : Nat) (hk : 2000000 ≤ k) (a0 : Int) (a1z : Bool) (a1 : List (Int × Int × Int)) (h1 : (a1.length : Int) ≤ 1048576) : go (k + 1) spec_l04Copy [(.agg [(.int .i64 (a0)), (.arr false (a1z) (.r3 (a1)))])] = some [.agg [.int .i64 a0, .arr true false (.r3 a1)]] := by
  rw [qfa]
  simp (disch := omega) only [qa4, nth0, nth1, nth2, nth3, bit, qcy, qcz, qda, qdf, qdg, qdh, qdi, qdj, qdk, qdl, qc0, qc1, qc2, qc3, qc4, qc5, qc6, qc7, qc8, qc9, qdb, qdc, qdd, qde, qkt, qks, qku, qip, qjf, qjh, qgi, qa7, qkn, nI, qdu, qds, Bool.not_true, Bool.not_false, Bool.and_true, Bool.true_and, Bool.and_false, Bool.false_and, Bool.or_true, Bool.true_or, Bool.or_false, Bool.false_or, beq_self_eq_true, dTT, dFF, dT, dF, bigI, big0, qio, qk7, qk8, List.length_set, List.length_replicate, Int.toNat_natCast, qcw, qcx, imax, imin]
theorem qcn (k : Nat) (hk : 2000000 ≤ k) (a0 : Int) (a1z : Bool) (a1 : List (Int × Int × Int)) (a2z : Bool) (a2 : List Int) (a3z : Bool) (a3 : List Int) (a4z : Bool) (a4 : List Int) (h1 : (a1.length : Int) ≤ 1048576) (h2 : (a2.length : Int) ≤ 1048576) (h3 : (a3.length : Int) ≤ 1048576) (h4 : (a4.length : Int) ≤ 1048576) : go (k + 2) spec_l07Copy [(.agg [(.int .i64 (a0)), (.arr false (a1z) (.r3 (a1))), (.arr false (a2z) (.ints .i64 (a2))), (.arr false (a3z) (.ints .i64 (a3))), (.arr false (a4z) (.ints .i64 (a4)))])] = some [.agg [.int .i64 a0, .arr true false (.r3 a1), .arr true false (.ints .i64 a2), .arr true false (.ints .i64 a3), .arr true false (.ints .i64 a4)]] := by
  rw [qfi]
  simp (disch := omega) only [qa4, nth0, nth1, nth2, nth3, bit, qcy, qcz, qda, qdf, qdg, qdh, qdi, qdj, qdk, qdl, qc0, qc1, qc2, qc3, qc4, qc5, qc6, qc7, qc8, qc9, qdb, qdc, qdd, qde, qkt, qks, qku, qip, qjf, qjh, qgi, qa7, qkn, nI, qdu, qds, Bool.not_true, Bool.not_false, Bool.and_true, Bool.true_and, Bool.and_false, Bool.false_and, Bool.or_true, Bool.true_or, Bool.or_false, Bool.false_or, beq_self_eq_true, dTT, dFF, dT, dF, bigI, big0, qio, qk7, qk8, List.length_set, List.length_replicate, Int.toNat_natCast, qcw, qcx, imax, imin, qcf]
end Go.Proofs.YtjfjniebmdafeaaDoor
end
section
namespace Go.Proofs.YtjfjniebmdafeaaDoor
open Go.Ev
theorem qe7 (k : Nat) (v0 : Bool) (v1 : List Int) (v2 v3 : Int) : go (k + 1) spec_l01Byte [(.ptr true [(.arr false (v0) (.ints IntKind.u8 (v1))), (.int .i64 (v2)), (.int .i64 (v3))])] =
 cond (decide (v2 < nI (List.length v1)))
 (cond (decide ((0 : Int) ≤ v2) && decide (v2 < nI (List.length v1)))
 (some [(.int .i64 (bitN BinOp.and .i64 (IntKind.wrap .i64 (bitN BinOp.and .i64 (bitN BinOp.xor .i64 (Int.fdiv (IntKind.wrap .i64 (IntKind.wrap .i64 (v3 * (6364136223846793005 : Int)) + (1442695040888963407 : Int))) ((2 : Int) ^ shiftN .i64 (33 : Int))) (Int.fdiv (IntKind.wrap .i64 (IntKind.wrap .i64 (v3 * (6364136223846793005 : Int)) + (1442695040888963407 : Int))) ((2 : Int) ^ shiftN .i64 (45 : Int)))) (255 : Int) + IntKind.wrap .i64 (List.getD v1 (Int.toNat v2) (0 : Int)))) (255 : Int))), (.ptr true [(.arr false (v0) (.ints IntKind.u8 (v1))), (.int .i64 (IntKind.wrap .i64 (v2 + (1 : Int)))), (.int .i64 (IntKind.wrap .i64 (IntKind.wrap .i64 (v3 * (6364136223846793005 : Int)) + (1442695040888963407 : Int))))])])
 (none))
 (some [(.int .i64 (bitN BinOp.and .i64 (bitN BinOp.xor .i64 (Int.fdiv (IntKind.wrap .i64 (IntKind.wrap .i64 (v3 * (6364136223846793005 : Int)) + (1442695040888963407 : Int))) ((2 : Int) ^ shiftN .i64 (33 : Int))) (Int.fdiv (IntKind.wrap .i64 (IntKind.wrap .i64 (v3 * (6364136223846793005 : Int)) + (1442695040888963407 : Int))) ((2 : Int) ^ shiftN .i64 (45 : Int)))) (255 : Int))), (.ptr true [(.arr false (v0) (.ints IntKind.u8 (v1))), (.int .i64 (v2)), (.int .i64 (IntKind.wrap .i64 (IntKind.wrap .i64 (v3 * (6364136223846793005 : Int)) + (1442695040888963407 : Int))))])]) := by kernel_rfl
theorem qe6 (k : Nat) (v0 : Bool) (v1 : List Int) (v2 v3 v4 : Int) : go (k + 1) spec_l01Below [(.ptr true [(.arr false (v0) (.ints IntKind.u8 (v1))), (.int .i64 (v2)), (.int .i64 (v3))]), (.int .i64 (v4))] =
 cond (decide (v4 ≤ (0 : Int)))
 (some [(.int .i64 (0 : Int)), (.ptr true [(.arr false (v0) (.ints IntKind.u8 (v1))), (.int .i64 (v2)), (.int .i64 (v3))])])
 (cond (decide (v4 ≤ (256 : Int)))
 ((go k spec_l01Byte [(.ptr true [(.arr false (v0) (.ints IntKind.u8 (v1))), (.int .i64 (v2)), (.int .i64 (v3))])]).bind fun r0 =>
 cond (!decide (v4 = (0 : Int)))
 (some [(.int .i64 (Int.tmod (D.toInt (nth r0 0)) v4)), (.ptr true [(.arr false (v0) (.ints IntKind.u8 (v1))), (.int .i64 (D.toInt (D.cell 1 (nth r0 1)))), (.int .i64 (D.toInt (D.cell 2 (nth r0 1))))])])
 (none))
 ((go k spec_l01Byte [(.ptr true [(.arr false (v0) (.ints IntKind.u8 (v1))), (.int .i64 (v2)), (.int .i64 (v3))])]).bind fun r1 =>
 (go k spec_l01Byte [(.ptr true [(.arr false (v0) (.ints IntKind.u8 (v1))), (.int .i64 (D.toInt (D.cell 1 (nth r1 1)))), (.int .i64 (D.toInt (D.cell 2 (nth r1 1))))])]).bind fun r2 =>
 (go k spec_l01Byte [(.ptr true [(.arr false (v0) (.ints IntKind.u8 (v1))), (.int .i64 (D.toInt (D.cell 1 (nth r2 1)))), (.int .i64 (D.toInt (D.cell 2 (nth r2 1))))])]).bind fun r3 =>
 (go k spec_l01Byte [(.ptr true [(.arr false (v0) (.ints IntKind.u8 (v1))), (.int .i64 (D.toInt (D.cell 1 (nth r3 1)))), (.int .i64 (D.toInt (D.cell 2 (nth r3 1))))])]).bind fun r4 =>
 cond (!decide (v4 = (0 : Int)))
 (some [(.int .i64 (Int.tmod (IntKind.wrap .i64 (IntKind.wrap .i64 (IntKind.wrap .i64 (IntKind.wrap .i64 (D.toInt (nth r1 0) * (16777216 : Int)) + IntKind.wrap .i64 (D.toInt (nth r2 0) * (65536 : Int))) + IntKind.wrap .i64 (D.toInt (nth r3 0) * (256 : Int))) + D.toInt (nth r4 0))) v4)), (.ptr true [(.arr false (v0) (.ints IntKind.u8 (v1))), (.int .i64 (D.toInt (D.cell 1 (nth r4 1)))), (.int .i64 (D.toInt (D.cell 2 (nth r4 1))))])])
 (none))) := by kernel_rfl
theorem qe9 (k : Nat) (v0 : Bool) (v1 : List Int) (v2 v3 v4 : Int) : go (k + 1) spec_l01Once [(.ptr true [(.arr false (v0) (.ints IntKind.u8 (v1))), (.int .i64 (v2)), (.int .i64 (v3))]), (.int .i64 (v4))] =
 (go k spec_l01Below [(.ptr true [(.arr false (v0) (.ints IntKind.u8 (v1))), (.int .i64 (v2)), (.int .i64 (v3))]), (.int .i64 (v4))]).bind fun r0 =>
 some [(.bool (decide (D.toInt (nth r0 0) = (0 : Int)))), (.ptr true [(.arr false (v0) (.ints IntKind.u8 (v1))), (.int .i64 (D.toInt (D.cell 1 (nth r0 1)))), (.int .i64 (D.toInt (D.cell 2 (nth r0 1))))])] := by kernel_rfl
theorem qew (k : Nat) (a0 a1 a2 b : Int) : go (k + 1) spec_ChildOf [(.agg [(.int .i64 (a0)), (.int .i64 (a1)), (.int .i64 (a2))]), (.int .i64 (b))] =
 (go k spec_IdOk [(.agg [(.int .i64 (a0)), (.int .i64 (a1)), (.int .i64 (a2))])]).bind fun r0 =>
 cond (!bit (nth r0 0))
 (some [(.agg [(.int .i64 (0 : Int)), (.int .i64 (0 : Int)), (.int .i64 (0 : Int))]), (.bool (false))])
 (cond (decide (a1 = (4 : Int)))
 (some [(.agg [(.int .i64 (0 : Int)), (.int .i64 (0 : Int)), (.int .i64 (0 : Int))]), (.bool (false))])
 ((go k spec_l01In [(.int .i64 (b)), (.int .i64 (0 : Int)), (.int .i64 ((1 : Int)))]).bind fun r1 =>
 cond (!bit (nth r1 0))
 (some [(.agg [(.int .i64 (0 : Int)), (.int .i64 (0 : Int)), (.int .i64 (0 : Int))]), (.bool (false))])
 (some [(.agg [(.int .i64 (a0)), (.int .i64 (IntKind.wrap .i64 (a1 + (1 : Int)))), (.int .i64 (IntKind.wrap .i64 (IntKind.wrap .i64 ((2 : Int) * a2) + b)))]), (.bool (true))]))) := by kernel_rfl
def qj0 (x0 x1 : Int) (z2 : Bool) (l3 : List Int) (x4 x5 : Int) (z6 : Bool) (l7 : List (Int × Int × Int)) (x8 x9 x10 : Int) : St := ⟨fill 44 [(0, (.ptr 1 (0) (0))), (2, (.int .i64 (x0))), (3, (.ptr 3 (0) (0))), (5, (.ptr 4 (0) (0))), (8, (.int .i64 (x1)))], [(.ptr 1 (0) (0)), (.ptr 3 (0) (0)), (.sl 0 none)], [(.arr false (z2) (.ints IntKind.u8 (l3))), (.box true [(.sl 0 none), (.int .i64 (x4)), (.int .i64 (x5))]), (.arr true (z6) (.r3 (l7))), (.box true [(.sl 2 none)]), (.box true [(.int .i64 (x8)), (.int .i64 (x9)), (.int .i64 (x10))])]⟩
theorem qfd (k : Nat) (v0 : Bool) (v1 : List Int) (v2 v3 v4 v5 v6 v7 : Int) (v8 : Bool) (v9 : List (Int × Int × Int)) : go (k + 1) spec_l04Root [(.ptr true [(.arr false (v0) (.ints IntKind.u8 (v1))), (.int .i64 (v2)), (.int .i64 (v3))]), (.agg [(.int .i64 (v4)), (.int .i64 (v5)), (.int .i64 (v6))]), (.int .i64 (v7)), (.ptr true [(.arr true (v8) (.r3 (v9)))])] =
 cond (decide (v5 = (4 : Int)))
 (cond (decide (List.length (v9 ++ [(v4, v5, v6)]) ≤ bigLen))
 (some [(.ptr true [(.arr false (v0) (.ints IntKind.u8 (v1))), (.int .i64 (v2)), (.int .i64 (v3))]), (.ptr true [(.arr true (v8 && decide (List.length (v9 ++ [(v4, v5, v6)]) = 0)) (.r3 (v9 ++ [(v4, v5, v6)])))])])
 (none))
 ((go k spec_l01Once [(.ptr true [(.arr false (v0) (.ints IntKind.u8 (v1))), (.int .i64 (v2)), (.int .i64 (v3))]), (.int .i64 (v7))]).bind fun r0 =>
 cond (!bit (nth r0 0))
 (cond (decide (List.length (v9 ++ [(v4, v5, v6)]) ≤ bigLen))
 (some [(.ptr true [(.arr false (v0) (.ints IntKind.u8 (v1))), (.int .i64 (D.toInt (D.cell 1 (nth r0 1)))), (.int .i64 (D.toInt (D.cell 2 (nth r0 1))))]), (.ptr true [(.arr true (v8 && decide (List.length (v9 ++ [(v4, v5, v6)]) = 0)) (.r3 (v9 ++ [(v4, v5, v6)])))])])
 (none))
 (lp k spec_l04Root [(.ptr true [(.arr false (v0) (.ints IntKind.u8 (v1))), (.int .i64 (v2)), (.int .i64 (v3))]), (.ptr true [(.arr true (v8) (.r3 (v9)))])] [] 4 k (qj0 v7 (0 : Int) v0 v1 (D.toInt (D.cell 1 (nth r0 1))) (D.toInt (D.cell 2 (nth r0 1))) v8 v9 v4 v5 v6))) := by kernel_rfl
theorem qhh (k n : Nat) (fu : List (Nat × Nat)) (v0 : Bool) (v1 : List Int) (v2 v3 : Int) (v8 : Bool) (v9 : List (Int × Int × Int)) (x0 x1 : Int) (z2 : Bool) (l3 : List Int) (x4 x5 : Int) (z6 : Bool) (l7 : List (Int × Int × Int)) (x8 x9 x10 : Int) : lp k spec_l04Root [(.ptr true [(.arr false (v0) (.ints IntKind.u8 (v1))), (.int .i64 (v2)), (.int .i64 (v3))]), (.ptr true [(.arr true (v8) (.r3 (v9)))])] fu 4 (n + 1) (qj0 x0 x1 z2 l3 x4 x5 z6 l7 x8 x9 x10) =
 cond (decide (x1 < (2 : Int)))
 ((go k spec_ChildOf [(.agg [(.int .i64 (x8)), (.int .i64 (x9)), (.int .i64 (x10))]), (.int .i64 (x1))]).bind fun r0 =>
 (go k spec_l04Root [(.ptr true [(.arr false (z2) (.ints IntKind.u8 (l3))), (.int .i64 (x4)), (.int .i64 (x5))]), (.agg [(.int .i64 (D.toInt (D.cell 0 (nth r0 0)))), (.int .i64 (D.toInt (D.cell 1 (nth r0 0)))), (.int .i64 (D.toInt (D.cell 2 (nth r0 0))))]), (.int .i64 (IntKind.wrap .i64 (x0 + (1 : Int)))), (.ptr true [(.arr true (z6) (.r3 (l7)))])]).bind fun r1 =>
 lp k spec_l04Root [(.ptr true [(.arr false (v0) (.ints IntKind.u8 (v1))), (.int .i64 (v2)), (.int .i64 (v3))]), (.ptr true [(.arr true (v8) (.r3 (v9)))])] fu 4 n (qj0 x0 (IntKind.wrap .i64 (x1 + (1 : Int))) z2 l3 (D.toInt (D.cell 1 (nth r1 0))) (D.toInt (D.cell 2 (nth r1 0))) (D.nil (D.cell 0 (nth r1 1))) (D.r3 (D.cell 0 (nth r1 1))) x8 x9 x10))
 (some [(.ptr true [(.arr false (z2) (.ints IntKind.u8 (l3))), (.int .i64 (x4)), (.int .i64 (x5))]), (.ptr true [(.arr true (z6) (.r3 (l7)))])]) := by kernel_rfl
def qjz (x0 : Int) (z1 : Bool) (l2 : List Int) (x3 x4 : Int) (z5 : Bool) (l6 : List (Int × Int × Int)) (x7 : Int) (z8 : Bool) (l9 : List (Int × Int × Int)) (x10 : Int) : St := ⟨fill 24 [(0, (.ptr 1 (0) (0))), (2, (.ptr 3 (0) (0))), (3, (.ptr 5 (0) (0))), (4, (.int .i64 (x0)))], [(.ptr 1 (0) (0)), (.sl 0 none)], [(.arr false (z1) (.ints IntKind.u8 (l2))), (.box true [(.sl 0 none), (.int .i64 (x3)), (.int .i64 (x4))]), (.arr true (z5) (.r3 (l6))), (.box true [(.int .i64 (x7)), (.sl 2 none)]), (.arr true (z8) (.r3 (l9))), (.box true [(.int .i64 (x10)), (.sl 4 none)])]⟩
theorem qfc (k : Nat) (v0 : Bool) (v1 : List Int) (v2 v3 : Int) : go (k + 1) spec_l04Mesh [(.ptr true [(.arr false (v0) (.ints IntKind.u8 (v1))), (.int .i64 (v2)), (.int .i64 (v3))])] =
 (go k spec_l01Below [(.ptr true [(.arr false (v0) (.ints IntKind.u8 (v1))), (.int .i64 (v2)), (.int .i64 (v3))]), (.int .i64 ((3 : Int)))]).bind fun r0 =>
 lp k spec_l04Mesh [(.ptr true [(.arr false (v0) (.ints IntKind.u8 (v1))), (.int .i64 (v2)), (.int .i64 (v3))])] [] 3 k (qjz (0 : Int) v0 v1 (D.toInt (D.cell 1 (nth r0 1))) (D.toInt (D.cell 2 (nth r0 1))) true ([]) (0 : Int) true ([]) (IntKind.wrap .i64 ((1 : Int) + D.toInt (nth r0 0)))) := by kernel_rfl
theorem qhg (k n : Nat) (fu : List (Nat × Nat)) (v0 : Bool) (v1 : List Int) (v2 v3 x0 : Int) (z1 : Bool) (l2 : List Int) (x3 x4 : Int) (z5 : Bool) (l6 : List (Int × Int × Int)) (x7 : Int) (z8 : Bool) (l9 : List (Int × Int × Int)) (x10 : Int) : lp k spec_l04Mesh [(.ptr true [(.arr false (v0) (.ints IntKind.u8 (v1))), (.int .i64 (v2)), (.int .i64 (v3))])] fu 3 (n + 1) (qjz x0 z1 l2 x3 x4 z5 l6 x7 z8 l9 x10) =
 cond (decide (x0 < x10))
 ((go k spec_l01Below [(.ptr true [(.arr false (z1) (.ints IntKind.u8 (l2))), (.int .i64 (x3)), (.int .i64 (x4))]), (.int .i64 ((2 : Int)))]).bind fun r0 =>
 (go k spec_l04Root [(.ptr true [(.arr false (z1) (.ints IntKind.u8 (l2))), (.int .i64 (D.toInt (D.cell 1 (nth r0 1)))), (.int .i64 (D.toInt (D.cell 2 (nth r0 1))))]), (.agg [(.int .i64 (x0)), (.int .i64 (0 : Int)), (.int .i64 (0 : Int))]), (.int .i64 (IntKind.wrap .i64 ((1 : Int) + D.toInt (nth r0 0)))), (.ptr true [(.arr true (z8) (.r3 (l9)))])]).bind fun r1 =>
 lp k spec_l04Mesh [(.ptr true [(.arr false (v0) (.ints IntKind.u8 (v1))), (.int .i64 (v2)), (.int .i64 (v3))])] fu 3 n (qjz (IntKind.wrap .i64 (x0 + (1 : Int))) z1 l2 (D.toInt (D.cell 1 (nth r1 0))) (D.toInt (D.cell 2 (nth r1 0))) z5 l6 x7 (D.nil (D.cell 0 (nth r1 1))) (D.r3 (D.cell 0 (nth r1 1))) x10))
 (some [(.agg [(.int .i64 (x10)), (.arr true (z8) (.r3 (l9)))]), (.ptr true [(.arr false (z1) (.ints IntKind.u8 (l2))), (.int .i64 (x3)), (.int .i64 (x4))])]) := by kernel_rfl
def qju (x0 : Int) (z1 : Bool) (l2 : List (Int × Int × Int)) (x3 : Int) (z4 : Bool) (l5 : List (Int × Int × Int)) (x6 : Int) : St := ⟨fill 23 [(2, (.ptr 1 (0) (0))), (3, (.ptr 3 (0) (0))), (4, (.int .i64 (x0)))], [], [(.arr true (z1) (.r3 (l2))), (.box true [(.int .i64 (x3)), (.sl 0 none)]), (.arr true (z4) (.r3 (l5))), (.box true [(.int .i64 (x6)), (.sl 2 none)])]⟩
theorem qeu (k : Nat) (a0 : Int) (a1z : Bool) (a1 : List (Int × Int × Int)) : go (k + 1) spec_Balance [(.agg [(.int .i64 (a0)), (.arr false (a1z) (.r3 (a1)))])] =
 (go k spec_l04Copy [(.agg [(.int .i64 (a0)), (.arr false (a1z) (.r3 (a1)))])]).bind fun r0 =>
 (go k spec_MeshOk [(.agg [(.int .i64 (a0)), (.arr false (a1z) (.r3 (a1)))])]).bind fun r1 =>
 cond (!bit (nth r1 0))
 (some [(.agg [(.int .i64 (D.toInt (D.cell 0 (nth r0 0)))), (.arr true (D.nil (D.cell 1 (nth r0 0))) (.r3 (D.r3 (D.cell 1 (nth r0 0)))))])])
 ((go k spec_l05First [(.agg [(.int .i64 (D.toInt (D.cell 0 (nth r0 0)))), (.arr false (D.nil (D.cell 1 (nth r0 0))) (.r3 (D.r3 (D.cell 1 (nth r0 0)))))])]).bind fun r2 =>
 lp k spec_Balance [] [] 5 k (qju (D.toInt (nth r2 0)) true ([]) (0 : Int) (D.nil (D.cell 1 (nth r0 0))) (D.r3 (D.cell 1 (nth r0 0))) (D.toInt (D.cell 0 (nth r0 0))))) := by kernel_rfl
theorem qhb (k n : Nat) (fu : List (Nat × Nat)) (x0 : Int) (z1 : Bool) (l2 : List (Int × Int × Int)) (x3 : Int) (z4 : Bool) (l5 : List (Int × Int × Int)) (x6 : Int) : lp k spec_Balance [] fu 5 (n + 1) (qju x0 z1 l2 x3 z4 l5 x6) =
 cond (decide ((0 : Int) ≤ x0))
 ((go k spec_l05Coarser [(.agg [(.int .i64 (x6)), (.arr false (z4) (.r3 (l5)))]), (.int .i64 (x0))]).bind fun r0 =>
 (go k spec_l05Split [(.agg [(.int .i64 (x6)), (.arr false (z4) (.r3 (l5)))]), (.int .i64 (D.toInt (nth r0 0)))]).bind fun r1 =>
 (go k spec_l05First [(.agg [(.int .i64 (D.toInt (D.cell 0 (nth r1 0)))), (.arr false (D.nil (D.cell 1 (nth r1 0))) (.r3 (D.r3 (D.cell 1 (nth r1 0)))))])]).bind fun r2 =>
 lp k spec_Balance [] fu 5 n (qju (D.toInt (nth r2 0)) z1 l2 x3 (D.nil (D.cell 1 (nth r1 0))) (D.r3 (D.cell 1 (nth r1 0))) (D.toInt (D.cell 0 (nth r1 0)))))
 (some [(.agg [(.int .i64 (x6)), (.arr true (z4) (.r3 (l5)))])]) := by kernel_rfl
theorem qfe (k : Nat) (a0 : Int) (a1z : Bool) (a1 : List (Int × Int × Int)) (b : Int) : go (k + 1) spec_l05Coarser [(.agg [(.int .i64 (a0)), (.arr false (a1z) (.r3 (a1)))]), (.int .i64 (b))] =
 cond (decide ((0 : Int) ≤ b) && decide (b < nI (List.length a1)))
 (cond (decide ((0 : Int) ≤ IntKind.wrap .i64 (b + (1 : Int))) && decide (IntKind.wrap .i64 (b + (1 : Int)) < nI (List.length a1)))
 (cond (decide (Prod.fst (Prod.snd (List.getD a1 (Int.toNat (IntKind.wrap .i64 (b + (1 : Int)))) zz3)) < Prod.fst (Prod.snd (List.getD a1 (Int.toNat b) zz3))))
 (some [(.int .i64 (IntKind.wrap .i64 (b + (1 : Int))))])
 (some [(.int .i64 (b))]))
 (none))
 (none) := by kernel_rfl
theorem qfh (k : Nat) (a0 : Int) (a1z : Bool) (a1 : List (Int × Int × Int)) (b : Int) : go (k + 1) spec_l05Split [(.agg [(.int .i64 (a0)), (.arr false (a1z) (.r3 (a1)))]), (.int .i64 (b))] =
 cond (decide ((0 : Int) ≤ b) && decide (b < nI (List.length a1)))
 ((go k spec_ChildOf [(.agg [(.int .i64 (Prod.fst (List.getD a1 (Int.toNat b) zz3))), (.int .i64 (Prod.fst (Prod.snd (List.getD a1 (Int.toNat b) zz3)))), (.int .i64 (Prod.snd (Prod.snd (List.getD a1 (Int.toNat b) zz3))))]), (.int .i64 (0 : Int))]).bind fun r0 =>
 cond (decide ((0 : Int) ≤ b) && decide (b < nI (List.length a1)))
 ((go k spec_ChildOf [(.agg [(.int .i64 (Prod.fst (List.getD a1 (Int.toNat b) zz3))), (.int .i64 (Prod.fst (Prod.snd (List.getD a1 (Int.toNat b) zz3)))), (.int .i64 (Prod.snd (Prod.snd (List.getD a1 (Int.toNat b) zz3))))]), (.int .i64 ((1 : Int)))]).bind fun r1 =>
 cond (decide ((0 : Int) ≤ (0 : Int)) && decide ((0 : Int) ≤ b) && decide (b ≤ nI (List.length a1)))
 (cond (decide (List.length ([] ++ List.take (Int.toNat b - Int.toNat (0 : Int)) (List.drop (0 + Int.toNat (0 : Int)) a1)) ≤ bigLen))
 (cond (decide (List.length ([] ++ List.take (Int.toNat b - Int.toNat (0 : Int)) (List.drop (0 + Int.toNat (0 : Int)) a1) ++ [(D.toInt (D.cell 0 (nth r0 0)), D.toInt (D.cell 1 (nth r0 0)), D.toInt (D.cell 2 (nth r0 0))), (D.toInt (D.cell 0 (nth r1 0)), D.toInt (D.cell 1 (nth r1 0)), D.toInt (D.cell 2 (nth r1 0)))]) ≤ bigLen))
 (cond (decide ((0 : Int) ≤ IntKind.wrap .i64 (b + (1 : Int))) && decide (IntKind.wrap .i64 (b + (1 : Int)) ≤ nI (List.length a1)) && decide (nI (List.length a1) ≤ nI (List.length a1)))
 (cond (decide (List.length ([] ++ List.take (Int.toNat b - Int.toNat (0 : Int)) (List.drop (0 + Int.toNat (0 : Int)) a1) ++ [(D.toInt (D.cell 0 (nth r0 0)), D.toInt (D.cell 1 (nth r0 0)), D.toInt (D.cell 2 (nth r0 0))), (D.toInt (D.cell 0 (nth r1 0)), D.toInt (D.cell 1 (nth r1 0)), D.toInt (D.cell 2 (nth r1 0)))] ++ List.take (Int.toNat (nI (List.length a1)) - Int.toNat (IntKind.wrap .i64 (b + (1 : Int)))) (List.drop (0 + Int.toNat (IntKind.wrap .i64 (b + (1 : Int)))) a1)) ≤ bigLen))
 (some [(.agg [(.int .i64 (a0)), (.arr true (false && decide (List.length ([] ++ List.take (Int.toNat b - Int.toNat (0 : Int)) (List.drop (0 + Int.toNat (0 : Int)) a1)) = 0) && decide (List.length ([] ++ List.take (Int.toNat b - Int.toNat (0 : Int)) (List.drop (0 + Int.toNat (0 : Int)) a1) ++ [(D.toInt (D.cell 0 (nth r0 0)), D.toInt (D.cell 1 (nth r0 0)), D.toInt (D.cell 2 (nth r0 0))), (D.toInt (D.cell 0 (nth r1 0)), D.toInt (D.cell 1 (nth r1 0)), D.toInt (D.cell 2 (nth r1 0)))]) = 0) && decide (List.length ([] ++ List.take (Int.toNat b - Int.toNat (0 : Int)) (List.drop (0 + Int.toNat (0 : Int)) a1) ++ [(D.toInt (D.cell 0 (nth r0 0)), D.toInt (D.cell 1 (nth r0 0)), D.toInt (D.cell 2 (nth r0 0))), (D.toInt (D.cell 0 (nth r1 0)), D.toInt (D.cell 1 (nth r1 0)), D.toInt (D.cell 2 (nth r1 0)))] ++ List.take (Int.toNat (nI (List.length a1)) - Int.toNat (IntKind.wrap .i64 (b + (1 : Int)))) (List.drop (0 + Int.toNat (IntKind.wrap .i64 (b + (1 : Int)))) a1)) = 0)) (.r3 ([] ++ List.take (Int.toNat b - Int.toNat (0 : Int)) (List.drop (0 + Int.toNat (0 : Int)) a1) ++ [(D.toInt (D.cell 0 (nth r0 0)), D.toInt (D.cell 1 (nth r0 0)), D.toInt (D.cell 2 (nth r0 0))), (D.toInt (D.cell 0 (nth r1 0)), D.toInt (D.cell 1 (nth r1 0)), D.toInt (D.cell 2 (nth r1 0)))] ++ List.take (Int.toNat (nI (List.length a1)) - Int.toNat (IntKind.wrap .i64 (b + (1 : Int)))) (List.drop (0 + Int.toNat (IntKind.wrap .i64 (b + (1 : Int)))) a1))))])])
 (none))
 (none))
 (none))
 (none))
 (none))
 (none))
 (none) := by kernel_rfl
theorem qfg (k : Nat) (v0 : Bool) (v1 : List Int) (v2 v3 : Int) : go (k + 1) spec_l05Mesh [(.ptr true [(.arr false (v0) (.ints IntKind.u8 (v1))), (.int .i64 (v2)), (.int .i64 (v3))])] =
 (go k spec_l04Mesh [(.ptr true [(.arr false (v0) (.ints IntKind.u8 (v1))), (.int .i64 (v2)), (.int .i64 (v3))])]).bind fun r0 =>
 (go k spec_Balance [(.agg [(.int .i64 (D.toInt (D.cell 0 (nth r0 0)))), (.arr false (D.nil (D.cell 1 (nth r0 0))) (.r3 (D.r3 (D.cell 1 (nth r0 0)))))])]).bind fun r1 =>
 some [(.agg [(.int .i64 (D.toInt (D.cell 0 (nth r1 0)))), (.arr true (D.nil (D.cell 1 (nth r1 0))) (.r3 (D.r3 (D.cell 1 (nth r1 0)))))]), (.ptr true [(.arr false (v0) (.ints IntKind.u8 (v1))), (.int .i64 (D.toInt (D.cell 1 (nth r0 1)))), (.int .i64 (D.toInt (D.cell 2 (nth r0 1))))])] := by kernel_rfl
def qj2 (x0 : Int) (z1 : Bool) (l2 : List Int) (x3 x4 : Int) (z5 : Bool) (l6 : List (Int × Int × Int)) (z7 : Bool) (l8 : List Int) (z9 : Bool) (l10 : List Int) (z11 : Bool) (l12 : List Int) (x13 : Int) (z14 : Bool) (l15 : List (Int × Int × Int)) (x16 : Int) (z17 : Bool) (l18 : List Int) (z19 : Bool) (l20 : List Int) (z21 : Bool) (l22 : List Int) (x23 : Int) : St := ⟨fill 67 [(0, (.ptr 1 (0) (0))), (2, (.ptr 6 (0) (0))), (3, (.ptr 8 (0) (0))), (4, (.ptr 12 (0) (0))), (5, (.int .i64 (x0)))], [(.ptr 1 (0) (0)), (.sl 0 none)], [(.arr false (z1) (.ints IntKind.u8 (l2))), (.box true [(.sl 0 none), (.int .i64 (x3)), (.int .i64 (x4))]), (.arr true (z5) (.r3 (l6))), (.arr true (z7) (.ints .i64 (l8))), (.arr true (z9) (.ints .i64 (l10))), (.arr true (z11) (.ints .i64 (l12))), (.box true [(.int .i64 (x13)), (.sl 2 none), (.sl 3 none), (.sl 4 none), (.sl 5 none)]), (.arr true (z14) (.r3 (l15))), (.box true [(.int .i64 (x16)), (.sl 7 none)]), (.arr true (z17) (.ints .i64 (l18))), (.arr true (z19) (.ints .i64 (l20))), (.arr true (z21) (.ints .i64 (l22))), (.box true [(.int .i64 (x23)), (.sl 7 none), (.sl 9 none), (.sl 10 none), (.sl 11 none)])]⟩
def qj3 (x0 x1 : Int) (z2 : Bool) (l3 : List Int) (x4 x5 : Int) (z6 : Bool) (l7 : List (Int × Int × Int)) (z8 : Bool) (l9 : List Int) (z10 : Bool) (l11 : List Int) (z12 : Bool) (l13 : List Int) (x14 : Int) (z15 : Bool) (l16 : List (Int × Int × Int)) (x17 : Int) (z18 : Bool) (l19 : List Int) (z20 : Bool) (l21 : List Int) (z22 : Bool) (l23 : List Int) (x24 : Int) : St := ⟨fill 67 [(0, (.ptr 1 (0) (0))), (2, (.ptr 6 (0) (0))), (3, (.ptr 8 (0) (0))), (4, (.ptr 12 (0) (0))), (6, (.int .i64 (x0))), (7, (.int .i64 (x1)))], [(.ptr 1 (0) (0)), (.sl 0 none)], [(.arr false (z2) (.ints IntKind.u8 (l3))), (.box true [(.sl 0 none), (.int .i64 (x4)), (.int .i64 (x5))]), (.arr true (z6) (.r3 (l7))), (.arr true (z8) (.ints .i64 (l9))), (.arr true (z10) (.ints .i64 (l11))), (.arr true (z12) (.ints .i64 (l13))), (.box true [(.int .i64 (x14)), (.sl 2 none), (.sl 3 none), (.sl 4 none), (.sl 5 none)]), (.arr true (z15) (.r3 (l16))), (.box true [(.int .i64 (x17)), (.sl 7 none)]), (.arr true (z18) (.ints .i64 (l19))), (.arr true (z20) (.ints .i64 (l21))), (.arr true (z22) (.ints .i64 (l23))), (.box true [(.int .i64 (x24)), (.sl 7 none), (.sl 9 none), (.sl 10 none), (.sl 11 none)])]⟩
theorem qfj (k : Nat) (v0 : Bool) (v1 : List Int) (v2 v3 : Int) : go (k + 1) spec_l07State [(.ptr true [(.arr false (v0) (.ints IntKind.u8 (v1))), (.int .i64 (v2)), (.int .i64 (v3))])] =
 (go k spec_l05Mesh [(.ptr true [(.arr false (v0) (.ints IntKind.u8 (v1))), (.int .i64 (v2)), (.int .i64 (v3))])]).bind fun r0 =>
 lp k spec_l07State [(.ptr true [(.arr false (v0) (.ints IntKind.u8 (v1))), (.int .i64 (v2)), (.int .i64 (v3))])] [] 4 k (qj2 (0 : Int) v0 v1 (D.toInt (D.cell 1 (nth r0 1))) (D.toInt (D.cell 2 (nth r0 1))) true ([]) true ([]) true ([]) true ([]) (0 : Int) (D.nil (D.cell 1 (nth r0 0))) (D.r3 (D.cell 1 (nth r0 0))) (D.toInt (D.cell 0 (nth r0 0))) true ([]) true ([]) true ([]) (D.toInt (D.cell 0 (nth r0 0)))) := by kernel_rfl
theorem qhj (k n : Nat) (fu : List (Nat × Nat)) (v0 : Bool) (v1 : List Int) (v2 v3 x0 : Int) (z1 : Bool) (l2 : List Int) (x3 x4 : Int) (z5 : Bool) (l6 : List (Int × Int × Int)) (z7 : Bool) (l8 : List Int) (z9 : Bool) (l10 : List Int) (z11 : Bool) (l12 : List Int) (x13 : Int) (z14 : Bool) (l15 : List (Int × Int × Int)) (x16 : Int) (z17 : Bool) (l18 : List Int) (z19 : Bool) (l20 : List Int) (z21 : Bool) (l22 : List Int) (x23 : Int) : lp k spec_l07State [(.ptr true [(.arr false (v0) (.ints IntKind.u8 (v1))), (.int .i64 (v2)), (.int .i64 (v3))])] fu 4 (n + 1) (qj2 x0 z1 l2 x3 x4 z5 l6 z7 l8 z9 l10 z11 l12 x13 z14 l15 x16 z17 l18 z19 l20 z21 l22 x23) =
 cond (decide (x0 < x16))
 ((go k spec_l01Below [(.ptr true [(.arr false (z1) (.ints IntKind.u8 (l2))), (.int .i64 (x3)), (.int .i64 (x4))]), (.int .i64 ((4 : Int)))]).bind fun r0 =>
 (go k spec_l01Below [(.ptr true [(.arr false (z1) (.ints IntKind.u8 (l2))), (.int .i64 (D.toInt (D.cell 1 (nth r0 1)))), (.int .i64 (D.toInt (D.cell 2 (nth r0 1))))]), (.int .i64 ((5000 : Int)))]).bind fun r1 =>
 cond (decide (List.length (l22 ++ [IntKind.wrap .i64 (D.toInt (nth r0 0) * D.toInt (nth r1 0))]) ≤ bigLen))
 (lp k spec_l07State [(.ptr true [(.arr false (v0) (.ints IntKind.u8 (v1))), (.int .i64 (v2)), (.int .i64 (v3))])] fu 4 n (qj2 (IntKind.wrap .i64 (x0 + (1 : Int))) z1 l2 (D.toInt (D.cell 1 (nth r1 1))) (D.toInt (D.cell 2 (nth r1 1))) z5 l6 z7 l8 z9 l10 z11 l12 x13 z14 l15 x16 z17 l18 z19 l20 (z21 && decide (List.length (l22 ++ [IntKind.wrap .i64 (D.toInt (nth r0 0) * D.toInt (nth r1 0))]) = 0)) (l22 ++ [IntKind.wrap .i64 (D.toInt (nth r0 0) * D.toInt (nth r1 0))]) x23))
 (none))
 ((go k spec_l01Below [(.ptr true [(.arr false (z1) (.ints IntKind.u8 (l2))), (.int .i64 (x3)), (.int .i64 (x4))]), (.int .i64 ((20000 : Int)))]).bind fun r2 =>
 lp k spec_l07State [(.ptr true [(.arr false (v0) (.ints IntKind.u8 (v1))), (.int .i64 (v2)), (.int .i64 (v3))])] fu 9 k (qj3 (IntKind.wrap .i64 ((1 : Int) + D.toInt (nth r2 0))) (0 : Int) z1 l2 (D.toInt (D.cell 1 (nth r2 1))) (D.toInt (D.cell 2 (nth r2 1))) z5 l6 z7 l8 z9 l10 z11 l12 x13 z14 l15 x16 z17 l18 z19 l20 z21 l22 x23)) := by kernel_rfl
theorem qhk (k n : Nat) (fu : List (Nat × Nat)) (v0 : Bool) (v1 : List Int) (v2 v3 x0 x1 : Int) (z2 : Bool) (l3 : List Int) (x4 x5 : Int) (z6 : Bool) (l7 : List (Int × Int × Int)) (z8 : Bool) (l9 : List Int) (z10 : Bool) (l11 : List Int) (z12 : Bool) (l13 : List Int) (x14 : Int) (z15 : Bool) (l16 : List (Int × Int × Int)) (x17 : Int) (z18 : Bool) (l19 : List Int) (z20 : Bool) (l21 : List Int) (z22 : Bool) (l23 : List Int) (x24 : Int) : lp k spec_l07State [(.ptr true [(.arr false (v0) (.ints IntKind.u8 (v1))), (.int .i64 (v2)), (.int .i64 (v3))])] fu 9 (n + 1) (qj3 x0 x1 z2 l3 x4 x5 z6 l7 z8 l9 z10 l11 z12 l13 x14 z15 l16 x17 z18 l19 z20 l21 z22 l23 x24) =
 cond (decide (x1 < nI (List.length l16)))
 ((go k spec_l01Below [(.ptr true [(.arr false (z2) (.ints IntKind.u8 (l3))), (.int .i64 (x4)), (.int .i64 (x5))]), (.int .i64 (x0))]).bind fun r0 =>
 (go k spec_l01Once [(.ptr true [(.arr false (z2) (.ints IntKind.u8 (l3))), (.int .i64 (D.toInt (D.cell 1 (nth r0 1)))), (.int .i64 (D.toInt (D.cell 2 (nth r0 1))))]), (.int .i64 ((6 : Int)))]).bind fun r1 =>
 cond (bit (nth r1 0))
 ((go k spec_l01Below [(.ptr true [(.arr false (z2) (.ints IntKind.u8 (l3))), (.int .i64 (D.toInt (D.cell 1 (nth r1 1)))), (.int .i64 (D.toInt (D.cell 2 (nth r1 1))))]), (.int .i64 ((3 : Int)))]).bind fun r2 =>
 cond (decide (List.length (l19 ++ [D.toInt (nth r2 0)]) ≤ bigLen))
 ((go k spec_l01Below [(.ptr true [(.arr false (z2) (.ints IntKind.u8 (l3))), (.int .i64 (D.toInt (D.cell 1 (nth r2 1)))), (.int .i64 (D.toInt (D.cell 2 (nth r2 1))))]), (.int .i64 ((200 : Int)))]).bind fun r3 =>
 (go k spec_l01Below [(.ptr true [(.arr false (z2) (.ints IntKind.u8 (l3))), (.int .i64 (D.toInt (D.cell 1 (nth r3 1)))), (.int .i64 (D.toInt (D.cell 2 (nth r3 1))))]), (.int .i64 (IntKind.wrap .i64 (D.toInt (nth r2 0) + (1 : Int))))]).bind fun r4 =>
 cond (decide (List.length (l21 ++ [IntKind.wrap .i64 (IntKind.wrap .i64 (D.toInt (nth r2 0) * D.toInt (nth r3 0)) + D.toInt (nth r4 0))]) ≤ bigLen))
 (lp k spec_l07State [(.ptr true [(.arr false (v0) (.ints IntKind.u8 (v1))), (.int .i64 (v2)), (.int .i64 (v3))])] fu 9 n (qj3 x0 (IntKind.wrap .i64 (x1 + (1 : Int))) z2 l3 (D.toInt (D.cell 1 (nth r4 1))) (D.toInt (D.cell 2 (nth r4 1))) z6 l7 z8 l9 z10 l11 z12 l13 x14 z15 l16 x17 (z18 && decide (List.length (l19 ++ [D.toInt (nth r2 0)]) = 0)) (l19 ++ [D.toInt (nth r2 0)]) (z20 && decide (List.length (l21 ++ [IntKind.wrap .i64 (IntKind.wrap .i64 (D.toInt (nth r2 0) * D.toInt (nth r3 0)) + D.toInt (nth r4 0))]) = 0)) (l21 ++ [IntKind.wrap .i64 (IntKind.wrap .i64 (D.toInt (nth r2 0) * D.toInt (nth r3 0)) + D.toInt (nth r4 0))]) z22 l23 x24))
 (none))
 (none))
 (cond (decide (List.length (l19 ++ [D.toInt (nth r0 0)]) ≤ bigLen))
 ((go k spec_l01Below [(.ptr true [(.arr false (z2) (.ints IntKind.u8 (l3))), (.int .i64 (D.toInt (D.cell 1 (nth r1 1)))), (.int .i64 (D.toInt (D.cell 2 (nth r1 1))))]), (.int .i64 ((200 : Int)))]).bind fun r5 =>
 (go k spec_l01Below [(.ptr true [(.arr false (z2) (.ints IntKind.u8 (l3))), (.int .i64 (D.toInt (D.cell 1 (nth r5 1)))), (.int .i64 (D.toInt (D.cell 2 (nth r5 1))))]), (.int .i64 (IntKind.wrap .i64 (D.toInt (nth r0 0) + (1 : Int))))]).bind fun r6 =>
 cond (decide (List.length (l21 ++ [IntKind.wrap .i64 (IntKind.wrap .i64 (D.toInt (nth r0 0) * D.toInt (nth r5 0)) + D.toInt (nth r6 0))]) ≤ bigLen))
 (lp k spec_l07State [(.ptr true [(.arr false (v0) (.ints IntKind.u8 (v1))), (.int .i64 (v2)), (.int .i64 (v3))])] fu 9 n (qj3 x0 (IntKind.wrap .i64 (x1 + (1 : Int))) z2 l3 (D.toInt (D.cell 1 (nth r6 1))) (D.toInt (D.cell 2 (nth r6 1))) z6 l7 z8 l9 z10 l11 z12 l13 x14 z15 l16 x17 (z18 && decide (List.length (l19 ++ [D.toInt (nth r0 0)]) = 0)) (l19 ++ [D.toInt (nth r0 0)]) (z20 && decide (List.length (l21 ++ [IntKind.wrap .i64 (IntKind.wrap .i64 (D.toInt (nth r0 0) * D.toInt (nth r5 0)) + D.toInt (nth r6 0))]) = 0)) (l21 ++ [IntKind.wrap .i64 (IntKind.wrap .i64 (D.toInt (nth r0 0) * D.toInt (nth r5 0)) + D.toInt (nth r6 0))]) z22 l23 x24))
 (none))
 (none)))
 (some [(.agg [(.int .i64 (x24)), (.arr true (z15) (.r3 (l16))), (.arr true (z18) (.ints .i64 (l19))), (.arr true (z20) (.ints .i64 (l21))), (.arr true (z22) (.ints .i64 (l23)))]), (.ptr true [(.arr false (z2) (.ints IntKind.u8 (l3))), (.int .i64 (x4)), (.int .i64 (x5))])]) := by kernel_rfl

end Go.Proofs.YtjfjniebmdafeaaDoor
end
section
namespace Go.Proofs.YtjfjniebmdafeaaDoor
open Go.Ev
set_option maxRecDepth 20000
theorem qjc (o : Bool) (d0 : D) (l : List D) : (D.ptr o (d0 :: l)).cell 0 = d0 := Eq.trans rfl rfl
theorem qjd (o : Bool) (d0 d1 : D) (l : List D) : (D.ptr o (d0 :: d1 :: l)).cell 1 = d1 := Eq.trans rfl rfl
theorem qje (o : Bool) (d0 d1 d2 : D) (l : List D) : (D.ptr o (d0 :: d1 :: d2 :: l)).cell 2 = d2 := Eq.trans rfl rfl
theorem qa5 (x : Int) : 0 ≤ bitN .and .i64 x 255 ∧ bitN .and .i64 x 255 ≤ 255 := by
  have h : (BitVec.ofInt IntKind.i64.bits x &&& BitVec.ofInt IntKind.i64.bits 255).toNat ≤ 255 := by
    rw [BitVec.toNat_and]; exact Nat.le_trans Nat.and_le_right (by decide)
  show 0 ≤ IntKind.wrap .i64 _ ∧ IntKind.wrap .i64 _ ≤ 255
  rw [qk7 (by omega) (by omega)]; omega
theorem qcc (k : Nat) (hk : 2000000 ≤ k) (z : Bool) (l : List Int) (i h : Int) (hl : (l.length : Int) ≤ 1048576) (h0 : 0 ≤ i) (h1 : i ≤ l.length) : ∃ v i' h' : Int, go (k + 1) spec_l01Byte [.ptr true [.arr false (z) (.ints .u8 (l)), .int .i64 (i), .int .i64 (h)]] = some [.int .i64 v, .ptr true [.arr false (z) (.ints .u8 (l)), .int .i64 (i'), .int .i64 (h')]] ∧ (0 ≤ v ∧ v ≤ 255) ∧ 0 ≤ i' ∧ i' ≤ l.length := by
  have e := qe7 (k + 0) z l i h
  by_cases g : i < l.length
  · simp (disch := omega) only [qa4, nth0, nth1, nth2, nth3, bit, qcy, qcz, qda, qdf, qdg, qdh, qdi, qdj, qdk, qdl, qc0, qc1, qc2, qc3, qc4, qc5, qc6, qc7, qc8, qc9, qdb, qdc, qdd, qde, qkt, qks, qku, qip, qjf, qjh, qgi, qa7, qkn, nI, qdu, qds, Bool.not_true, Bool.not_false, Bool.and_true, Bool.true_and, Bool.and_false, Bool.false_and, Bool.or_true, Bool.true_or, Bool.or_false, Bool.false_or, beq_self_eq_true, dTT, dFF, dT, dF, bigI, big0, qio, qk7, qk8, List.length_set, List.length_replicate, Int.toNat_natCast, qcw, qcx, imax, imin] at e; exact ⟨_, _, _, e, qa5 _, by omega, by omega⟩
  · simp (disch := omega) only [qa4, nth0, nth1, nth2, nth3, bit, qcy, qcz, qda, qdf, qdg, qdh, qdi, qdj, qdk, qdl, qc0, qc1, qc2, qc3, qc4, qc5, qc6, qc7, qc8, qc9, qdb, qdc, qdd, qde, qkt, qks, qku, qip, qjf, qjh, qgi, qa7, qkn, nI, qdu, qds, Bool.not_true, Bool.not_false, Bool.and_true, Bool.true_and, Bool.and_false, Bool.false_and, Bool.or_true, Bool.true_or, Bool.or_false, Bool.false_or, beq_self_eq_true, dTT, dFF, dT, dF, bigI, big0, qio, qk7, qk8, List.length_set, List.length_replicate, Int.toNat_natCast, qcw, qcx, imax, imin] at e; exact ⟨_, _, _, e, qa5 _, by omega, by omega⟩
theorem qkr {v b : Int} (h : 0 ≤ v) (hb : 1 ≤ b) : 0 ≤ Int.tmod v b ∧ Int.tmod v b < b := ⟨Int.tmod_nonneg b h, Int.tmod_lt_of_pos v (by omega)⟩
theorem qcb (k : Nat) (hk : 2000000 ≤ k) (z : Bool) (l : List Int) (i h b : Int) (hl : (l.length : Int) ≤ 1048576) (h0 : 0 ≤ i) (h1 : i ≤ l.length) (hb : 1 ≤ b) (hb' : b ≤ 1000000) : ∃ v i' h' : Int, go (k + 2) spec_l01Below [.ptr true [.arr false (z) (.ints .u8 (l)), .int .i64 (i), .int .i64 (h)], .int .i64 b] = some [.int .i64 v, .ptr true [.arr false (z) (.ints .u8 (l)), .int .i64 (i'), .int .i64 (h')]] ∧ (0 ≤ v ∧ v < b) ∧ 0 ≤ i' ∧ i' ≤ l.length := by
  have e := qe6 (k + 1) z l i h b
  obtain ⟨v1, i1, k1, e1, b1, q1, r1⟩ := qcc k (by omega) z l i h hl h0 h1
  by_cases g : b ≤ 256
  · simp (disch := omega) only [qa4, nth0, nth1, nth2, nth3, bit, qcy, qcz, qda, qdf, qdg, qdh, qdi, qdj, qdk, qdl, qc0, qc1, qc2, qc3, qc4, qc5, qc6, qc7, qc8, qc9, qdb, qdc, qdd, qde, qkt, qks, qku, qip, qjf, qjh, qgi, qa7, qkn, nI, qdu, qds, Bool.not_true, Bool.not_false, Bool.and_true, Bool.true_and, Bool.and_false, Bool.false_and, Bool.or_true, Bool.true_or, Bool.or_false, Bool.false_or, beq_self_eq_true, dTT, dFF, dT, dF, bigI, big0, qio, qk7, qk8, List.length_set, List.length_replicate, Int.toNat_natCast, qcw, qcx, imax, imin, e1, qjd, qje] at e
    exact ⟨_, _, _, e, qkr b1.1 hb, q1, r1⟩
  · obtain ⟨v2, i2, k2, e2, b2, q2, r2⟩ := qcc k (by omega) z l i1 k1 hl q1 r1
    obtain ⟨v3, i3, k3, e3, b3, q3, r3⟩ := qcc k (by omega) z l i2 k2 hl q2 r2
    obtain ⟨v4, i4, k4, e4, b4, q4, r4⟩ := qcc k (by omega) z l i3 k3 hl q3 r3
    simp (disch := omega) only [qa4, nth0, nth1, nth2, nth3, bit, qcy, qcz, qda, qdf, qdg, qdh, qdi, qdj, qdk, qdl, qc0, qc1, qc2, qc3, qc4, qc5, qc6, qc7, qc8, qc9, qdb, qdc, qdd, qde, qkt, qks, qku, qip, qjf, qjh, qgi, qa7, qkn, nI, qdu, qds, Bool.not_true, Bool.not_false, Bool.and_true, Bool.true_and, Bool.and_false, Bool.false_and, Bool.or_true, Bool.true_or, Bool.or_false, Bool.false_or, beq_self_eq_true, dTT, dFF, dT, dF, bigI, big0, qio, qk7, qk8, List.length_set, List.length_replicate, Int.toNat_natCast, qcw, qcx, imax, imin, e1, e2, e3, e4, qjd, qje] at e
    exact ⟨_, _, _, e, qkr (by omega) hb, q4, r4⟩
theorem qce (k : Nat) (hk : 2000000 ≤ k) (z : Bool) (l : List Int) (i h b : Int) (hl : (l.length : Int) ≤ 1048576) (h0 : 0 ≤ i) (h1 : i ≤ l.length) (hb : 1 ≤ b) (hb' : b ≤ 1000000) : ∃ (v : Bool) (i' h' : Int), go (k + 3) spec_l01Once [.ptr true [.arr false (z) (.ints .u8 (l)), .int .i64 (i), .int .i64 (h)], .int .i64 b] = some [.bool v, .ptr true [.arr false (z) (.ints .u8 (l)), .int .i64 (i'), .int .i64 (h')]] ∧ 0 ≤ i' ∧ i' ≤ l.length := by
  have e := qe9 (k + 2) z l i h b
  obtain ⟨v1, i1, k1, e1, b1, q1, r1⟩ := qcb k (by omega) z l i h b hl h0 h1 hb hb'
  simp (disch := omega) only [qa4, nth0, nth1, nth2, nth3, bit, qcy, qcz, qda, qdf, qdg, qdh, qdi, qdj, qdk, qdl, qc0, qc1, qc2, qc3, qc4, qc5, qc6, qc7, qc8, qc9, qdb, qdc, qdd, qde, qkt, qks, qku, qip, qjf, qjh, qgi, qa7, qkn, nI, qdu, qds, Bool.not_true, Bool.not_false, Bool.and_true, Bool.true_and, Bool.and_false, Bool.false_and, Bool.or_true, Bool.true_or, Bool.or_false, Bool.false_or, beq_self_eq_true, dTT, dFF, dT, dF, bigI, big0, qio, qk7, qk8, List.length_set, List.length_replicate, Int.toNat_natCast, qcw, qcx, imax, imin, e1, qjd, qje] at e
  exact ⟨_, _, _, e, q1, r1⟩
theorem qb0 (k : Nat) (hk : 2000000 ≤ k) (r v ix b : Int) (hid : idOk r v ix = true) (hv : v < 4) (hb : b = 0 ∨ b = 1) : go (k + 3) spec_ChildOf [.agg [.int .i64 r, .int .i64 v, .int .i64 ix], .int .i64 b] = some [.agg [.int .i64 r, .int .i64 (v + 1), .int .i64 (2 * ix + b)], .bool true] := by
  rw [qew]
  have h := qgd.1 hid
  have hp : pow2 v ≤ 16 := by
    rcases lev (qgf.2 h.2.1) with rfl | rfl | rfl | rfl | rfl <;> decide
  have hi : inR b 0 1 = true := qgf.2 (by omega)
  simp (disch := omega) only [qa4, nth0, nth1, nth2, nth3, bit, qcy, qcz, qda, qdf, qdg, qdh, qdi, qdj, qdk, qdl, qc0, qc1, qc2, qc3, qc4, qc5, qc6, qc7, qc8, qc9, qdb, qdc, qdd, qde, qkt, qks, qku, qip, qjf, qjh, qgi, qa7, qkn, nI, qdu, qds, Bool.not_true, Bool.not_false, Bool.and_true, Bool.true_and, Bool.and_false, Bool.false_and, Bool.or_true, Bool.true_or, Bool.or_false, Bool.false_or, beq_self_eq_true, dTT, dFF, dT, dF, bigI, big0, qio, qk7, qk8, List.length_set, List.length_replicate, Int.toNat_natCast, qcw, qcx, imax, imin, qb2, hid, qcd, hi]
def qad (K : Nat) (z : Bool) (l : List Int) (v : Int) (N : Nat) : Prop := ∀ (r ix c i h : Int) (q : Bool) (out : List Cell), idOk r v ix = true → 1 ≤ c → c ≤ 90 + v → 0 ≤ i → i ≤ l.length → out.length + N ≤ 4096 →
    ∃ (new : List Cell) (i' h' : Int), go K spec_l04Root [.ptr true [.arr false (z) (.ints .u8 (l)), .int .i64 (i), .int .i64 (h)], .agg [.int .i64 r, .int .i64 v, .int .i64 ix], .int .i64 c, .ptr true [.arr true q (.r3 out)]] = some [.ptr true [.arr false (z) (.ints .u8 (l)), .int .i64 (i'), .int .i64 (h')], .ptr true [.arr true false (.r3 (out ++ new))]] ∧ (0 ≤ i' ∧ i' ≤ l.length) ∧ (1 ≤ new.length ∧ new.length ≤ N) ∧ okp (qkh r v ix) new = true ∧ endp (qkh r v ix) new = qkh r v ix + qk3 v
theorem qjk {r v ix : Int} (hid : idOk r v ix = true) : okp (qkh r v ix) [(r, v, ix)] = true ∧ endp (qkh r v ix) [(r, v, ix)] = qkh r v ix + qk3 v :=
  ⟨qi3.2 ⟨hid, rfl, rfl⟩, rfl⟩
theorem qjj (k : Nat) (hk : 2000000 ≤ k) (z : Bool) (l : List Int) (hl : (l.length : Int) ≤ 1048576) : qad (k + 4) z l 4 1 := by
  intro r ix c i h q out hid hc hc' h0 h1 ho
  have e := qfd (k + 3) z l i h r 4 ix c q out
  have lo : (out ++ [(r, (4 : Int), ix)]).length = out.length + 1 := by simp
  simp (disch := omega) only [qa4, nth0, nth1, nth2, nth3, bit, qcy, qcz, qda, qdf, qdg, qdh, qdi, qdj, qdk, qdl, qc0, qc1, qc2, qc3, qc4, qc5, qc6, qc7, qc8, qc9, qdb, qdc, qdd, qde, qkt, qks, qku, qip, qjf, qjh, qgi, qa7, qkn, nI, qdu, qds, Bool.not_true, Bool.not_false, Bool.and_true, Bool.true_and, Bool.and_false, Bool.false_and, Bool.or_true, Bool.true_or, Bool.or_false, Bool.false_or, beq_self_eq_true, dTT, dFF, dT, dF, bigI, big0, qio, qk7, qk8, List.length_set, List.length_replicate, Int.toNat_natCast, qcw, qcx, imax, imin] at e
  exact ⟨[(r, 4, ix)], i, h, e, ⟨h0, h1⟩, by simp, qjk hid⟩
theorem qjl (k : Nat) (hk : 2000000 ≤ k) (z : Bool) (l : List Int) (hl : (l.length : Int) ≤ 1048576) (v : Int) (h0v : 0 ≤ v) (hv : v < 4) (N : Nat) (hN : 1 ≤ N) (H : qad (k + 4) z l (v + 1) N) : qad (k + 4 + 1) z l v (2 * N) := by
  intro r ix c i h q out hid hc hc' h0 h1 ho
  have e := qfd (k + 4) z l i h r v ix c q out
  have lo : (out ++ [(r, v, ix)]).length = out.length + 1 := by simp
  obtain ⟨b, i1, k1, e1, q1, r1⟩ := qce (k + 1) (by omega) z l i h c hl h0 h1 hc (by omega)
  cases b
  · simp (disch := omega) only [qa4, nth0, nth1, nth2, nth3, bit, qcy, qcz, qda, qdf, qdg, qdh, qdi, qdj, qdk, qdl, qc0, qc1, qc2, qc3, qc4, qc5, qc6, qc7, qc8, qc9, qdb, qdc, qdd, qde, qkt, qks, qku, qip, qjf, qjh, qgi, qa7, qkn, nI, qdu, qds, Bool.not_true, Bool.not_false, Bool.and_true, Bool.true_and, Bool.and_false, Bool.false_and, Bool.or_true, Bool.true_or, Bool.or_false, Bool.false_or, beq_self_eq_true, dTT, dFF, dT, dF, bigI, big0, qio, qk7, qk8, List.length_set, List.length_replicate, Int.toNat_natCast, qcw, qcx, imax, imin, e1, qjd, qje] at e
    exact ⟨[(r, v, ix)], i1, k1, e, ⟨q1, r1⟩, ⟨by simp, by simp; omega⟩, qjk hid⟩
  · simp (disch := omega) only [qa4, nth0, nth1, nth2, nth3, bit, qcy, qcz, qda, qdf, qdg, qdh, qdi, qdj, qdk, qdl, qc0, qc1, qc2, qc3, qc4, qc5, qc6, qc7, qc8, qc9, qdb, qdc, qdd, qde, qkt, qks, qku, qip, qjf, qjh, qgi, qa7, qkn, nI, qdu, qds, Bool.not_true, Bool.not_false, Bool.and_true, Bool.true_and, Bool.and_false, Bool.false_and, Bool.or_true, Bool.true_or, Bool.or_false, Bool.false_or, beq_self_eq_true, dTT, dFF, dT, dF, bigI, big0, qio, qk7, qk8, List.length_set, List.length_replicate, Int.toNat_natCast, qcw, qcx, imax, imin, e1, qjd, qje] at e
    have ch := qdn hid hv
    obtain ⟨n1, i2, k2, e2, p2, s2, o2, d2⟩ := H r (2 * ix) (c + 1) i1 k1 q out ch.1 (by omega) (by omega) q1 r1 (by omega)
    have l2 : (out ++ n1).length = out.length + n1.length := List.length_append ..
    obtain ⟨n2, i3, k3, e3, p3, s3, o3, d3⟩ := H r (2 * ix + 1) (c + 1) i2 k2 false (out ++ n1) ch.2.1 (by omega) (by omega) p2.1 p2.2 (by omega)
    have cA := qb0 (k + 1) (by omega) r v ix 0 hid hv (Or.inl rfl)
    have cB := qb0 (k + 1) (by omega) r v ix 1 hid hv (Or.inr rfl)
    rw [Int.add_zero] at cA
    have f0 := qhh (k + 4) (k + 3) [] z l i h q out c 0 z l i1 k1 q out r v ix
    have f1 := qhh (k + 4) (k + 2) [] z l i h q out c 1 z l i2 k2 false (out ++ n1) r v ix
    have f2 := qhh (k + 4) (k + 1) [] z l i h q out c 2 z l i3 k3 false (out ++ n1 ++ n2) r v ix
    have w1 : IntKind.wrap .i64 (c + 1) = c + 1 := qk7 (by omega) (by omega)
    have w2 : IntKind.wrap .i64 ((0 : Int) + 1) = 1 := by rw [qk7 (by omega) (by omega)]; rfl
    have w3 : IntKind.wrap .i64 ((1 : Int) + 1) = 2 := by rw [qk7 (by omega) (by omega)]; rfl
    simp (disch := omega) only [qa4, nth0, nth1, nth2, nth3, bit, qcy, qcz, qda, qdf, qdg, qdh, qdi, qdj, qdk, qdl, qc0, qc1, qc2, qc3, qc4, qc5, qc6, qc7, qc8, qc9, qdb, qdc, qdd, qde, qkt, qks, qku, qip, qjf, qjh, qgi, qa7, qkn, nI, qdu, qds, Bool.not_true, Bool.not_false, Bool.and_true, Bool.true_and, Bool.and_false, Bool.false_and, Bool.or_true, Bool.true_or, Bool.or_false, Bool.false_or, beq_self_eq_true, dTT, dFF, dT, dF, bigI, big0, qio, qk7, qk8, List.length_set, List.length_replicate, Int.toNat_natCast, qcw, qcx, imax, imin] at f2
    simp (disch := omega) only [qa4, nth0, nth1, nth2, nth3, bit, qcy, qcz, qda, qdf, qdg, qdh, qdi, qdj, qdk, qdl, qc0, qc1, qc2, qc3, qc4, qc5, qc6, qc7, qc8, qc9, qdb, qdc, qdd, qde, qkt, qks, qku, qip, qjf, qjh, qgi, qa7, qkn, nI, qdu, qds, Bool.not_true, Bool.not_false, Bool.and_true, Bool.true_and, Bool.and_false, Bool.false_and, Bool.or_true, Bool.true_or, Bool.or_false, Bool.false_or, beq_self_eq_true, dTT, dFF, dT, dF, bigI, big0, qio, qk7, qk8, List.length_set, List.length_replicate, Int.toNat_natCast, qcw, qcx, imax, imin, cB, w1, w3, e3, qjc, qjd, qje, f2] at f1
    simp (disch := omega) only [qa4, nth0, nth1, nth2, nth3, bit, qcy, qcz, qda, qdf, qdg, qdh, qdi, qdj, qdk, qdl, qc0, qc1, qc2, qc3, qc4, qc5, qc6, qc7, qc8, qc9, qdb, qdc, qdd, qde, qkt, qks, qku, qip, qjf, qjh, qgi, qa7, qkn, nI, qdu, qds, Bool.not_true, Bool.not_false, Bool.and_true, Bool.true_and, Bool.and_false, Bool.false_and, Bool.or_true, Bool.true_or, Bool.or_false, Bool.false_or, beq_self_eq_true, dTT, dFF, dT, dF, bigI, big0, qio, qk7, qk8, List.length_set, List.length_replicate, Int.toNat_natCast, qcw, qcx, imax, imin, cA, w1, w2, e2, qjc, qjd, qje, f1] at f0
    rw [f0, List.append_assoc] at e
    refine ⟨n1 ++ n2, i3, k3, e, p3, ?_, ?_, ?_⟩
    · rw [List.length_append]; omega
    · rw [qi2, Bool.and_eq_true]
      rw [ch.2.2.1] at o2 d2
      rw [ch.2.2.2.1] at o3
      exact ⟨o2, by rw [d2]; exact o3⟩
    · rw [qfs]
      rw [ch.2.2.1] at d2
      rw [ch.2.2.2.1] at d3
      rw [d2, d3, Int.add_assoc, ch.2.2.2.2]
theorem qci (k : Nat) (hk : 2000000 ≤ k) (z : Bool) (l : List Int) (hl : (l.length : Int) ≤ 1048576) : qad (k + 8) z l 0 16 :=
  qjl (k + 3) (by omega) z l hl 0 (by omega) (by omega) 8 (by omega) (qjl (k + 2) (by omega) z l hl 1 (by omega) (by omega) 4 (by omega) (qjl (k + 1) (by omega) z l hl 2 (by omega) (by omega) 2 (by omega) (qjl k hk z l hl 3 (by omega) (by omega) 1 (by omega) (qjj k hk z l hl))))
end Go.Proofs.YtjfjniebmdafeaaDoor
end
section
namespace Go.Proofs.YtjfjniebmdafeaaDoor
open Go.Ev
set_option maxRecDepth 20000
theorem qh3 (k : Nat) (hk : 2000000 ≤ k) (fu : List (Nat × Nat)) (v0 : Bool) (v1 : List Int) (v2 v3 : Int) (z : Bool) (l : List Int) (hl : (l.length : Int) ≤ 1048576) (z5 : Bool) (l6 : List Cell) (x7 : Int) (R : Nat) (hR : 1 ≤ R) (hR' : R ≤ 3) : ∀ (n t : Nat) (i h : Int) (q : Bool) (out : List Cell), t ≤ R → R - t < n → 0 ≤ i → i ≤ l.length → (q = false ∨ t = 0) → out.length ≤ 16 * t → okp 0 out = true → endp 0 out = 16 * t →
    ∃ (out' : List Cell) (i' h' : Int), lp (k + 8) spec_l04Mesh [(.ptr true [(.arr false (v0) (.ints IntKind.u8 (v1))), (.int .i64 (v2)), (.int .i64 (v3))])] fu 3 (n) (qjz (t : Int) z l i h z5 l6 x7 q out (R : Int)) = some [.agg [.int .i64 (R : Int), .arr true false (.r3 out')], .ptr true [.arr false (z) (.ints .u8 (l)), .int .i64 (i'), .int .i64 (h')]] ∧ (0 ≤ i' ∧ i' ≤ l.length) ∧ qie R 0 out' = true
  | 0, t, i, h, q, out, ht, hn, h0, h1, hq, ho, o, d => by omega
  | n + 1, t, i, h, q, out, ht, hn, h0, h1, hq, ho, o, d => by
    have e := qhg (k + 8) n fu v0 v1 v2 v3 (t : Int) z l i h z5 l6 x7 q out (R : Int)
    by_cases g : t < R
    · obtain ⟨v, i1, k1, e1, b1, q1, r1⟩ := qcb (k + 6) (by omega) z l i h 2 hl h0 h1 (by omega) (by omega)
      have id : idOk (t : Int) 0 0 = true := qgd.2 ⟨by omega, by omega, by omega, by decide⟩
      obtain ⟨n1, i2, k2, e2, p2, s2, o2, d2⟩ := qci k (by omega) z l hl (t : Int) 0 (1 + v) i1 k1 q out id (by omega) (by omega) q1 r1 (by omega)
      have st : qkh (t : Int) 0 0 = 16 * t := by rw [qkj id]; omega
      rw [st] at o2 d2
      have lo : (out ++ n1).length = out.length + n1.length := List.length_append ..
      obtain ⟨out', i', h', e3, p3, o3⟩ := qh3 k hk fu v0 v1 v2 v3 z l hl z5 l6 x7 R hR hR' n (t + 1) i2 k2 false (out ++ n1) (by omega) (by omega) p2.1 p2.2 (Or.inl rfl) (by omega) (by rw [qi2, d, Bool.and_eq_true]; exact ⟨o, o2⟩) (by rw [qfs, d, d2, w0]; omega)
      simp (disch := omega) only [qa4, nth0, nth1, nth2, nth3, bit, qcy, qcz, qda, qdf, qdg, qdh, qdi, qdj, qdk, qdl, qc0, qc1, qc2, qc3, qc4, qc5, qc6, qc7, qc8, qc9, qdb, qdc, qdd, qde, qkt, qks, qku, qip, qjf, qjh, qgi, qa7, qkn, nI, qdu, qds, Bool.not_true, Bool.not_false, Bool.and_true, Bool.true_and, Bool.and_false, Bool.false_and, Bool.or_true, Bool.true_or, Bool.or_false, Bool.false_or, beq_self_eq_true, dTT, dFF, dT, dF, bigI, big0, qio, qk7, qk8, List.length_set, List.length_replicate, Int.toNat_natCast, qcw, qcx, imax, imin, e1, qjc, qjd, qje, e2, e3] at e
      exact ⟨out', i', h', e, p3, o3⟩
    · have : t = R := by omega
      subst this
      rcases hq with rfl | h
      · simp (disch := omega) only [qa4, nth0, nth1, nth2, nth3, bit, qcy, qcz, qda, qdf, qdg, qdh, qdi, qdj, qdk, qdl, qc0, qc1, qc2, qc3, qc4, qc5, qc6, qc7, qc8, qc9, qdb, qdc, qdd, qde, qkt, qks, qku, qip, qjf, qjh, qgi, qa7, qkn, nI, qdu, qds, Bool.not_true, Bool.not_false, Bool.and_true, Bool.true_and, Bool.and_false, Bool.false_and, Bool.or_true, Bool.true_or, Bool.or_false, Bool.false_or, beq_self_eq_true, dTT, dFF, dT, dF, bigI, big0, qio, qk7, qk8, List.length_set, List.length_replicate, Int.toNat_natCast, qcw, qcx, imax, imin] at e
        exact ⟨out, i, h, e, ⟨h0, h1⟩, qig.2 ⟨o, by omega, by rw [d]; omega⟩⟩
      · omega
theorem qch (k : Nat) (hk : 2000000 ≤ k) (z : Bool) (l : List Int) (i h : Int) (hl : (l.length : Int) ≤ 1048576) (h0 : 0 ≤ i) (h1 : i ≤ l.length) :
    ∃ (r : Int) (out : List Cell) (i' h' : Int), go (k + 9) spec_l04Mesh [.ptr true [.arr false (z) (.ints .u8 (l)), .int .i64 (i), .int .i64 (h)]] = some [.agg [.int .i64 r, .arr true false (.r3 out)], .ptr true [.arr false (z) (.ints .u8 (l)), .int .i64 (i'), .int .i64 (h')]] ∧ (0 ≤ i' ∧ i' ≤ l.length) ∧ qie r 0 out = true ∧ r ≤ 3 := by
  have e := qfc (k + 8) z l i h
  obtain ⟨v, i1, k1, e1, b1, q1, r1⟩ := qcb (k + 6) (by omega) z l i h 3 hl h0 h1 (by omega) (by omega)
  obtain ⟨w, rfl⟩ : ∃ w : Nat, v = (w : Int) := ⟨v.toNat, by omega⟩
  obtain ⟨out, i2, k2, e2, p2, o2⟩ := qh3 k hk [] z l i h z l hl true [] 0 (1 + w) (by omega) (by omega) (k + 8) 0 i1 k1 true [] (by omega) (by omega) q1 r1 (Or.inr rfl) (by simp) rfl rfl
  rw [show ((1 + w : Nat) : Int) = 1 + (w : Int) by omega, show ((0 : Nat) : Int) = 0 from rfl] at e2
  rw [show ((1 + w : Nat) : Int) = 1 + (w : Int) by omega] at o2
  simp (disch := omega) only [qa4, nth0, nth1, nth2, nth3, bit, qcy, qcz, qda, qdf, qdg, qdh, qdi, qdj, qdk, qdl, qc0, qc1, qc2, qc3, qc4, qc5, qc6, qc7, qc8, qc9, qdb, qdc, qdd, qde, qkt, qks, qku, qip, qjf, qjh, qgi, qa7, qkn, nI, qdu, qds, Bool.not_true, Bool.not_false, Bool.and_true, Bool.true_and, Bool.and_false, Bool.false_and, Bool.or_true, Bool.true_or, Bool.or_false, Bool.false_or, beq_self_eq_true, dTT, dFF, dT, dF, bigI, big0, qio, qk7, qk8, List.length_set, List.length_replicate, Int.toNat_natCast, qcw, qcx, imax, imin, e1, qjc, qjd, qje, e2] at e
  exact ⟨_, _, _, _, e, p2, o2, by omega⟩
theorem qcj (k : Nat) (hk : 2000000 ≤ k) (a0 : Int) (a1z : Bool) (a1 : List Cell) (i : Nat) (hl : (a1.length : Int) ≤ 1048576) (hi : i + 1 < a1.length) : go (k + 1) spec_l05Coarser [.agg [.int .i64 a0, .arr false a1z (.r3 a1)], .int .i64 (i : Int)] = some [.int .i64 ((qdp a1 i : Nat) : Int)] := by
  rw [qfe]
  unfold qdp
  simp (disch := omega) only [qa4, nth0, nth1, nth2, nth3, bit, qcy, qcz, qda, qdf, qdg, qdh, qdi, qdj, qdk, qdl, qc0, qc1, qc2, qc3, qc4, qc5, qc6, qc7, qc8, qc9, qdb, qdc, qdd, qde, qkt, qks, qku, qip, qjf, qjh, qgi, qa7, qkn, nI, qdu, qds, Bool.not_true, Bool.not_false, Bool.and_true, Bool.true_and, Bool.and_false, Bool.false_and, Bool.or_true, Bool.true_or, Bool.or_false, Bool.false_or, beq_self_eq_true, dTT, dFF, dT, dF, bigI, big0, qio, qk7, qk8, List.length_set, List.length_replicate, Int.toNat_natCast, qcw, qcx, imax, imin]
  by_cases g : qhp a1 (i + 1) < qhp a1 i
  · rw [if_pos g]; simp only [qhp] at g; simp (disch := omega) only [qa4, nth0, nth1, nth2, nth3, bit, qcy, qcz, qda, qdf, qdg, qdh, qdi, qdj, qdk, qdl, qc0, qc1, qc2, qc3, qc4, qc5, qc6, qc7, qc8, qc9, qdb, qdc, qdd, qde, qkt, qks, qku, qip, qjf, qjh, qgi, qa7, qkn, nI, qdu, qds, Bool.not_true, Bool.not_false, Bool.and_true, Bool.true_and, Bool.and_false, Bool.false_and, Bool.or_true, Bool.true_or, Bool.or_false, Bool.false_or, beq_self_eq_true, dTT, dFF, dT, dF, bigI, big0, qio, qk7, qk8, List.length_set, List.length_replicate, Int.toNat_natCast, qcw, qcx, imax, imin]
  · rw [if_neg g]; simp only [qhp] at g; simp (disch := omega) only [qa4, nth0, nth1, nth2, nth3, bit, qcy, qcz, qda, qdf, qdg, qdh, qdi, qdj, qdk, qdl, qc0, qc1, qc2, qc3, qc4, qc5, qc6, qc7, qc8, qc9, qdb, qdc, qdd, qde, qkt, qks, qku, qip, qjf, qjh, qgi, qa7, qkn, nI, qdu, qds, Bool.not_true, Bool.not_false, Bool.and_true, Bool.true_and, Bool.and_false, Bool.false_and, Bool.or_true, Bool.true_or, Bool.or_false, Bool.false_or, beq_self_eq_true, dTT, dFF, dT, dF, bigI, big0, qio, qk7, qk8, List.length_set, List.length_replicate, Int.toNat_natCast, qcw, qcx, imax, imin]
theorem qkq {α : Type} (l : List α) (i : Nat) : List.take (l.length - i) (List.drop i l) = l.drop i := by
  apply List.take_of_length_le; rw [List.length_drop]; omega
theorem ton0 : Int.toNat 0 = 0 := Eq.trans rfl rfl
theorem qcm (k : Nat) (hk : 2000000 ≤ k) (a0 : Int) (a1z : Bool) (a1 : List Cell) (i : Nat) (hl : (a1.length : Int) ≤ 1000000) (hi : i < a1.length) (hid : idOk (a1.getD i zz3).1 (a1.getD i zz3).2.1 (a1.getD i zz3).2.2 = true) (hv : (a1.getD i zz3).2.1 < 4) : go (k + 4) spec_l05Split [.agg [.int .i64 a0, .arr false a1z (.r3 a1)], .int .i64 (i : Int)] = some [.agg [.int .i64 a0, .arr true false (.r3 (qke a1 i))]] := by
  rw [qfh]
  have cA := qb0 k (by omega) _ _ _ 0 hid hv (Or.inl rfl)
  have cB := qb0 k (by omega) _ _ _ 1 hid hv (Or.inr rfl)
  rw [Int.add_zero] at cA
  have l1 : (a1.take i).length = i := by rw [List.length_take]; omega
  have l2 : ∀ x y : Cell, (a1.take i ++ [x, y]).length = i + 2 := fun x y => by rw [List.length_append, l1]; rfl
  have l3 : ∀ x y : Cell, (a1.take i ++ [x, y] ++ a1.drop (i + 1)).length = a1.length + 1 := fun x y => by rw [List.length_append, l2, List.length_drop]; omega
  simp (disch := omega) only [qa4, nth0, nth1, nth2, nth3, bit, qcy, qcz, qda, qdf, qdg, qdh, qdi, qdj, qdk, qdl, qc0, qc1, qc2, qc3, qc4, qc5, qc6, qc7, qc8, qc9, qdb, qdc, qdd, qde, qkt, qks, qku, qip, qjf, qjh, qgi, qa7, qkn, nI, qdu, qds, Bool.not_true, Bool.not_false, Bool.and_true, Bool.true_and, Bool.and_false, Bool.false_and, Bool.or_true, Bool.true_or, Bool.or_false, Bool.false_or, beq_self_eq_true, dTT, dFF, dT, dF, bigI, big0, qio, qk7, qk8, List.length_set, List.length_replicate, Int.toNat_natCast, qcw, qcx, imax, imin, cA, cB, ton0, Nat.sub_zero, Nat.zero_add, List.drop_zero, qkq, l1, l2, l3]
  rw [List.append_assoc]; rfl
theorem qhy (k : Nat) (hk : 2000000 ≤ k) (fu : List (Nat × Nat)) (z1 : Bool) (l2 : List Cell) (x3 r : Int) : ∀ (N n : Nat) (l : List Cell), N < n → qie r 0 l = true → 129 ≤ N + l.length →
    lp (k + 5) spec_Balance [] fu 5 (n) (qju (unb l) z1 l2 x3 false l r) = some [.agg [.int .i64 r, .arr true false (.r3 (balN N l))]]
  | N, 0, l, hn, h, hN => by omega
  | 0, n + 1, l, hn, h, hN => by have := qij h; omega
  | N + 1, n + 1, l, hn, h, hN => by
    have ml := qij h
    have e := qhb (k + 5) n fu (unb l) z1 l2 x3 false l r
    unfold balN
    by_cases g : unb l < 0
    · rw [if_pos g]; simp (disch := omega) only [qa4, nth0, nth1, nth2, nth3, bit, qcy, qcz, qda, qdf, qdg, qdh, qdi, qdj, qdk, qdl, qc0, qc1, qc2, qc3, qc4, qc5, qc6, qc7, qc8, qc9, qdb, qdc, qdd, qde, qkt, qks, qku, qip, qjf, qjh, qgi, qa7, qkn, nI, qdu, qds, Bool.not_true, Bool.not_false, Bool.and_true, Bool.true_and, Bool.and_false, Bool.false_and, Bool.or_true, Bool.true_or, Bool.or_false, Bool.false_or, beq_self_eq_true, dTT, dFF, dT, dF, bigI, big0, qio, qk7, qk8, List.length_set, List.length_replicate, Int.toNat_natCast, qcw, qcx, imax, imin] at e; exact e
    · rw [if_neg g]
      obtain ⟨j, ej, h1, h2⟩ := qkx (by omega : 0 ≤ unb l)
      have c := qdq h h1 h2
      have sm := qkg h c.1 c.2
      have sl := qkf c.1
      have id := ((qii _ _ _ h).2.2.2.1 _ c.1).2.2
      have IH := qhy k hk fu z1 l2 x3 r N n _ (by omega) sm (by omega)
      rw [ej, Int.toNat_natCast]
      rw [ej] at e
      have mv := qik _ _ _ sm
      have mm := qij sm
      simp (disch := omega) only [qa4, nth0, nth1, nth2, nth3, bit, qcy, qcz, qda, qdf, qdg, qdh, qdi, qdj, qdk, qdl, qc0, qc1, qc2, qc3, qc4, qc5, qc6, qc7, qc8, qc9, qdb, qdc, qdd, qde, qkt, qks, qku, qip, qjf, qjh, qgi, qa7, qkn, nI, qdu, qds, Bool.not_true, Bool.not_false, Bool.and_true, Bool.true_and, Bool.and_false, Bool.false_and, Bool.or_true, Bool.true_or, Bool.or_false, Bool.false_or, beq_self_eq_true, dTT, dFF, dT, dF, bigI, big0, qio, qk7, qk8, List.length_set, List.length_replicate, Int.toNat_natCast, qcw, qcx, imax, imin, qcj] at e
      rw [qcm (k + 1) (by omega) _ _ _ _ (by omega) c.1 id c.2] at e
      simp (disch := omega) only [qa4, nth0, nth1, nth2, nth3, bit, qcy, qcz, qda, qdf, qdg, qdh, qdi, qdj, qdk, qdl, qc0, qc1, qc2, qc3, qc4, qc5, qc6, qc7, qc8, qc9, qdb, qdc, qdd, qde, qkt, qks, qku, qip, qjf, qjh, qgi, qa7, qkn, nI, qdu, qds, Bool.not_true, Bool.not_false, Bool.and_true, Bool.true_and, Bool.and_false, Bool.false_and, Bool.or_true, Bool.true_or, Bool.or_false, Bool.false_or, beq_self_eq_true, dTT, dFF, dT, dF, bigI, big0, qio, qk7, qk8, List.length_set, List.length_replicate, Int.toNat_natCast, qcw, qcx, imax, imin] at e
      rw [qck (k + 4) (by omega) _ _ _ (by omega) mv] at e
      simp (disch := omega) only [qa4, nth0, nth1, nth2, nth3, bit, qcy, qcz, qda, qdf, qdg, qdh, qdi, qdj, qdk, qdl, qc0, qc1, qc2, qc3, qc4, qc5, qc6, qc7, qc8, qc9, qdb, qdc, qdd, qde, qkt, qks, qku, qip, qjf, qjh, qgi, qa7, qkn, nI, qdu, qds, Bool.not_true, Bool.not_false, Bool.and_true, Bool.true_and, Bool.and_false, Bool.false_and, Bool.or_true, Bool.true_or, Bool.or_false, Bool.false_or, beq_self_eq_true, dTT, dFF, dT, dF, bigI, big0, qio, qk7, qk8, List.length_set, List.length_replicate, Int.toNat_natCast, qcw, qcx, imax, imin, IH] at e
      exact e
theorem qby (k : Nat) (hk : 2000000 ≤ k) (a0 : Int) (a1z : Bool) (a1 : List Cell) (h : qie a0 0 a1 = true) : go (k + 6) spec_Balance [.agg [.int .i64 a0, .arr false a1z (.r3 a1)]] = some [.agg [.int .i64 a0, .arr true false (.r3 (bal a1))]] := by
  rw [qeu]
  have ml := qij h
  have mv := qik _ _ _ h
  simp (disch := omega) only [qa4, nth0, nth1, nth2, nth3, bit, qcy, qcz, qda, qdf, qdg, qdh, qdi, qdj, qdk, qdl, qc0, qc1, qc2, qc3, qc4, qc5, qc6, qc7, qc8, qc9, qdb, qdc, qdd, qde, qkt, qks, qku, qip, qjf, qjh, qgi, qa7, qkn, nI, qdu, qds, Bool.not_true, Bool.not_false, Bool.and_true, Bool.true_and, Bool.and_false, Bool.false_and, Bool.or_true, Bool.true_or, Bool.or_false, Bool.false_or, beq_self_eq_true, dTT, dFF, dT, dF, bigI, big0, qio, qk7, qk8, List.length_set, List.length_replicate, Int.toNat_natCast, qcw, qcx, imax, imin, qcf, qb4, h]
  rw [qck (k + 4) (by omega) _ _ _ (by omega) mv]
  simp (disch := omega) only [qa4, nth0, nth1, nth2, nth3, bit, qcy, qcz, qda, qdf, qdg, qdh, qdi, qdj, qdk, qdl, qc0, qc1, qc2, qc3, qc4, qc5, qc6, qc7, qc8, qc9, qdb, qdc, qdd, qde, qkt, qks, qku, qip, qjf, qjh, qgi, qa7, qkn, nI, qdu, qds, Bool.not_true, Bool.not_false, Bool.and_true, Bool.true_and, Bool.and_false, Bool.false_and, Bool.or_true, Bool.true_or, Bool.or_false, Bool.false_or, beq_self_eq_true, dTT, dFF, dT, dF, bigI, big0, qio, qk7, qk8, List.length_set, List.length_replicate, Int.toNat_natCast, qcw, qcx, imax, imin]
  exact qhy k hk [] true [] 0 a0 _ _ a1 (by omega) h (by omega)
theorem qcl (k : Nat) (hk : 2000000 ≤ k) (z : Bool) (l : List Int) (i h : Int) (hl : (l.length : Int) ≤ 1048576) (h0 : 0 ≤ i) (h1 : i ≤ l.length) :
    ∃ (r : Int) (out : List Cell) (i' h' : Int), go (k + 10) spec_l05Mesh [.ptr true [.arr false (z) (.ints .u8 (l)), .int .i64 (i), .int .i64 (h)]] = some [.agg [.int .i64 r, .arr true false (.r3 out)], .ptr true [.arr false (z) (.ints .u8 (l)), .int .i64 (i'), .int .i64 (h')]] ∧ (0 ≤ i' ∧ i' ≤ l.length) ∧ qie r 0 out = true ∧ unb out < 0 ∧ r ≤ 3 := by
  have e := qfg (k + 9) z l i h
  obtain ⟨r, out, i1, k1, e1, q1, m1, r1⟩ := qch k (by omega) z l i h hl h0 h1
  have e2 := qby (k + 3) (by omega) r false out m1
  simp (disch := omega) only [qa4, nth0, nth1, nth2, nth3, bit, qcy, qcz, qda, qdf, qdg, qdh, qdi, qdj, qdk, qdl, qc0, qc1, qc2, qc3, qc4, qc5, qc6, qc7, qc8, qc9, qdb, qdc, qdd, qde, qkt, qks, qku, qip, qjf, qjh, qgi, qa7, qkn, nI, qdu, qds, Bool.not_true, Bool.not_false, Bool.and_true, Bool.true_and, Bool.and_false, Bool.false_and, Bool.or_true, Bool.true_or, Bool.or_false, Bool.false_or, beq_self_eq_true, dTT, dFF, dT, dF, bigI, big0, qio, qk7, qk8, List.length_set, List.length_replicate, Int.toNat_natCast, qcw, qcx, imax, imin, e1, e2, qjc, qjd, qje] at e
  exact ⟨_, _, _, _, e, q1, (qa0 m1).1, (qa0 m1).2, r1⟩
end Go.Proofs.YtjfjniebmdafeaaDoor
end
section
namespace Go.Proofs.YtjfjniebmdafeaaDoor
open Go.Ev
structure Ld where
  mi : Int
  mo : Int
  ti : Int
  ou : Int
structure Pl where
  bi : Int
  bs : Int
  bo : Int
  rain : Int
  loss : Int
  dec : Int
  high : Int
  low : Int
  every : Int
def Ld.add (a b : Ld) : Ld := ⟨a.mi + b.mi, a.mo + b.mo, a.ti + b.ti, a.ou + b.ou⟩
theorem StF.mk' {r : Int} {l : List Cell} {m t b m' t' : List Int} (F : StF r l m t b) (hm : m'.length = l.length) (ht : t'.length = l.length) (h : ∀ i, i < l.length → 0 ≤ m'.getD i 0 ∧ 0 ≤ t'.getD i 0 ∧ t'.getD i 0 ≤ 1000 * m'.getD i 0) (hs : isum m' ≤ 10000000) : StF r l m' t' b := by
  refine ⟨F.mesh, F.bal, hm, ht, F.bl, ?_, F.bed, hs⟩
  refine qic _ _ (by omega) fun i hi => ?_
  have a := h i (by omega)
  have nn : ∀ x ∈ m', 0 ≤ x := by
    intro x hx
    obtain ⟨j, hj, rfl⟩ := List.getElem_of_mem hx
    have := (h j (by omega)).1
    rwa [List.getD_eq_getElem?_getD, List.getElem?_eq_getElem hj, Option.getD_some] at this
  have := qfp m' nn _ (qf8 hi 0)
  exact ⟨⟨a.1, by omega⟩, a.2⟩
section
variable {r : Int} {l : List Cell} {m t b : List Int}
end
section
variable {r : Int} {l : List Cell} {m t b : List Int}
end
end Go.Proofs.YtjfjniebmdafeaaDoor
end
section
namespace Go.Proofs.YtjfjniebmdafeaaDoor
open Go.Ev
set_option maxRecDepth 20000
abbrev plD (p : Pl) : D := .agg [.int .i64 p.bi, .int .i64 p.bs, .int .i64 p.bo, .int .i64 p.rain, .int .i64 p.loss, .int .i64 p.dec, .int .i64 p.high, .int .i64 p.low, .int .i64 p.every]
end Go.Proofs.YtjfjniebmdafeaaDoor
end
section
namespace Go.Proofs.YtjfjniebmdafeaaDoor
open Go.Ev
theorem qev (k : Nat) (a0 a1 a2 : Int) : go (k + 1) spec_BorderOk [(.agg [(.int .i64 (a0)), (.int .i64 (a1)), (.int .i64 (a2))])] =
 (go k spec_l01In [(.int .i64 (a0)), (.int .i64 (0 : Int)), (.int .i64 ((10000 : Int)))]).bind fun r0 =>
 cond (bit (nth r0 0))
 ((go k spec_l01In [(.int .i64 (a1)), (.int .i64 (0 : Int)), (.int .i64 ((1000 : Int)))]).bind fun r1 =>
 cond (bit (nth r1 0))
 ((go k spec_l01In [(.int .i64 (a2)), (.int .i64 (0 : Int)), (.int .i64 ((250 : Int)))]).bind fun r2 =>
 some [(.bool (bit (nth r2 0)))])
 (some [(.bool (false))]))
 (some [(.bool (false))]) := by kernel_rfl
theorem qd7 (k : Nat) (a0 a1 a2 : Int) : go (k + 1) impl_BorderOk [(.agg [(.int .i64 (a0)), (.int .i64 (a1)), (.int .i64 (a2))])] =
 (go k impl_within [(.int .i64 (a0)), (.int .i64 (0 : Int)), (.int .i64 ((10000 : Int)))]).bind fun r0 =>
 cond (bit (nth r0 0))
 ((go k impl_within [(.int .i64 (a1)), (.int .i64 (0 : Int)), (.int .i64 ((1000 : Int)))]).bind fun r1 =>
 cond (bit (nth r1 0))
 ((go k impl_within [(.int .i64 (a2)), (.int .i64 (0 : Int)), (.int .i64 ((250 : Int)))]).bind fun r2 =>
 some [(.bool (bit (nth r2 0)))])
 (some [(.bool (false))]))
 (some [(.bool (false))]) := by kernel_rfl
theorem qek (k : Nat) (a : Int) : go (k + 1) impl_isRain [(.int .i64 (a))] =
 (go k impl_within [(.int .i64 (a)), (.int .i64 (0 : Int)), (.int .i64 ((10000 : Int)))]).bind fun r0 =>
 some [(.bool (bit (nth r0 0)))] := by kernel_rfl
theorem qel (k : Nat) (a : Int) : go (k + 1) impl_isRate [(.int .i64 (a))] =
 (go k impl_within [(.int .i64 (a)), (.int .i64 (0 : Int)), (.int .i64 ((1000 : Int)))]).bind fun r0 =>
 some [(.bool (bit (nth r0 0)))] := by kernel_rfl
theorem qe1 (k : Nat) (a0 a1 a2 a3 a4 a5 a6 a7 a8 : Int) : go (k + 1) spec_PlanOk [(.agg [(.int .i64 (a0)), (.int .i64 (a1)), (.int .i64 (a2)), (.int .i64 (a3)), (.int .i64 (a4)), (.int .i64 (a5)), (.int .i64 (a6)), (.int .i64 (a7)), (.int .i64 (a8))])] =
 (go k spec_BorderOk [(.agg [(.int .i64 (a0)), (.int .i64 (a1)), (.int .i64 (a2))])]).bind fun r0 =>
 cond (bit (nth r0 0))
 ((go k spec_l01In [(.int .i64 (a3)), (.int .i64 (0 : Int)), (.int .i64 ((10000 : Int)))]).bind fun r1 =>
 cond (bit (nth r1 0))
 ((go k spec_l01In [(.int .i64 (a4)), (.int .i64 (0 : Int)), (.int .i64 ((10000 : Int)))]).bind fun r2 =>
 cond (bit (nth r2 0))
 ((go k spec_l01In [(.int .i64 (a5)), (.int .i64 (0 : Int)), (.int .i64 ((1000 : Int)))]).bind fun r3 =>
 cond (bit (nth r3 0))
 ((go k spec_l01In [(.int .i64 (a6)), (.int .i64 (0 : Int)), (.int .i64 ((1000000 : Int)))]).bind fun r4 =>
 cond (bit (nth r4 0))
 ((go k spec_l01In [(.int .i64 (a7)), (.int .i64 (0 : Int)), (.int .i64 ((1000000 : Int)))]).bind fun r5 =>
 cond (bit (nth r5 0))
 ((go k spec_l01In [(.int .i64 (a8)), (.int .i64 (0 : Int)), (.int .i64 ((100 : Int)))]).bind fun r6 =>
 some [(.bool (bit (nth r6 0)))])
 (some [(.bool (false))]))
 (some [(.bool (false))]))
 (some [(.bool (false))]))
 (some [(.bool (false))]))
 (some [(.bool (false))]))
 (some [(.bool (false))]) := by kernel_rfl
theorem qe5 (k : Nat) (a0 : Int) (a1z : Bool) (a1 : List (Int × Int × Int)) (a2z : Bool) (a2 : List Int) (a3z : Bool) (a3 : List Int) (a4z : Bool) (a4 : List Int) (b0 b1 b2 b3 b4 b5 b6 b7 b8 : Int) : go (k + 1) spec_WorldNew [(.agg [(.int .i64 (a0)), (.arr false (a1z) (.r3 (a1))), (.arr false (a2z) (.ints .i64 (a2))), (.arr false (a3z) (.ints .i64 (a3))), (.arr false (a4z) (.ints .i64 (a4)))]), (.agg [(.int .i64 (b0)), (.int .i64 (b1)), (.int .i64 (b2)), (.int .i64 (b3)), (.int .i64 (b4)), (.int .i64 (b5)), (.int .i64 (b6)), (.int .i64 (b7)), (.int .i64 (b8))])] =
 (go k spec_StateOk [(.agg [(.int .i64 (a0)), (.arr false (a1z) (.r3 (a1))), (.arr false (a2z) (.ints .i64 (a2))), (.arr false (a3z) (.ints .i64 (a3))), (.arr false (a4z) (.ints .i64 (a4)))])]).bind fun r0 =>
 cond (!bit (nth r0 0))
 (some [(.agg [(.int .i64 (0 : Int)), (.arr true (true) (.r3 ([]))), (.arr true (true) (.ints .i64 ([]))), (.arr true (true) (.ints .i64 ([]))), (.arr true (true) (.ints .i64 ([]))), (.int .i64 (0 : Int)), (.int .i64 (0 : Int)), (.int .i64 (0 : Int)), (.int .i64 (0 : Int)), (.int .i64 (0 : Int)), (.int .i64 (0 : Int)), (.int .i64 (0 : Int)), (.int .i64 (0 : Int)), (.int .i64 (0 : Int)), (.int .i64 (0 : Int)), (.int .i64 (0 : Int)), (.int .i64 (0 : Int)), (.int .i64 (0 : Int)), (.int .i64 (0 : Int)), (.int .i64 (0 : Int)), (.int .i64 (0 : Int))]), (.bool (false))])
 ((go k spec_PlanOk [(.agg [(.int .i64 (b0)), (.int .i64 (b1)), (.int .i64 (b2)), (.int .i64 (b3)), (.int .i64 (b4)), (.int .i64 (b5)), (.int .i64 (b6)), (.int .i64 (b7)), (.int .i64 (b8))])]).bind fun r1 =>
 cond (!bit (nth r1 0))
 (some [(.agg [(.int .i64 (0 : Int)), (.arr true (true) (.r3 ([]))), (.arr true (true) (.ints .i64 ([]))), (.arr true (true) (.ints .i64 ([]))), (.arr true (true) (.ints .i64 ([]))), (.int .i64 (0 : Int)), (.int .i64 (0 : Int)), (.int .i64 (0 : Int)), (.int .i64 (0 : Int)), (.int .i64 (0 : Int)), (.int .i64 (0 : Int)), (.int .i64 (0 : Int)), (.int .i64 (0 : Int)), (.int .i64 (0 : Int)), (.int .i64 (0 : Int)), (.int .i64 (0 : Int)), (.int .i64 (0 : Int)), (.int .i64 (0 : Int)), (.int .i64 (0 : Int)), (.int .i64 (0 : Int)), (.int .i64 (0 : Int))]), (.bool (false))])
 ((go k spec_l07Copy [(.agg [(.int .i64 (a0)), (.arr false (a1z) (.r3 (a1))), (.arr false (a2z) (.ints .i64 (a2))), (.arr false (a3z) (.ints .i64 (a3))), (.arr false (a4z) (.ints .i64 (a4)))])]).bind fun r2 =>
 (go k spec_l07Sum [(.arr false (a2z) (.ints .i64 (a2)))]).bind fun r3 =>
 (go k spec_l07Sum [(.arr false (a3z) (.ints .i64 (a3)))]).bind fun r4 =>
 some [(.agg [(.int .i64 (D.toInt (D.cell 0 (nth r2 0)))), (.arr true (D.nil (D.cell 1 (nth r2 0))) (.r3 (D.r3 (D.cell 1 (nth r2 0))))), (.arr true (D.nil (D.cell 2 (nth r2 0))) (.ints .i64 (D.ints (D.cell 2 (nth r2 0))))), (.arr true (D.nil (D.cell 3 (nth r2 0))) (.ints .i64 (D.ints (D.cell 3 (nth r2 0))))), (.arr true (D.nil (D.cell 4 (nth r2 0))) (.ints .i64 (D.ints (D.cell 4 (nth r2 0))))), (.int .i64 (b0)), (.int .i64 (b1)), (.int .i64 (b2)), (.int .i64 (b3)), (.int .i64 (b4)), (.int .i64 (b5)), (.int .i64 (b6)), (.int .i64 (b7)), (.int .i64 (b8)), (.int .i64 (0 : Int)), (.int .i64 (0 : Int)), (.int .i64 (0 : Int)), (.int .i64 (0 : Int)), (.int .i64 (0 : Int)), (.int .i64 (D.toInt (nth r3 0))), (.int .i64 (D.toInt (nth r4 0)))]), (.bool (true))])) := by kernel_rfl

end Go.Proofs.YtjfjniebmdafeaaDoor
end
section
namespace Go.Proofs.YtjfjniebmdafeaaDoor
open Go.Ev
def qa8 (a b c : Int) : Bool := inR a 0 10000 && (inR b 0 1000 && inR c 0 250)
theorem qbz (k : Nat) (hk : 2000000 ≤ k) (a0 : Int) (a1 : Int) (a2 : Int) : go (k + 2) spec_BorderOk [(.agg [(.int .i64 (a0)), (.int .i64 (a1)), (.int .i64 (a2))])] = some [.bool (qa8 a0 a1 a2)] := by
  rw [qev]
  simp (disch := omega) only [qa4, nth0, nth1, nth2, nth3, bit, qcy, qcz, qda, qdf, qdg, qdh, qdi, qdj, qdk, qdl, qc0, qc1, qc2, qc3, qc4, qc5, qc6, qc7, qc8, qc9, qdb, qdc, qdd, qde, qkt, qks, qku, qip, qjf, qjh, qgi, qa7, qkn, nI, qdu, qds, Bool.not_true, Bool.not_false, Bool.and_true, Bool.true_and, Bool.and_false, Bool.false_and, Bool.or_true, Bool.true_or, Bool.or_false, Bool.false_or, beq_self_eq_true, dTT, dFF, dT, dF, bigI, big0, qio, qk7, qk8, List.length_set, List.length_replicate, Int.toNat_natCast, qcw, qcx, imax, imin, qcd, qdw]
  rfl
theorem qbd (k : Nat) (hk : 2000000 ≤ k) (a0 : Int) (a1 : Int) (a2 : Int) : go (k + 2) impl_BorderOk [(.agg [(.int .i64 (a0)), (.int .i64 (a1)), (.int .i64 (a2))])] = some [.bool (qa8 a0 a1 a2)] := by
  rw [qd7]
  simp (disch := omega) only [qa4, nth0, nth1, nth2, nth3, bit, qcy, qcz, qda, qdf, qdg, qdh, qdi, qdj, qdk, qdl, qc0, qc1, qc2, qc3, qc4, qc5, qc6, qc7, qc8, qc9, qdb, qdc, qdd, qde, qkt, qks, qku, qip, qjf, qjh, qgi, qa7, qkn, nI, qdu, qds, Bool.not_true, Bool.not_false, Bool.and_true, Bool.true_and, Bool.and_false, Bool.false_and, Bool.or_true, Bool.true_or, Bool.or_false, Bool.false_or, beq_self_eq_true, dTT, dFF, dT, dF, bigI, big0, qio, qk7, qk8, List.length_set, List.length_replicate, Int.toNat_natCast, qcw, qcx, imax, imin, qbu, qdw]
  rfl
theorem qbq (k : Nat) (hk : 2000000 ≤ k) (a : Int) : go (k + 2) impl_isRain [(.int .i64 (a))] = some [.bool (inR a 0 10000)] := by
  rw [qek]
  simp (disch := omega) only [qa4, nth0, nth1, nth2, nth3, bit, qcy, qcz, qda, qdf, qdg, qdh, qdi, qdj, qdk, qdl, qc0, qc1, qc2, qc3, qc4, qc5, qc6, qc7, qc8, qc9, qdb, qdc, qdd, qde, qkt, qks, qku, qip, qjf, qjh, qgi, qa7, qkn, nI, qdu, qds, Bool.not_true, Bool.not_false, Bool.and_true, Bool.true_and, Bool.and_false, Bool.false_and, Bool.or_true, Bool.true_or, Bool.or_false, Bool.false_or, beq_self_eq_true, dTT, dFF, dT, dF, bigI, big0, qio, qk7, qk8, List.length_set, List.length_replicate, Int.toNat_natCast, qcw, qcx, imax, imin, qbu]
theorem qbr (k : Nat) (hk : 2000000 ≤ k) (a : Int) : go (k + 2) impl_isRate [(.int .i64 (a))] = some [.bool (inR a 0 1000)] := by
  rw [qel]
  simp (disch := omega) only [qa4, nth0, nth1, nth2, nth3, bit, qcy, qcz, qda, qdf, qdg, qdh, qdi, qdj, qdk, qdl, qc0, qc1, qc2, qc3, qc4, qc5, qc6, qc7, qc8, qc9, qdb, qdc, qdd, qde, qkt, qks, qku, qip, qjf, qjh, qgi, qa7, qkn, nI, qdu, qds, Bool.not_true, Bool.not_false, Bool.and_true, Bool.true_and, Bool.and_false, Bool.false_and, Bool.or_true, Bool.true_or, Bool.or_false, Bool.false_or, beq_self_eq_true, dTT, dFF, dT, dF, bigI, big0, qio, qk7, qk8, List.length_set, List.length_replicate, Int.toNat_natCast, qcw, qcx, imax, imin, qbu]
def qi6 (a0 a1 a2 a3 a4 a5 a6 a7 a8 : Int) : Bool := qa8 a0 a1 a2 && (inR a3 0 10000 && (inR a4 0 10000 && (inR a5 0 1000 && (inR a6 0 1000000 && (inR a7 0 1000000 && inR a8 0 100)))))
theorem qb5 (k : Nat) (hk : 2000000 ≤ k) (a0 : Int) (a1 : Int) (a2 : Int) (a3 : Int) (a4 : Int) (a5 : Int) (a6 : Int) (a7 : Int) (a8 : Int) : go (k + 3) spec_PlanOk [(.agg [(.int .i64 (a0)), (.int .i64 (a1)), (.int .i64 (a2)), (.int .i64 (a3)), (.int .i64 (a4)), (.int .i64 (a5)), (.int .i64 (a6)), (.int .i64 (a7)), (.int .i64 (a8))])] = some [.bool (qi6 a0 a1 a2 a3 a4 a5 a6 a7 a8)] := by
  rw [qe1]
  simp (disch := omega) only [qa4, nth0, nth1, nth2, nth3, bit, qcy, qcz, qda, qdf, qdg, qdh, qdi, qdj, qdk, qdl, qc0, qc1, qc2, qc3, qc4, qc5, qc6, qc7, qc8, qc9, qdb, qdc, qdd, qde, qkt, qks, qku, qip, qjf, qjh, qgi, qa7, qkn, nI, qdu, qds, Bool.not_true, Bool.not_false, Bool.and_true, Bool.true_and, Bool.and_false, Bool.false_and, Bool.or_true, Bool.true_or, Bool.or_false, Bool.false_or, beq_self_eq_true, dTT, dFF, dT, dF, bigI, big0, qio, qk7, qk8, List.length_set, List.length_replicate, Int.toNat_natCast, qcw, qcx, imax, imin, qcd, qbz, qdw]
  rfl
def qfq : D := .agg [.int .i64 0, .arr true true (.r3 []), .arr true true (.ints .i64 []), .arr true true (.ints .i64 []), .arr true true (.ints .i64 []), .int .i64 0, .int .i64 0, .int .i64 0, .int .i64 0, .int .i64 0, .int .i64 0, .int .i64 0, .int .i64 0, .int .i64 0, .int .i64 0, .int .i64 0, .int .i64 0, .int .i64 0, .int .i64 0, .int .i64 0, .int .i64 0]
def newW (r : Int) (l : List Cell) (m t b : List Int) (b0 b1 b2 b3 b4 b5 b6 b7 b8 : Int) : D := .agg [.int .i64 r, .arr true false (.r3 l), .arr true false (.ints .i64 m), .arr true false (.ints .i64 t), .arr true false (.ints .i64 b), .int .i64 b0, .int .i64 b1, .int .i64 b2, .int .i64 b3, .int .i64 b4, .int .i64 b5, .int .i64 b6, .int .i64 b7, .int .i64 b8, .int .i64 0, .int .i64 0, .int .i64 0, .int .i64 0, .int .i64 0, .int .i64 (isum m), .int .i64 (isum t)]
theorem qb9 (k : Nat) (hk : 2000000 ≤ k) (a0 : Int) (a1 : List Cell) (a2 a3 a4 : List Int) (b0 b1 b2 b3 b4 b5 b6 b7 b8 : Int) (h1 : (a1.length : Int) ≤ 1048576) (h4 : (a4.length : Int) ≤ 1048576) :
    go (k + 8) spec_WorldNew [.agg [.int .i64 a0, .arr false false (.r3 a1), .arr false false (.ints .i64 a2), .arr false false (.ints .i64 a3), .arr false false (.ints .i64 a4)], .agg [.int .i64 b0, .int .i64 b1, .int .i64 b2, .int .i64 b3, .int .i64 b4, .int .i64 b5, .int .i64 b6, .int .i64 b7, .int .i64 b8]] =
    cond (stOk a0 a1 a2 a3 a4 && qi6 b0 b1 b2 b3 b4 b5 b6 b7 b8) (some [newW a0 a1 a2 a3 a4 b0 b1 b2 b3 b4 b5 b6 b7 b8, .bool true]) (some [qfq, .bool false]) := by
  rw [qe5]
  simp (disch := omega) only [qa4, nth0, nth1, nth2, nth3, bit, qcy, qcz, qda, qdf, qdg, qdh, qdi, qdj, qdk, qdl, qc0, qc1, qc2, qc3, qc4, qc5, qc6, qc7, qc8, qc9, qdb, qdc, qdd, qde, qkt, qks, qku, qip, qjf, qjh, qgi, qa7, qkn, nI, qdu, qds, Bool.not_true, Bool.not_false, Bool.and_true, Bool.true_and, Bool.and_false, Bool.false_and, Bool.or_true, Bool.true_or, Bool.or_false, Bool.false_or, beq_self_eq_true, dTT, dFF, dT, dF, bigI, big0, qio, qk7, qk8, List.length_set, List.length_replicate, Int.toNat_natCast, qcw, qcx, imax, imin, qb7, qb5]
  cases g : stOk a0 a1 a2 a3 a4
  · rfl
  cases g2 : qi6 b0 b1 b2 b3 b4 b5 b6 b7 b8
  · rfl
  have F := stF.1 g
  have := F.len; have := F.ml; have := F.tl; have := F.bl; have := F.rr
  simp only [Bool.not_true, qds]
  rw [qcp _ (by omega) _ _ (by omega) F.mmem, qcp _ (by omega) _ _ (by omega) F.tmem]
  simp (disch := omega) only [qa4, nth0, nth1, nth2, nth3, bit, qcy, qcz, qda, qdf, qdg, qdh, qdi, qdj, qdk, qdl, qc0, qc1, qc2, qc3, qc4, qc5, qc6, qc7, qc8, qc9, qdb, qdc, qdd, qde, qkt, qks, qku, qip, qjf, qjh, qgi, qa7, qkn, nI, qdu, qds, Bool.not_true, Bool.not_false, Bool.and_true, Bool.true_and, Bool.and_false, Bool.false_and, Bool.or_true, Bool.true_or, Bool.or_false, Bool.false_or, beq_self_eq_true, dTT, dFF, dT, dF, bigI, big0, qio, qk7, qk8, List.length_set, List.length_replicate, Int.toNat_natCast, qcw, qcx, imax, imin, qcn]
  rfl
end Go.Proofs.YtjfjniebmdafeaaDoor
end
section
namespace Go.Proofs.YtjfjniebmdafeaaDoor
open Go.Ev
def qho (a b c d : Int) : Bool := inR a 0 1000000000000000 && (inR b 0 1000000000000000 && (inR c 0 1000000000000000 && inR d 0 1000000000000000))
def qk6 (a0 : Int) (a1 : List Cell) (a2 a3 a4 : List Int) (b0 b1 b2 b3 b4 b5 b6 b7 b8 s c0 c1 c2 c3 f g : Int) : Bool :=
  stOk a0 a1 a2 a3 a4 && (qi6 b0 b1 b2 b3 b4 b5 b6 b7 b8 && (inR s 0 100000 && (qho c0 c1 c2 c3 && (decide (isum a2 - c0 + c1 = f) && decide (isum a3 - c2 + c3 = g)))))
end Go.Proofs.YtjfjniebmdafeaaDoor
end
section
namespace Go.Proofs.YtjfjniebmdafeaaDoor
open Go.Ev
set_option maxRecDepth 20000
structure Wd where
  r : Int
  s : S3
  b : List Int
  p : Pl
  k : Int
  ld : Ld
  f : Int
  g : Int
abbrev wdO (w : Wd) : D := .agg [.int .i64 (w.r), .arr true false (.r3 (w.s.1)), .arr true false (.ints .i64 (w.s.2.1)), .arr true false (.ints .i64 (w.s.2.2)), .arr true false (.ints .i64 (w.b)), .int .i64 (w.p.bi), .int .i64 (w.p.bs), .int .i64 (w.p.bo), .int .i64 (w.p.rain), .int .i64 (w.p.loss), .int .i64 (w.p.dec), .int .i64 (w.p.high), .int .i64 (w.p.low), .int .i64 (w.p.every), .int .i64 (w.k), .int .i64 (w.ld.mi), .int .i64 (w.ld.mo), .int .i64 (w.ld.ti), .int .i64 (w.ld.ou), .int .i64 (w.f), .int .i64 (w.g)]
def wdOk (w : Wd) : Bool := qk6 w.r w.s.1 w.s.2.1 w.s.2.2 w.b w.p.bi w.p.bs w.p.bo w.p.rain w.p.loss w.p.dec w.p.high w.p.low w.p.every w.k w.ld.mi w.ld.mo w.ld.ti w.ld.ou w.f w.g
structure LdB (l : Ld) (B : Int) : Prop where
  mi : 0 ≤ l.mi ∧ l.mi ≤ B
  mo : 0 ≤ l.mo ∧ l.mo ≤ B
  ti : 0 ≤ l.ti ∧ l.ti ≤ B
  ou : 0 ≤ l.ou ∧ l.ou ≤ B
end Go.Proofs.YtjfjniebmdafeaaDoor
end
section
namespace Go.Proofs.YtjfjniebmdafeaaDoor
open Go.Ev
set_option maxRecDepth 20000
def sgl (c d : Int) : Bool := decide (c = 0) && decide (d = 0)
def qag (a b c d : Int) : Bool := cond (decide (a = 1)) (sgl c d && inR b 1 20) (cond (decide (a = 2)) (sgl c d && inR b 0 10000) (cond (decide (a = 3)) (sgl c d && inR b 0 10000) (cond (decide (a = 4)) (qa8 b c d) (cond (decide (a = 5)) (sgl c d && inR b 0 1000) (cond (decide (a = 6)) (inR b 0 1000000 && (inR c 0 1000000 && inR d 0 100)) (cond (decide (a = 7)) (inR b 0 127 && (inR c 1 10000 && inR d 0 1000)) false))))))
set_option maxHeartbeats 2000000 in
theorem qbc (k : Nat) (hk : 2000000 ≤ k) (a0 : Int) (a1 : Int) (a2 : Int) (a3 : Int) : go (k + 3) impl_ActOk [(.agg [(.int .i64 (a0)), (.int .i64 (a1)), (.int .i64 (a2)), (.int .i64 (a3))])] = some [.bool (qag a0 a1 a2 a3)] := by
  rw [qd6]
  unfold qag sgl
  by_cases hc : a2 = 0 <;> by_cases hd : a3 = 0
  all_goals
    by_cases h1 : a0 = 1
    · simp (disch := omega) only [qa4, nth0, nth1, nth2, nth3, bit, qcy, qcz, qda, qdf, qdg, qdh, qdi, qdj, qdk, qdl, qc0, qc1, qc2, qc3, qc4, qc5, qc6, qc7, qc8, qc9, qdb, qdc, qdd, qde, qkt, qks, qku, qip, qjf, qjh, qgi, qa7, qkn, nI, qdu, qds, Bool.not_true, Bool.not_false, Bool.and_true, Bool.true_and, Bool.and_false, Bool.false_and, Bool.or_true, Bool.true_or, Bool.or_false, Bool.false_or, beq_self_eq_true, dTT, dFF, dT, dF, bigI, big0, qio, qk7, qk8, List.length_set, List.length_replicate, Int.toNat_natCast, qcw, qcx, imax, imin, qbu]
    by_cases h2 : a0 = 2
    · simp (disch := omega) only [qa4, nth0, nth1, nth2, nth3, bit, qcy, qcz, qda, qdf, qdg, qdh, qdi, qdj, qdk, qdl, qc0, qc1, qc2, qc3, qc4, qc5, qc6, qc7, qc8, qc9, qdb, qdc, qdd, qde, qkt, qks, qku, qip, qjf, qjh, qgi, qa7, qkn, nI, qdu, qds, Bool.not_true, Bool.not_false, Bool.and_true, Bool.true_and, Bool.and_false, Bool.false_and, Bool.or_true, Bool.true_or, Bool.or_false, Bool.false_or, beq_self_eq_true, dTT, dFF, dT, dF, bigI, big0, qio, qk7, qk8, List.length_set, List.length_replicate, Int.toNat_natCast, qcw, qcx, imax, imin, qbq]
    by_cases h3 : a0 = 3
    · simp (disch := omega) only [qa4, nth0, nth1, nth2, nth3, bit, qcy, qcz, qda, qdf, qdg, qdh, qdi, qdj, qdk, qdl, qc0, qc1, qc2, qc3, qc4, qc5, qc6, qc7, qc8, qc9, qdb, qdc, qdd, qde, qkt, qks, qku, qip, qjf, qjh, qgi, qa7, qkn, nI, qdu, qds, Bool.not_true, Bool.not_false, Bool.and_true, Bool.true_and, Bool.and_false, Bool.false_and, Bool.or_true, Bool.true_or, Bool.or_false, Bool.false_or, beq_self_eq_true, dTT, dFF, dT, dF, bigI, big0, qio, qk7, qk8, List.length_set, List.length_replicate, Int.toNat_natCast, qcw, qcx, imax, imin, qbq]
    by_cases h4 : a0 = 4
    · simp (disch := omega) only [qa4, nth0, nth1, nth2, nth3, bit, qcy, qcz, qda, qdf, qdg, qdh, qdi, qdj, qdk, qdl, qc0, qc1, qc2, qc3, qc4, qc5, qc6, qc7, qc8, qc9, qdb, qdc, qdd, qde, qkt, qks, qku, qip, qjf, qjh, qgi, qa7, qkn, nI, qdu, qds, Bool.not_true, Bool.not_false, Bool.and_true, Bool.true_and, Bool.and_false, Bool.false_and, Bool.or_true, Bool.true_or, Bool.or_false, Bool.false_or, beq_self_eq_true, dTT, dFF, dT, dF, bigI, big0, qio, qk7, qk8, List.length_set, List.length_replicate, Int.toNat_natCast, qcw, qcx, imax, imin, qbd]
    by_cases h5 : a0 = 5
    · simp (disch := omega) only [qa4, nth0, nth1, nth2, nth3, bit, qcy, qcz, qda, qdf, qdg, qdh, qdi, qdj, qdk, qdl, qc0, qc1, qc2, qc3, qc4, qc5, qc6, qc7, qc8, qc9, qdb, qdc, qdd, qde, qkt, qks, qku, qip, qjf, qjh, qgi, qa7, qkn, nI, qdu, qds, Bool.not_true, Bool.not_false, Bool.and_true, Bool.true_and, Bool.and_false, Bool.false_and, Bool.or_true, Bool.true_or, Bool.or_false, Bool.false_or, beq_self_eq_true, dTT, dFF, dT, dF, bigI, big0, qio, qk7, qk8, List.length_set, List.length_replicate, Int.toNat_natCast, qcw, qcx, imax, imin, qbr]
    by_cases h6 : a0 = 6
    · simp (disch := omega) only [qa4, nth0, nth1, nth2, nth3, bit, qcy, qcz, qda, qdf, qdg, qdh, qdi, qdj, qdk, qdl, qc0, qc1, qc2, qc3, qc4, qc5, qc6, qc7, qc8, qc9, qdb, qdc, qdd, qde, qkt, qks, qku, qip, qjf, qjh, qgi, qa7, qkn, nI, qdu, qds, Bool.not_true, Bool.not_false, Bool.and_true, Bool.true_and, Bool.and_false, Bool.false_and, Bool.or_true, Bool.true_or, Bool.or_false, Bool.false_or, beq_self_eq_true, dTT, dFF, dT, dF, bigI, big0, qio, qk7, qk8, List.length_set, List.length_replicate, Int.toNat_natCast, qcw, qcx, imax, imin, qbu, qdw]
    by_cases h7 : a0 = 7
    · simp (disch := omega) only [qa4, nth0, nth1, nth2, nth3, bit, qcy, qcz, qda, qdf, qdg, qdh, qdi, qdj, qdk, qdl, qc0, qc1, qc2, qc3, qc4, qc5, qc6, qc7, qc8, qc9, qdb, qdc, qdd, qde, qkt, qks, qku, qip, qjf, qjh, qgi, qa7, qkn, nI, qdu, qds, Bool.not_true, Bool.not_false, Bool.and_true, Bool.true_and, Bool.and_false, Bool.false_and, Bool.or_true, Bool.true_or, Bool.or_false, Bool.false_or, beq_self_eq_true, dTT, dFF, dT, dF, bigI, big0, qio, qk7, qk8, List.length_set, List.length_replicate, Int.toNat_natCast, qcw, qcx, imax, imin, qbu, qdw]
    simp (disch := omega) only [qa4, nth0, nth1, nth2, nth3, bit, qcy, qcz, qda, qdf, qdg, qdh, qdi, qdj, qdk, qdl, qc0, qc1, qc2, qc3, qc4, qc5, qc6, qc7, qc8, qc9, qdb, qdc, qdd, qde, qkt, qks, qku, qip, qjf, qjh, qgi, qa7, qkn, nI, qdu, qds, Bool.not_true, Bool.not_false, Bool.and_true, Bool.true_and, Bool.and_false, Bool.false_and, Bool.or_true, Bool.true_or, Bool.or_false, Bool.false_or, beq_self_eq_true, dTT, dFF, dT, dF, bigI, big0, qio, qk7, qk8, List.length_set, List.length_replicate, Int.toNat_natCast, qcw, qcx, imax, imin]
end Go.Proofs.YtjfjniebmdafeaaDoor
end
section
namespace Go.Proofs.YtjfjniebmdafeaaDoor
open Go.Ev
set_option maxRecDepth 20000
def nmB (a : Int) : List UInt8 := if a = 1 then [114, 117, 110] else if a = 2 then [114, 97, 105, 110] else if a = 3 then [108, 111, 115, 115] else if a = 4 then [102, 108, 111, 119] else if a = 5 then [100, 101, 99, 97, 121] else if a = 6 then [109, 101, 115, 104] else [100, 114, 111, 112]
def actL (a b c d : Int) : List UInt8 := if a = 4 ∨ a = 6 ∨ a = 7 then spacedL (nmB a) [b, c, d] else spacedL (nmB a) [b]
theorem qak {a : Int} (h : 1 ≤ a ∧ a ≤ 7) : a = 1 ∨ a = 2 ∨ a = 3 ∨ a = 4 ∨ a = 5 ∨ a = 6 ∨ a = 7 := by omega
theorem qai {a b c d : Int} (h : qag a b c d = true) : 1 ≤ a ∧ a ≤ 7 := by
  unfold qag at h
  refine Classical.byContradiction fun hh => ?_
  have n1 : ¬ a = 1 := by omega
  have n2 : ¬ a = 2 := by omega
  have n3 : ¬ a = 3 := by omega
  have n4 : ¬ a = 4 := by omega
  have n5 : ¬ a = 5 := by omega
  have n6 : ¬ a = 6 := by omega
  have n7 : ¬ a = 7 := by omega
  simp [n1, n2, n3, n4, n5, n6, n7] at h
theorem qah {a b c d : Int} (h : qag a b c d = true) : (1 ≤ a ∧ a ≤ 7) ∧ (0 ≤ b ∧ b ≤ 1000000) ∧ (0 ≤ c ∧ c ≤ 1000000) ∧ 0 ≤ d ∧ d ≤ 1000000 := by
  have k := qai h
  refine ⟨k, ?_⟩
  rcases qak k with rfl | rfl | rfl | rfl | rfl | rfl | rfl <;> simp [qag, sgl, qa8, inR] at h <;> omega
theorem in64 {x : Int} (h : 0 ≤ x ∧ x ≤ 1000000) : inI64 x = true := by
  unfold inI64; rw [decide_eq_true (by omega : -9223372036854775808 ≤ x), decide_eq_true (by omega : x ≤ 9223372036854775807)]; rfl
theorem y1 : ({ data := #[(32 : UInt8)] } : ByteArray) = ba [32] := Eq.trans rfl rfl
theorem y2 : ({ data := #[(114 : UInt8), (117 : UInt8), (110 : UInt8)] } : ByteArray) = ba [114, 117, 110] := Eq.trans rfl rfl
theorem y9 : ({ data := #[(10 : UInt8)] } : ByteArray) = ba [10] := Eq.trans rfl rfl
theorem y0 : ({ data := #[] } : ByteArray) = ba [] := Eq.trans rfl rfl
def NM : List ByteArray := [ba [], ba [114, 117, 110], ba [114, 97, 105, 110], ba [108, 111, 115, 115], ba [102, 108, 111, 119], ba [100, 101, 99, 97, 121], ba [109, 101, 115, 104], ba [100, 114, 111, 112]]
theorem qac : NM.length = 8 := Eq.trans rfl rfl
theorem qab {a : Int} (h : 1 ≤ a ∧ a ≤ 7) : List.getD NM (Int.toNat a) ByteArray.empty = ba (nmB a) := by
  rcases qak h with rfl | rfl | rfl | rfl | rfl | rfl | rfl <;> rfl
theorem qiq (a : Int) : ByteArray.size (ba (nmB a)) ≤ 1000 := by
  rw [qax]; unfold nmB
  repeat' split
  all_goals simp
theorem qbn (k : Nat) : go (k + 1) impl_actNames [] = some [.arr true false (.strs NM)] := by
  rw [qeh]; rfl
theorem qbe (k : Nat) (hk : 2000000 ≤ k) (a b c d : Int) : go (k + 4) impl_FormatAct [.agg [.int .i64 a, .int .i64 b, .int .i64 c, .int .i64 d]] = cond (qag a b c d) (some [.str (ba (actL a b c d)), .bool true]) (some [.str (ba []), .bool false]) := by
  rw [qd8]
  cases g : qag a b c d
  · simp (disch := omega) only [qa4, nth0, nth1, nth2, nth3, bit, qcy, qcz, qda, qdf, qdg, qdh, qdi, qdj, qdk, qdl, qc0, qc1, qc2, qc3, qc4, qc5, qc6, qc7, qc8, qc9, qdb, qdc, qdd, qde, qkt, qks, qku, qip, qjf, qjh, qgi, qa7, qkn, nI, qdu, qds, Bool.not_true, Bool.not_false, Bool.and_true, Bool.true_and, Bool.and_false, Bool.false_and, Bool.or_true, Bool.true_or, Bool.or_false, Bool.false_or, beq_self_eq_true, dTT, dFF, dT, dF, bigI, big0, qio, qk7, qk8, List.length_set, List.length_replicate, Int.toNat_natCast, qcw, qcx, imax, imin, qbc, g, y0]
  have bd := qah g
  have na := qab bd.1
  have nl : ((NM.length : Nat) : Int) = 8 := by rw [qac]; rfl
  have s1 := qbt (k + 2) (ba (nmB a)) false [b] (qiq a) (by simp) (by simp [in64 bd.2.1])
  have s3 := qbt (k + 2) (ba (nmB a)) false [b, c, d] (qiq a) (by simp) (by simp [in64 bd.2.1, in64 bd.2.2.1, in64 bd.2.2.2])
  rw [qaw] at s1 s3
  by_cases h : a = 4 ∨ a = 6 ∨ a = 7
  · have e : actL a b c d = spacedL (nmB a) [b, c, d] := if_pos h
    rw [e]
    rcases h with h | h | h
    · simp (disch := omega) only [qa4, nth0, nth1, nth2, nth3, bit, qcy, qcz, qda, qdf, qdg, qdh, qdi, qdj, qdk, qdl, qc0, qc1, qc2, qc3, qc4, qc5, qc6, qc7, qc8, qc9, qdb, qdc, qdd, qde, qkt, qks, qku, qip, qjf, qjh, qgi, qa7, qkn, nI, qdu, qds, Bool.not_true, Bool.not_false, Bool.and_true, Bool.true_and, Bool.and_false, Bool.false_and, Bool.or_true, Bool.true_or, Bool.or_false, Bool.false_or, beq_self_eq_true, dTT, dFF, dT, dF, bigI, big0, qio, qk7, qk8, List.length_set, List.length_replicate, Int.toNat_natCast, qcw, qcx, imax, imin, qbc, g, qem, qbn, na, nl, s3, qkn]
    · simp (disch := omega) only [qa4, nth0, nth1, nth2, nth3, bit, qcy, qcz, qda, qdf, qdg, qdh, qdi, qdj, qdk, qdl, qc0, qc1, qc2, qc3, qc4, qc5, qc6, qc7, qc8, qc9, qdb, qdc, qdd, qde, qkt, qks, qku, qip, qjf, qjh, qgi, qa7, qkn, nI, qdu, qds, Bool.not_true, Bool.not_false, Bool.and_true, Bool.true_and, Bool.and_false, Bool.false_and, Bool.or_true, Bool.true_or, Bool.or_false, Bool.false_or, beq_self_eq_true, dTT, dFF, dT, dF, bigI, big0, qio, qk7, qk8, List.length_set, List.length_replicate, Int.toNat_natCast, qcw, qcx, imax, imin, qbc, g, qem, qbn, na, nl, s3, qkn]
    · simp (disch := omega) only [qa4, nth0, nth1, nth2, nth3, bit, qcy, qcz, qda, qdf, qdg, qdh, qdi, qdj, qdk, qdl, qc0, qc1, qc2, qc3, qc4, qc5, qc6, qc7, qc8, qc9, qdb, qdc, qdd, qde, qkt, qks, qku, qip, qjf, qjh, qgi, qa7, qkn, nI, qdu, qds, Bool.not_true, Bool.not_false, Bool.and_true, Bool.true_and, Bool.and_false, Bool.false_and, Bool.or_true, Bool.true_or, Bool.or_false, Bool.false_or, beq_self_eq_true, dTT, dFF, dT, dF, bigI, big0, qio, qk7, qk8, List.length_set, List.length_replicate, Int.toNat_natCast, qcw, qcx, imax, imin, qbc, g, qem, qbn, na, nl, s3, qkn]
  · have e : actL a b c d = spacedL (nmB a) [b] := if_neg h
    rw [e]
    simp (disch := omega) only [qa4, nth0, nth1, nth2, nth3, bit, qcy, qcz, qda, qdf, qdg, qdh, qdi, qdj, qdk, qdl, qc0, qc1, qc2, qc3, qc4, qc5, qc6, qc7, qc8, qc9, qdb, qdc, qdd, qde, qkt, qks, qku, qip, qjf, qjh, qgi, qa7, qkn, nI, qdu, qds, Bool.not_true, Bool.not_false, Bool.and_true, Bool.true_and, Bool.and_false, Bool.false_and, Bool.or_true, Bool.true_or, Bool.or_false, Bool.false_or, beq_self_eq_true, dTT, dFF, dT, dF, bigI, big0, qio, qk7, qk8, List.length_set, List.length_replicate, Int.toNat_natCast, qcw, qcx, imax, imin, qbc, g, qem, qbn, na, nl, s1, qkn]
end Go.Proofs.YtjfjniebmdafeaaDoor
end
section
namespace Go.Proofs.YtjfjniebmdafeaaDoor
open Go.Ev
abbrev okc (b : UInt8) : Bool := decide (32 ≤ b.toNat) && decide (b.toNat ≤ 126)
abbrev wdc (b : UInt8) : Bool := decide (33 ≤ b.toNat) && decide (b.toNat ≤ 126)
def isWd (w : List UInt8) : Bool := !w.isEmpty && w.all wdc
theorem qj9 {b : UInt8} (h : wdc b = true) : Lib.isSp b = false := by
  simp only [wdc, Bool.and_eq_true, decide_eq_true_eq] at h
  unfold Lib.isSp
  have n : ∀ k : UInt8, k.toNat < 33 → (b == k) = false := fun k hk => by
    rw [beq_eq_false_iff_ne]; rintro rfl; omega
  rw [n 9 (by decide), n 10 (by decide), n 11 (by decide), n 12 (by decide), n 13 (by decide), n 32 (by decide)]; rfl
theorem qj8 : Lib.isSp 32 = true := by decide
theorem qi1 {b : UInt8} (h : okc b = true) (n : ¬ b = 32) : wdc b = true := by
  simp only [okc, wdc, Bool.and_eq_true, decide_eq_true_eq] at h ⊢
  have : b.toNat ≠ 32 := fun e => n (UInt8.toNat_inj.1 e)
  omega
theorem qf9 : ∀ (w cur rest : List UInt8), w.all wdc = true → Lib.fieldsGo cur (w ++ rest) = Lib.fieldsGo (cur ++ w) rest
  | [], cur, rest, h => by simp
  | b :: w, cur, rest, h => by
    rw [List.all_cons, Bool.and_eq_true] at h
    rw [List.cons_append, Lib.fieldsGo_more _ _ _ (qj9 h.1), qf9 w _ rest h.2, List.append_assoc]; rfl
theorem qf0 : ∀ (r : List (List UInt8)) (x : List UInt8), isWd x = true → r.all isWd = true → Lib.fieldsGo [] (x ++ Lib.joinTail [32] r) = x :: r
  | [], x, hx, hr => by
    simp only [isWd, Bool.and_eq_true] at hx
    rw [qf9 _ _ _ hx.2]
    cases x with
    | nil => simp at hx
    | cons a x => rfl
  | y :: r, x, hx, hr => by
    rw [List.all_cons, Bool.and_eq_true] at hr
    have ih := qf0 r y hr.1 hr.2
    simp only [isWd, Bool.and_eq_true] at hx
    have e : Lib.joinTail [32] (y :: r) = 32 :: (y ++ Lib.joinTail [32] r) := by simp [Lib.joinTail]
    rw [e, qf9 _ _ _ hx.2, List.nil_append, Lib.fieldsGo_end x 32 _ qj8 (by rintro rfl; simp at hx), ih]
theorem qfx (ws : List (List UInt8)) (h : ws.all isWd = true) : Lib.fields (Lib.join ws [32]) = ws := by
  cases ws with
  | nil => rfl
  | cons x r =>
    rw [List.all_cons, Bool.and_eq_true] at h
    rw [Lib.join_cons]
    exact qf0 r x h.1 h.2
theorem qfw : ∀ (l cur : List UInt8), l.all okc = true → cur.all wdc = true → (Lib.fieldsGo cur l).all isWd = true
  | [], cur, hl, hc => by
    cases cur with
    | nil => rfl
    | cons a x => simp only [Lib.fieldsGo, List.isEmpty_cons, Bool.false_eq_true, if_false, List.all_cons, List.all_nil, Bool.and_true, isWd, Bool.not_false, Bool.true_and]; simpa using hc
  | b :: l, cur, hl, hc => by
    rw [List.all_cons, Bool.and_eq_true] at hl
    by_cases g : b = 32
    · subst g
      cases cur with
      | nil => rw [Lib.fieldsGo_sp _ _ qj8]; exact qfw l [] hl.2 rfl
      | cons a x =>
        rw [Lib.fieldsGo_end _ _ _ qj8 (by simp), List.all_cons, qfw l [] hl.2 rfl, Bool.and_true]
        simp only [isWd, List.isEmpty_cons, Bool.not_false, Bool.true_and]; exact hc
    · have w := qi1 hl.1 g
      rw [Lib.fieldsGo_more _ _ _ (qj9 w)]
      refine qfw l _ hl.2 ?_
      rw [List.all_append, hc, List.all_cons, w]; rfl
theorem qf1 {s : List UInt8} (h : s.all okc = true) : (Lib.fields s).all isWd = true := qfw s [] h rfl
theorem qfv : ∀ (l cur : List UInt8), ∀ w ∈ Lib.fieldsGo cur l, w.length ≤ cur.length + l.length
  | [], cur, w, h => by
    cases cur with
    | nil => simp [Lib.fieldsGo] at h
    | cons a x => simp [Lib.fieldsGo] at h; subst h; simp
  | b :: l, cur, w, h => by
    unfold Lib.fieldsGo at h
    split at h
    · split at h
      · have := qfv l [] w h; simp only [List.length_nil, List.length_cons] at *; omega
      · rcases List.mem_cons.1 h with rfl | h
        · omega
        · have := qfv l [] w h; simp only [List.length_nil, List.length_cons] at *; omega
    · have := qfv l _ w h
      simp only [List.length_append, List.length_cons, List.length_nil] at *; omega
theorem qfz {s w : List UInt8} (h : w ∈ Lib.fields s) : w.length ≤ s.length := by
  have := qfv s [] w h; simpa using this
def isDg (b : UInt8) : Bool := decide (48 ≤ b.toNat) && decide (b.toNat ≤ 57)
theorem qd3 (m : Nat) : (UInt8.ofNat (48 + m % 10)).toNat = 48 + m % 10 := by
  rw [UInt8.toNat_ofNat']; omega
theorem qd1 : ∀ (m : Nat), (decD m).all isDg = true := by
  intro m
  induction m using Nat.strongRecOn with
  | _ m ih =>
    rw [decD]
    split
    · rfl
    · rw [List.all_append, ih (m / 10) (by omega), List.all_cons, List.all_nil]
      simp only [isDg, qd3, Bool.and_true, Bool.true_and, Bool.and_eq_true, decide_eq_true_eq]; omega
theorem qd0 : ∀ (x : List UInt8) (acc v : Nat) (c : UInt8), Lib.decFrom acc x = some v → isDg c = true → Lib.decFrom acc (x ++ [c]) = some (v * 10 + (c.toNat - 48))
  | [], acc, v, c, h, hc => by
    simp only [Lib.decFrom, Option.some.injEq] at h
    subst h
    simp only [isDg, Bool.and_eq_true, decide_eq_true_eq] at hc
    simp [Lib.decFrom, Lib.digitVal, hc]
  | b :: x, acc, v, c, h, hc => by
    simp only [List.cons_append, Lib.decFrom] at h ⊢
    split at h
    · exact qd0 x _ v c h hc
    · cases h
theorem qdz : ∀ (m : Nat), Lib.decFrom 0 (decD m) = some m := by
  intro m
  induction m using Nat.strongRecOn with
  | _ m ih =>
    rw [decD]
    split
    · rename_i h; subst h; rfl
    · have d : isDg (UInt8.ofNat (48 + m % 10)) = true := by simp only [isDg, qd3, Bool.and_eq_true, decide_eq_true_eq]; omega
      rw [qd0 _ _ _ _ (ih (m / 10) (by omega)) d, qd3]; congr 1; omega
theorem qd2 {m : Nat} (h : m ≠ 0) : decD m ≠ [] := by
  rw [decD, dif_neg h]; simp
theorem qgq {n : Int} (h : 0 ≤ n) : Lib.itoa n = if n.toNat = 0 then [48] else decD n.toNat := by
  unfold Lib.itoa
  rw [if_neg (by omega)]
  split
  · rename_i e; rw [e]; exact Lib.decDigits_one (by omega)
  · rename_i e; exact (qdy _ e).symm
theorem qgr {n : Int} (h : 0 ≤ n) : (Lib.itoa n).all isDg = true := by
  rw [qgq h]; split
  · rfl
  · exact qd1 _
theorem qgs {n : Int} (h : 0 ≤ n) : Lib.itoa n ≠ [] := by
  rw [qgq h]; split
  · simp
  · rename_i e; exact qd2 e
theorem qd4 {b : UInt8} (h : isDg b = true) : wdc b = true := by
  simp only [isDg, wdc, Bool.and_eq_true, decide_eq_true_eq] at h ⊢; omega
theorem qgu {n : Int} (h : 0 ≤ n) : isWd (Lib.itoa n) = true := by
  unfold isWd
  rw [Bool.and_eq_true]
  refine ⟨by cases e : Lib.itoa n with | nil => exact absurd e (qgs h) | cons _ _ => rfl, ?_⟩
  rw [List.all_eq_true]
  intro b hb
  exact qd4 (List.all_eq_true.1 (qgr h) b hb)
theorem qgo {n : Int} (h : 0 ≤ n ∧ n ≤ 1000000) : atoiV (Lib.itoa n) = n := by
  have l : (Lib.itoa n).length ≤ 18 := by
    rw [qgq h.1]; split
    · simp
    · rename_i e
      rw [qdy _ e, Lib.decDigits_length]
      have := qin 6 n.toNat (by omega)
      omega
  have dn : Lib.decNat (Lib.itoa n) = some n.toNat := by
    have ne := qgs h.1
    unfold Lib.decNat
    rw [if_neg (by cases e : Lib.itoa n with | nil => exact absurd e ne | cons _ _ => simp), qgq h.1]
    split
    · rename_i e; rw [e]; rfl
    · exact qdz _
  have at1 : Lib.atoi (Lib.itoa n) = some n := by
    have dg := qgr h.1
    cases e : Lib.itoa n with
    | nil => exact absurd e (qgs h.1)
    | cons b r =>
      rw [e] at dg dn
      rw [List.all_cons, Bool.and_eq_true] at dg
      have d := dg.1
      simp only [isDg, Bool.and_eq_true, decide_eq_true_eq] at d
      have n1 : (b == 45) = false := by rw [beq_eq_false_iff_ne]; rintro rfl; exact absurd d.1 (by decide)
      have n2 : (b == 43) = false := by rw [beq_eq_false_iff_ne]; rintro rfl; exact absurd d.1 (by decide)
      simp only [Lib.atoi, n1, n2, Bool.false_eq_true, if_false, dn, Option.map_some]
      congr 1; omega
  unfold atoiV
  rw [Lib.atoiAll_short _ l, at1]; rfl
end Go.Proofs.YtjfjniebmdafeaaDoor
end
section
namespace Go.Proofs.YtjfjniebmdafeaaDoor
open Go.Ev
set_option maxRecDepth 20000
abbrev aOk (x : Int × Int × Int × Int) : Bool := qag x.1 x.2.1 x.2.2.1 x.2.2.2
abbrev aL (x : Int × Int × Int × Int) : List UInt8 := actL x.1 x.2.1 x.2.2.1 x.2.2.2
def scrL (l : List (Int × Int × Int × Int)) : List UInt8 := l.flatMap fun x => aL x ++ [10]
theorem qae {x : Int × Int × Int × Int} (h : aOk x = true) : (aL x).length ≤ 70 := by
  have bd := qah h
  have sb := qgt x.2.1 (in64 bd.2.1); have sc := qgt x.2.2.1 (in64 bd.2.2.1); have sd := qgt x.2.2.2 (in64 bd.2.2.2)
  have nl : (nmB x.1).length ≤ 5 := by
    unfold nmB
    repeat' split
    all_goals simp
  unfold aL actL
  split <;> simp [spacedL] <;> omega
theorem qj7 (l : List (Int × Int × Int × Int)) (i : Nat) (h : i < l.length) : scrL (l.take (i + 1)) = scrL (l.take i) ++ (aL (l.getD i zz4) ++ [10]) := by
  have e : l.getD i zz4 = l[i] := by simp [List.getD_eq_getElem?_getD, h]
  unfold scrL
  rw [e, List.take_succ_eq_append_getElem h, List.flatMap_append]
  simp only [List.flatMap_cons, List.flatMap_nil, List.append_nil]
theorem qj6 : ∀ (l : List (Int × Int × Int × Int)), l.all aOk = true → (scrL l).length ≤ 71 * l.length
  | [], h => by simp [scrL]
  | x :: l, h => by
    rw [List.all_cons, Bool.and_eq_true] at h
    have a := qae h.1; have b := qj6 l h.2
    have e : scrL (x :: l) = aL x ++ [10] ++ scrL l := by simp [scrL]
    rw [e]
    simp only [List.length_append, List.length_cons, List.length_nil] at *
    omega
theorem qao {l : List (Int × Int × Int × Int)} {i : Nat} (h : (l.take i).all aOk = true) (hi : i < l.length) (hx : aOk (l.getD i zz4) = true) : (l.take (i + 1)).all aOk = true := by
  have e : l.getD i zz4 = l[i] := by simp [List.getD_eq_getElem?_getD, hi]
  rw [List.take_succ_eq_append_getElem hi, List.all_append, h, ← e, List.all_cons, List.all_nil, hx]
  rfl
def qgg (l : List UInt8) : List Int := l.map fun b => (b.toNat : Int)
theorem qba (l : List UInt8) : bytesL (ba l) = qgg l := Eq.trans rfl rfl
theorem qgj (a : List UInt8) : (qgg a).length = a.length := List.length_map ..
theorem qhu (k : Nat) (hk : 2000000 ≤ k) (fu : List (Nat × Nat)) (z : Bool) (l : List (Int × Int × Int × Int)) (hl : l.length ≤ 30) : ∀ (N i : Nat), i ≤ l.length → l.length - i < N → (l.take i).all aOk = true →
    lp (k + 4) impl_ScriptText [] fu 5 (N) (qjq (ba (scrL (l.take i))) (l.length : Int) (i : Int) z l) = cond ((l.drop i).all aOk) (some [.str (ba (scrL l)), .bool true]) (some [.str (ba []), .bool false])
  | 0, i, hi, hN, ha => by omega
  | N + 1, i, hi, hN, ha => by
    rw [qg7]
    have sl := qj6 (l.take i) ha
    have tl : (l.take i).length = i := by rw [List.length_take]; omega
    by_cases g : i < l.length
    · have f := qbe k (by omega) (l.getD i zz4).1 (l.getD i zz4).2.1 (l.getD i zz4).2.2.1 (l.getD i zz4).2.2.2
      rw [qd5 g zz4, List.all_cons]
      cases h : aOk (l.getD i zz4)
      · rw [show qag (l.getD i zz4).1 (l.getD i zz4).2.1 (l.getD i zz4).2.2.1 (l.getD i zz4).2.2.2 = false from h] at f
        simp (disch := omega) only [qa4, nth0, nth1, nth2, nth3, bit, qcy, qcz, qda, qdf, qdg, qdh, qdi, qdj, qdk, qdl, qc0, qc1, qc2, qc3, qc4, qc5, qc6, qc7, qc8, qc9, qdb, qdc, qdd, qde, qkt, qks, qku, qip, qjf, qjh, qgi, qa7, qkn, nI, qdu, qds, Bool.not_true, Bool.not_false, Bool.and_true, Bool.true_and, Bool.and_false, Bool.false_and, Bool.or_true, Bool.true_or, Bool.or_false, Bool.false_or, beq_self_eq_true, dTT, dFF, dT, dF, bigI, big0, qio, qk7, qk8, List.length_set, List.length_replicate, Int.toNat_natCast, qcw, qcx, imax, imin, f, y0]
      · rw [show qag (l.getD i zz4).1 (l.getD i zz4).2.1 (l.getD i zz4).2.2.1 (l.getD i zz4).2.2.2 = true from h] at f
        have al : (actL (l.getD i zz4).1 (l.getD i zz4).2.1 (l.getD i zz4).2.2.1 (l.getD i zz4).2.2.2).length ≤ 70 := qae h
        have IH := qhu k hk fu z l hl N (i + 1) (by omega) (by omega) (qao ha g h)
        rw [qj7 l i g] at IH
        simp (disch := omega) only [qa4, nth0, nth1, nth2, nth3, bit, qcy, qcz, qda, qdf, qdg, qdh, qdi, qdj, qdk, qdl, qc0, qc1, qc2, qc3, qc4, qc5, qc6, qc7, qc8, qc9, qdb, qdc, qdd, qde, qkt, qks, qku, qip, qjf, qjh, qgi, qa7, qkn, nI, qdu, qds, Bool.not_true, Bool.not_false, Bool.and_true, Bool.true_and, Bool.and_false, Bool.false_and, Bool.or_true, Bool.true_or, Bool.or_false, Bool.false_or, beq_self_eq_true, dTT, dFF, dT, dF, bigI, big0, qio, qk7, qk8, List.length_set, List.length_replicate, Int.toNat_natCast, qcw, qcx, imax, imin, f, y9, qau, qax, List.length_append, List.length_cons, List.length_nil, IH]
    · rw [List.drop_of_length_le (by omega), List.take_of_length_le (by omega)]
      simp (disch := omega) only [qa4, nth0, nth1, nth2, nth3, bit, qcy, qcz, qda, qdf, qdg, qdh, qdi, qdj, qdk, qdl, qc0, qc1, qc2, qc3, qc4, qc5, qc6, qc7, qc8, qc9, qdb, qdc, qdd, qde, qkt, qks, qku, qip, qjf, qjh, qgi, qa7, qkn, nI, qdu, qds, Bool.not_true, Bool.not_false, Bool.and_true, Bool.true_and, Bool.and_false, Bool.false_and, Bool.or_true, Bool.true_or, Bool.or_false, Bool.false_or, beq_self_eq_true, dTT, dFF, dT, dF, bigI, big0, qio, qk7, qk8, List.length_set, List.length_replicate, Int.toNat_natCast, qcw, qcx, imax, imin, List.all_nil]
theorem qbi (k : Nat) (hk : 2000000 ≤ k) (z : Bool) (l : List (Int × Int × Int × Int)) (hl : l.length ≤ 1048576) : go (k + 5) impl_ScriptText [.arr false z (.r4 l)] = cond (decide (l.length ≤ 30) && l.all aOk) (some [.str (ba (scrL l)), .bool true]) (some [.str (ba []), .bool false]) := by
  rw [qec]
  by_cases h : l.length ≤ 30
  · have e := qhu k hk [] z l h (k + 4) 0 (by omega) (by omega) rfl
    rw [List.take_zero, List.drop_zero, show ba (scrL []) = ba [] from rfl, show ((0 : Nat) : Int) = 0 from rfl] at e
    simp (disch := omega) only [qa4, nth0, nth1, nth2, nth3, bit, qcy, qcz, qda, qdf, qdg, qdh, qdi, qdj, qdk, qdl, qc0, qc1, qc2, qc3, qc4, qc5, qc6, qc7, qc8, qc9, qdb, qdc, qdd, qde, qkt, qks, qku, qip, qjf, qjh, qgi, qa7, qkn, nI, qdu, qds, Bool.not_true, Bool.not_false, Bool.and_true, Bool.true_and, Bool.and_false, Bool.false_and, Bool.or_true, Bool.true_or, Bool.or_false, Bool.false_or, beq_self_eq_true, dTT, dFF, dT, dF, bigI, big0, qio, qk7, qk8, List.length_set, List.length_replicate, Int.toNat_natCast, qcw, qcx, imax, imin, y0, e]
  · simp (disch := omega) only [qa4, nth0, nth1, nth2, nth3, bit, qcy, qcz, qda, qdf, qdg, qdh, qdi, qdj, qdk, qdl, qc0, qc1, qc2, qc3, qc4, qc5, qc6, qc7, qc8, qc9, qdb, qdc, qdd, qde, qkt, qks, qku, qip, qjf, qjh, qgi, qa7, qkn, nI, qdu, qds, Bool.not_true, Bool.not_false, Bool.and_true, Bool.true_and, Bool.and_false, Bool.false_and, Bool.or_true, Bool.true_or, Bool.or_false, Bool.false_or, beq_self_eq_true, dTT, dFF, dT, dF, bigI, big0, qio, qk7, qk8, List.length_set, List.length_replicate, Int.toNat_natCast, qcw, qcx, imax, imin, y0]
end Go.Proofs.YtjfjniebmdafeaaDoor
end
section
namespace Go.Proofs.YtjfjniebmdafeaaDoor
open Go.Ev
set_option maxRecDepth 20000
def qkd (s : List UInt8) : Bool := decide (s.length ≤ 600) && (s.all okc && decide ((Lib.fields s).length ≤ 24))
theorem qgh (s : List UInt8) (i : Nat) : (qgg s).getD i 0 = ((s.getD i 0).toNat : Int) := by
  unfold qgg
  rw [List.getD_eq_getElem?_getD, List.getElem?_map, List.getD_eq_getElem?_getD]
  cases s[i]? <;> rfl
theorem qi0 (b : UInt8) : okc b = (decide ((32 : Int) ≤ (b.toNat : Int)) && decide ((b.toNat : Int) ≤ 126)) := by
  unfold okc
  congr 1 <;> rw [decide_eq_decide] <;> omega
theorem qbk (k : Nat) (hk : 2000000 ≤ k) (b : UInt8) : go (k + 1) impl_SplitFields_1 [.int .u8 (b.toNat : Int)] = some [.bool (!okc b)] := by
  rw [qee, qi0]
  by_cases h1 : (b.toNat : Int) < 32
  · simp (disch := omega) only [qa4, nth0, nth1, nth2, nth3, bit, qcy, qcz, qda, qdf, qdg, qdh, qdi, qdj, qdk, qdl, qc0, qc1, qc2, qc3, qc4, qc5, qc6, qc7, qc8, qc9, qdb, qdc, qdd, qde, qkt, qks, qku, qip, qjf, qjh, qgi, qa7, qkn, nI, qdu, qds, Bool.not_true, Bool.not_false, Bool.and_true, Bool.true_and, Bool.and_false, Bool.false_and, Bool.or_true, Bool.true_or, Bool.or_false, Bool.false_or, beq_self_eq_true, dTT, dFF, dT, dF, bigI, big0, qio, qk7, qk8, List.length_set, List.length_replicate, Int.toNat_natCast, qcw, qcx, imax, imin]
  · by_cases h2 : (126 : Int) < (b.toNat : Int)
    · simp (disch := omega) only [qa4, nth0, nth1, nth2, nth3, bit, qcy, qcz, qda, qdf, qdg, qdh, qdi, qdj, qdk, qdl, qc0, qc1, qc2, qc3, qc4, qc5, qc6, qc7, qc8, qc9, qdb, qdc, qdd, qde, qkt, qks, qku, qip, qjf, qjh, qgi, qa7, qkn, nI, qdu, qds, Bool.not_true, Bool.not_false, Bool.and_true, Bool.true_and, Bool.and_false, Bool.false_and, Bool.or_true, Bool.true_or, Bool.or_false, Bool.false_or, beq_self_eq_true, dTT, dFF, dT, dF, bigI, big0, qio, qk7, qk8, List.length_set, List.length_replicate, Int.toNat_natCast, qcw, qcx, imax, imin]
    · simp (disch := omega) only [qa4, nth0, nth1, nth2, nth3, bit, qcy, qcz, qda, qdf, qdg, qdh, qdi, qdj, qdk, qdl, qc0, qc1, qc2, qc3, qc4, qc5, qc6, qc7, qc8, qc9, qdb, qdc, qdd, qde, qkt, qks, qku, qip, qjf, qjh, qgi, qa7, qkn, nI, qdu, qds, Bool.not_true, Bool.not_false, Bool.and_true, Bool.true_and, Bool.and_false, Bool.false_and, Bool.or_true, Bool.true_or, Bool.or_false, Bool.false_or, beq_self_eq_true, dTT, dFF, dT, dF, bigI, big0, qio, qk7, qk8, List.length_set, List.length_replicate, Int.toNat_natCast, qcw, qcx, imax, imin]
theorem qhv (k : Nat) (hk : 2000000 ≤ k) (fu : List (Nat × Nat)) (z : Bool) (s : List UInt8) (hs : s.length ≤ 600) : ∀ (N i : Nat), i ≤ s.length → s.length - i < N →
    ∃ x, lp (k + 1) slices_IndexFunc_byte_byte [] fu 2 (N) (qjs (s.length : Int) (i : Int) z (qgg s)) = some [.int .i64 x] ∧ decide (0 ≤ x) = !(s.drop i).all okc
  | 0, i, hi, hN => by omega
  | N + 1, i, hi, hN => by
    rw [qg9]
    have li := qgj s
    by_cases g : i < s.length
    · have c := qbk k (by omega) (s.getD i 0)
      rw [← qgh] at c
      rw [qd5 g 0, List.all_cons]
      cases h : okc (s.getD i 0)
      · rw [h] at c
        refine ⟨(i : Int), ?_, by simp⟩
        simp (disch := omega) only [qa4, nth0, nth1, nth2, nth3, bit, qcy, qcz, qda, qdf, qdg, qdh, qdi, qdj, qdk, qdl, qc0, qc1, qc2, qc3, qc4, qc5, qc6, qc7, qc8, qc9, qdb, qdc, qdd, qde, qkt, qks, qku, qip, qjf, qjh, qgi, qa7, qkn, nI, qdu, qds, Bool.not_true, Bool.not_false, Bool.and_true, Bool.true_and, Bool.and_false, Bool.false_and, Bool.or_true, Bool.true_or, Bool.or_false, Bool.false_or, beq_self_eq_true, dTT, dFF, dT, dF, bigI, big0, qio, qk7, qk8, List.length_set, List.length_replicate, Int.toNat_natCast, qcw, qcx, imax, imin, li, c]
      · rw [h] at c
        obtain ⟨x, e, hx⟩ := qhv k hk fu z s hs N (i + 1) (by omega) (by omega)
        refine ⟨x, ?_, by rw [Bool.true_and]; exact hx⟩
        simp (disch := omega) only [qa4, nth0, nth1, nth2, nth3, bit, qcy, qcz, qda, qdf, qdg, qdh, qdi, qdj, qdk, qdl, qc0, qc1, qc2, qc3, qc4, qc5, qc6, qc7, qc8, qc9, qdb, qdc, qdd, qde, qkt, qks, qku, qip, qjf, qjh, qgi, qa7, qkn, nI, qdu, qds, Bool.not_true, Bool.not_false, Bool.and_true, Bool.true_and, Bool.and_false, Bool.false_and, Bool.or_true, Bool.true_or, Bool.or_false, Bool.false_or, beq_self_eq_true, dTT, dFF, dT, dF, bigI, big0, qio, qk7, qk8, List.length_set, List.length_replicate, Int.toNat_natCast, qcw, qcx, imax, imin, li, c]
        exact e
    · rw [List.drop_of_length_le (by omega)]
      refine ⟨-1, ?_, by decide⟩
      simp (disch := omega) only [qa4, nth0, nth1, nth2, nth3, bit, qcy, qcz, qda, qdf, qdg, qdh, qdi, qdj, qdk, qdl, qc0, qc1, qc2, qc3, qc4, qc5, qc6, qc7, qc8, qc9, qdb, qdc, qdd, qde, qkt, qks, qku, qip, qjf, qjh, qgi, qa7, qkn, nI, qdu, qds, Bool.not_true, Bool.not_false, Bool.and_true, Bool.true_and, Bool.and_false, Bool.false_and, Bool.or_true, Bool.true_or, Bool.or_false, Bool.false_or, beq_self_eq_true, dTT, dFF, dT, dF, bigI, big0, qio, qk7, qk8, List.length_set, List.length_replicate, Int.toNat_natCast, qcw, qcx, imax, imin, li]
theorem qbb (k : Nat) (hk : 2000000 ≤ k) (z : Bool) (s : List UInt8) (hs : s.length ≤ 600) : go (k + 3) slices_ContainsFunc_byte_byte [.arr false z (.ints .u8 (qgg s)), .fn impl_SplitFields_1 []] = some [.bool (!s.all okc)] := by
  rw [qer]
  have e := qes (k + 1) z (qgg s)
  obtain ⟨x, e2, hx⟩ := qhv k hk [] z s hs (k + 1) 0 (by omega) (by omega)
  rw [List.drop_zero] at hx
  rw [qgj] at e
  rw [show ((0 : Nat) : Int) = 0 from rfl] at e2
  rw [e2] at e
  simp (disch := omega) only [qa4, nth0, nth1, nth2, nth3, bit, qcy, qcz, qda, qdf, qdg, qdh, qdi, qdj, qdk, qdl, qc0, qc1, qc2, qc3, qc4, qc5, qc6, qc7, qc8, qc9, qdb, qdc, qdd, qde, qkt, qks, qku, qip, qjf, qjh, qgi, qa7, qkn, nI, qdu, qds, Bool.not_true, Bool.not_false, Bool.and_true, Bool.true_and, Bool.and_false, Bool.false_and, Bool.or_true, Bool.true_or, Bool.or_false, Bool.false_or, beq_self_eq_true, dTT, dFF, dT, dF, bigI, big0, qio, qk7, qk8, List.length_set, List.length_replicate, Int.toNat_natCast, qcw, qcx, imax, imin, e, hx]
theorem qbj (k : Nat) (hk : 2000000 ≤ k) (s : List UInt8) (hs : s.length ≤ 1048576) : go (k + 4) impl_SplitFields [.str (ba s)] = cond (qkd s) (some [.arr true false (.strs (wordsL s)), .bool true]) (some [.arr true true (.strs []), .bool false]) := by
  rw [qed]
  have sz := qax s
  unfold qkd
  by_cases h : s.length ≤ 600
  · have cF := qbb k (by omega) false s h
    have wl : (wordsL s).length = (Lib.fields s).length := List.length_map ..
    have bb := qba s
    cases ha : s.all okc
    · rw [ha] at cF
      simp (disch := omega) only [qa4, nth0, nth1, nth2, nth3, bit, qcy, qcz, qda, qdf, qdg, qdh, qdi, qdj, qdk, qdl, qc0, qc1, qc2, qc3, qc4, qc5, qc6, qc7, qc8, qc9, qdb, qdc, qdd, qde, qkt, qks, qku, qip, qjf, qjh, qgi, qa7, qkn, nI, qdu, qds, Bool.not_true, Bool.not_false, Bool.and_true, Bool.true_and, Bool.and_false, Bool.false_and, Bool.or_true, Bool.true_or, Bool.or_false, Bool.false_or, beq_self_eq_true, dTT, dFF, dT, dF, bigI, big0, qio, qk7, qk8, List.length_set, List.length_replicate, Int.toNat_natCast, qcw, qcx, imax, imin, sz, bb, cF]
    · rw [ha] at cF
      have h128 : ((ba s).data.toList.all fun b => decide (b.toNat < 128)) = true := by
        rw [qaw, List.all_eq_true] at *
        intro b hb
        have := ha b hb
        simp only [okc, Bool.and_eq_true, decide_eq_true_eq] at this ⊢
        omega
      have cW := qcu (k + 2) (ba s) (by rw [sz]; omega) h128
      rw [qaw] at cW
      by_cases h24 : (Lib.fields s).length ≤ 24
      · simp (disch := omega) only [qa4, nth0, nth1, nth2, nth3, bit, qcy, qcz, qda, qdf, qdg, qdh, qdi, qdj, qdk, qdl, qc0, qc1, qc2, qc3, qc4, qc5, qc6, qc7, qc8, qc9, qdb, qdc, qdd, qde, qkt, qks, qku, qip, qjf, qjh, qgi, qa7, qkn, nI, qdu, qds, Bool.not_true, Bool.not_false, Bool.and_true, Bool.true_and, Bool.and_false, Bool.false_and, Bool.or_true, Bool.true_or, Bool.or_false, Bool.false_or, beq_self_eq_true, dTT, dFF, dT, dF, bigI, big0, qio, qk7, qk8, List.length_set, List.length_replicate, Int.toNat_natCast, qcw, qcx, imax, imin, sz, bb, cF, cW, wl]
      · simp (disch := omega) only [qa4, nth0, nth1, nth2, nth3, bit, qcy, qcz, qda, qdf, qdg, qdh, qdi, qdj, qdk, qdl, qc0, qc1, qc2, qc3, qc4, qc5, qc6, qc7, qc8, qc9, qdb, qdc, qdd, qde, qkt, qks, qku, qip, qjf, qjh, qgi, qa7, qkn, nI, qdu, qds, Bool.not_true, Bool.not_false, Bool.and_true, Bool.true_and, Bool.and_false, Bool.false_and, Bool.or_true, Bool.true_or, Bool.or_false, Bool.false_or, beq_self_eq_true, dTT, dFF, dT, dF, bigI, big0, qio, qk7, qk8, List.length_set, List.length_replicate, Int.toNat_natCast, qcw, qcx, imax, imin, sz, bb, cF, cW, wl]
  · simp (disch := omega) only [qa4, nth0, nth1, nth2, nth3, bit, qcy, qcz, qda, qdf, qdg, qdh, qdi, qdj, qdk, qdl, qc0, qc1, qc2, qc3, qc4, qc5, qc6, qc7, qc8, qc9, qdb, qdc, qdd, qde, qkt, qks, qku, qip, qjf, qjh, qgi, qa7, qkn, nI, qdu, qds, Bool.not_true, Bool.not_false, Bool.and_true, Bool.true_and, Bool.and_false, Bool.false_and, Bool.or_true, Bool.true_or, Bool.or_false, Bool.false_or, beq_self_eq_true, dTT, dFF, dT, dF, bigI, big0, qio, qk7, qk8, List.length_set, List.length_replicate, Int.toNat_natCast, qcw, qcx, imax, imin, sz]
abbrev baL (l : List (List UInt8)) : List ByteArray := l.map fun w => ⟨w.toArray⟩
end Go.Proofs.YtjfjniebmdafeaaDoor
end
section
namespace Go.Proofs.YtjfjniebmdafeaaDoor
open Go.Ev
set_option maxRecDepth 20000
abbrev A4 := Int × Int × Int × Int
def awd (a b c d : Int) : List (List UInt8) := if a = 4 ∨ a = 6 ∨ a = 7 then [nmB a, Lib.itoa b, Lib.itoa c, Lib.itoa d] else [nmB a, Lib.itoa b]
theorem qaf (a b c d : Int) : actL a b c d = Lib.join (awd a b c d) [32] := by
  unfold actL awd
  split <;> simp [spacedL, Lib.join_cons, Lib.joinTail]
theorem qis (a : Int) : isWd (nmB a) = true := by
  unfold nmB
  repeat' split
  all_goals decide
theorem qas {a b c d : Int} (h : qag a b c d = true) : (awd a b c d).all isWd = true := by
  have bd := qah h
  have n := qis a
  have i1 := qgu bd.2.1.1; have i2 := qgu bd.2.2.1.1; have i3 := qgu bd.2.2.2.1
  unfold awd
  split <;> simp [n, i1, i2, i3]
theorem qan {a b c d : Int} {ws : List (List UInt8)} (hw : ws.all isWd = true) (h : qag a b c d = true) (e : actL a b c d = Lib.join ws [32]) : ws = awd a b c d := by
  rw [qaf] at e
  have := congrArg Lib.fields e
  rw [qfx _ (qas h), qfx _ hw] at this
  exact this.symm
theorem qal {a b c d : Int} (h : qag a b c d = true) (n : ¬ (a = 4 ∨ a = 6 ∨ a = 7)) : c = 0 ∧ d = 0 := by
  rcases qak (qai h) with rfl | rfl | rfl | rfl | rfl | rfl | rfl
  · simp [qag, sgl, inR] at h; omega
  · simp [qag, sgl, inR] at h; omega
  · simp [qag, sgl, inR] at h; omega
  · exact absurd (Or.inl rfl) n
  · simp [qag, sgl, inR] at h; omega
  · exact absurd (Or.inr (Or.inl rfl)) n
  · exact absurd (Or.inr (Or.inr rfl)) n
theorem qir {a b : Int} (ha : 1 ≤ a ∧ a ≤ 7) (hb : 1 ≤ b ∧ b ≤ 7) (e : nmB a = nmB b) : a = b := by
  rcases qak ha with rfl | rfl | rfl | rfl | rfl | rfl | rfl <;> rcases qak hb with rfl | rfl | rfl | rfl | rfl | rfl | rfl <;> first | rfl | exact absurd e (by decide)
def fidx (w : ByteArray) : Nat → List ByteArray → Int
  | _, [] => -1
  | i, x :: l => cond (decide (w = x)) (i : Int) (fidx w (i + 1) l)
theorem qhw (k : Nat) (hk : 2000000 ≤ k) (fu : List (Nat × Nat)) (z : Bool) (w : ByteArray) (l : List ByteArray) (hl : l.length ≤ 1000) : ∀ (N i : Nat), i ≤ l.length → l.length - i < N →
    lp k slices_Index_string_string [] fu 2 (N) (qjt w (l.length : Int) (i : Int) z l) = some [.int .i64 (fidx w i (l.drop i))]
  | 0, i, hi, hN => by omega
  | N + 1, i, hi, hN => by
    rw [qha]
    by_cases g : i < l.length
    · have IH := qhw k hk fu z w l hl N (i + 1) (by omega) (by omega)
      rw [qd5 g ByteArray.empty, fidx]
      cases h : decide (w = l.getD i ByteArray.empty)
      · simp (disch := omega) only [qa4, nth0, nth1, nth2, nth3, bit, qcy, qcz, qda, qdf, qdg, qdh, qdi, qdj, qdk, qdl, qc0, qc1, qc2, qc3, qc4, qc5, qc6, qc7, qc8, qc9, qdb, qdc, qdd, qde, qkt, qks, qku, qip, qjf, qjh, qgi, qa7, qkn, nI, qdu, qds, Bool.not_true, Bool.not_false, Bool.and_true, Bool.true_and, Bool.and_false, Bool.false_and, Bool.or_true, Bool.true_or, Bool.or_false, Bool.false_or, beq_self_eq_true, dTT, dFF, dT, dF, bigI, big0, qio, qk7, qk8, List.length_set, List.length_replicate, Int.toNat_natCast, qcw, qcx, imax, imin, h]
        exact IH
      · simp (disch := omega) only [qa4, nth0, nth1, nth2, nth3, bit, qcy, qcz, qda, qdf, qdg, qdh, qdi, qdj, qdk, qdl, qc0, qc1, qc2, qc3, qc4, qc5, qc6, qc7, qc8, qc9, qdb, qdc, qdd, qde, qkt, qks, qku, qip, qjf, qjh, qgi, qa7, qkn, nI, qdu, qds, Bool.not_true, Bool.not_false, Bool.and_true, Bool.true_and, Bool.and_false, Bool.false_and, Bool.or_true, Bool.true_or, Bool.or_false, Bool.false_or, beq_self_eq_true, dTT, dFF, dT, dF, bigI, big0, qio, qk7, qk8, List.length_set, List.length_replicate, Int.toNat_natCast, qcw, qcx, imax, imin, h]
    · rw [List.drop_of_length_le (by omega)]
      simp (disch := omega) only [qa4, nth0, nth1, nth2, nth3, bit, qcy, qcz, qda, qdf, qdg, qdh, qdi, qdj, qdk, qdl, qc0, qc1, qc2, qc3, qc4, qc5, qc6, qc7, qc8, qc9, qdb, qdc, qdd, qde, qkt, qks, qku, qip, qjf, qjh, qgi, qa7, qkn, nI, qdu, qds, Bool.not_true, Bool.not_false, Bool.and_true, Bool.true_and, Bool.and_false, Bool.false_and, Bool.or_true, Bool.true_or, Bool.or_false, Bool.false_or, beq_self_eq_true, dTT, dFF, dT, dF, bigI, big0, qio, qk7, qk8, List.length_set, List.length_replicate, Int.toNat_natCast, qcw, qcx, imax, imin]
      rfl
theorem qbw (k : Nat) (hk : 2000000 ≤ k) (z : Bool) (l : List ByteArray) (w : ByteArray) (hl : l.length ≤ 1000) : go (k + 1) slices_Index_string_string [.arr false z (.strs l), .str w] = some [.int .i64 (fidx w 0 l)] := by
  rw [qet]
  have e := qhw k hk [] z w l hl (k + 0) 0 (by omega) (by omega)
  rw [List.drop_zero, show ((0 : Nat) : Int) = 0 from rfl] at e
  exact e
theorem qfu {a : Int} (h : 1 ≤ a ∧ a ≤ 7) : fidx (ba (nmB a)) 0 NM = a := by
  rcases qak h with rfl | rfl | rfl | rfl | rfl | rfl | rfl <;> decide
theorem qav {a b : List UInt8} : decide (ba a = ba b) = decide (a = b) := by
  rw [decide_eq_decide]
  constructor
  · intro h; have := congrArg (fun x : ByteArray => x.data.toList) h; exact this
  · intro h; rw [h]
abbrev zD : List D := [.agg [.int .i64 0, .int .i64 0, .int .i64 0, .int .i64 0], .bool false]
abbrev aD (a b c d : Int) : List D := [.agg [.int .i64 a, .int .i64 b, .int .i64 c, .int .i64 d], .bool true]
theorem qgb (k : Nat) (hk : 2000000 ≤ k) (fu : List (Nat × Nat)) (z : Bool) (ws : List (List UInt8)) (x3 x4 x5 x6 a b c d : Int) (n N : Nat) (hn : n ≤ 3) (hj : (Lib.join ws [32]).length ≤ 100000) (hl : ws.length ≤ 4) :
    lp (k + 4) impl_ParseAct [] fu 6 (N + 1) (qjp n (n : Int) (n : Int) x3 x4 x5 x6 z (baL ws) a b c d) = cond (qag a b c d && decide (actL a b c d = Lib.join ws [32])) (some (aD a b c d)) (some zD) := by
  rw [qg6]
  have f := qbe k (by omega) a b c d
  have jl : joinL (baL ws) (ba [32]) = Lib.join ws [32] := by
    unfold joinL baL
    rw [List.map_map, qaw]
    congr 1
    conv => rhs; rw [← List.map_id ws]
    rfl
  have j := qcv (k + 3) z (baL ws) (ba [32]) (by rw [jl]; exact hj) (by rw [List.length_map]; omega)
  rw [jl] at j
  have y1' : ({ data := #[(32 : UInt8)] } : ByteArray) = ba [32] := Eq.trans rfl rfl
  cases g : qag a b c d
  · rw [g] at f
    simp (disch := omega) only [qa4, nth0, nth1, nth2, nth3, bit, qcy, qcz, qda, qdf, qdg, qdh, qdi, qdj, qdk, qdl, qc0, qc1, qc2, qc3, qc4, qc5, qc6, qc7, qc8, qc9, qdb, qdc, qdd, qde, qkt, qks, qku, qip, qjf, qjh, qgi, qa7, qkn, nI, qdu, qds, Bool.not_true, Bool.not_false, Bool.and_true, Bool.true_and, Bool.and_false, Bool.false_and, Bool.or_true, Bool.true_or, Bool.or_false, Bool.false_or, beq_self_eq_true, dTT, dFF, dT, dF, bigI, big0, qio, qk7, qk8, List.length_set, List.length_replicate, Int.toNat_natCast, qcw, qcx, imax, imin, f]
  · rw [g] at f
    have bi := qav (a := actL a b c d) (b := Lib.join ws [32])
    cases h : decide (actL a b c d = Lib.join ws [32])
    · rw [h] at bi
      simp (disch := omega) only [qa4, nth0, nth1, nth2, nth3, bit, qcy, qcz, qda, qdf, qdg, qdh, qdi, qdj, qdk, qdl, qc0, qc1, qc2, qc3, qc4, qc5, qc6, qc7, qc8, qc9, qdb, qdc, qdd, qde, qkt, qks, qku, qip, qjf, qjh, qgi, qa7, qkn, nI, qdu, qds, Bool.not_true, Bool.not_false, Bool.and_true, Bool.true_and, Bool.and_false, Bool.false_and, Bool.or_true, Bool.true_or, Bool.or_false, Bool.false_or, beq_self_eq_true, dTT, dFF, dT, dF, bigI, big0, qio, qk7, qk8, List.length_set, List.length_replicate, Int.toNat_natCast, qcw, qcx, imax, imin, f, y1', j, bi]
    · rw [h] at bi
      simp (disch := omega) only [qa4, nth0, nth1, nth2, nth3, bit, qcy, qcz, qda, qdf, qdg, qdh, qdi, qdj, qdk, qdl, qc0, qc1, qc2, qc3, qc4, qc5, qc6, qc7, qc8, qc9, qdb, qdc, qdd, qde, qkt, qks, qku, qip, qjf, qjh, qgi, qa7, qkn, nI, qdu, qds, Bool.not_true, Bool.not_false, Bool.and_true, Bool.true_and, Bool.and_false, Bool.false_and, Bool.or_true, Bool.true_or, Bool.or_false, Bool.false_or, beq_self_eq_true, dTT, dFF, dT, dF, bigI, big0, qio, qk7, qk8, List.length_set, List.length_replicate, Int.toNat_natCast, qcw, qcx, imax, imin, f, y1', j, bi]
theorem qat (ws : List (List UInt8)) (i : Nat) : (baL ws).getD i ByteArray.empty = ba (ws.getD i []) := by
  unfold baL
  rw [List.getD_eq_getElem?_getD, List.getElem?_map, List.getD_eq_getElem?_getD]
  cases ws[i]? <;> rfl
theorem qgc (k : Nat) (hk : 2000000 ≤ k) (fu : List (Nat × Nat)) (z : Bool) (ws : List (List UInt8)) (x3 x4 x5 x6 a b c d : Int) (n i N : Nat) (hi : i < n) (hn : n ≤ 3) (hl : ws.length = n + 1) (hw : ∀ w ∈ ws, w.length ≤ 1000) :
    lp (k + 4) impl_ParseAct [] fu 6 (N + 1) (qjp n (n : Int) (i : Int) x3 x4 x5 x6 z (baL ws) a b c d) = lp (k + 4) impl_ParseAct [] fu 6 (N) (qjp n (n : Int) ((i + 1 : Nat) : Int) x3 x4 x5 x6 z (baL ws) a (if i = 0 then atoiV (ws.getD (i + 1) []) else b) (if i = 1 then atoiV (ws.getD (i + 1) []) else c) (if i = 2 then atoiV (ws.getD (i + 1) []) else d)) := by
  rw [qg6]
  have bl : (baL ws).length = ws.length := List.length_map ..
  have ba1 := qat ws (i + 1)
  have wl : (ws.getD (i + 1) []).length ≤ 1000 := by
    by_cases h : i + 1 < ws.length
    · exact hw _ (qf8 h [])
    · rw [qf7 (by omega)]; simp
  have p := qbs (k + 3) (ba (ws.getD (i + 1) [])) (by rw [qax]; exact wl)
  rw [qaw] at p
  have : i = 0 ∨ i = 1 ∨ i = 2 := by omega
  rcases this with rfl | rfl | rfl
  · have b2 : Nat.beq 0 2 = false := rfl
    have b1 : Nat.beq 0 1 = false := rfl
    have b0 : Nat.beq 0 0 = true := rfl
    simp (disch := omega) only [qa4, nth0, nth1, nth2, nth3, bit, qcy, qcz, qda, qdf, qdg, qdh, qdi, qdj, qdk, qdl, qc0, qc1, qc2, qc3, qc4, qc5, qc6, qc7, qc8, qc9, qdb, qdc, qdd, qde, qkt, qks, qku, qip, qjf, qjh, qgi, qa7, qkn, nI, qdu, qds, Bool.not_true, Bool.not_false, Bool.and_true, Bool.true_and, Bool.and_false, Bool.false_and, Bool.or_true, Bool.true_or, Bool.or_false, Bool.false_or, beq_self_eq_true, dTT, dFF, dT, dF, bigI, big0, qio, qk7, qk8, List.length_set, List.length_replicate, Int.toNat_natCast, qcw, qcx, imax, imin, bl, ba1, p, b0, b1, b2]
    rfl
  · have b2 : Nat.beq 1 2 = false := rfl
    have b1 : Nat.beq 1 1 = true := rfl
    simp (disch := omega) only [qa4, nth0, nth1, nth2, nth3, bit, qcy, qcz, qda, qdf, qdg, qdh, qdi, qdj, qdk, qdl, qc0, qc1, qc2, qc3, qc4, qc5, qc6, qc7, qc8, qc9, qdb, qdc, qdd, qde, qkt, qks, qku, qip, qjf, qjh, qgi, qa7, qkn, nI, qdu, qds, Bool.not_true, Bool.not_false, Bool.and_true, Bool.true_and, Bool.and_false, Bool.false_and, Bool.or_true, Bool.true_or, Bool.or_false, Bool.false_or, beq_self_eq_true, dTT, dFF, dT, dF, bigI, big0, qio, qk7, qk8, List.length_set, List.length_replicate, Int.toNat_natCast, qcw, qcx, imax, imin, bl, ba1, p, b1, b2]
    rfl
  · have b2 : Nat.beq 2 2 = true := rfl
    simp (disch := omega) only [qa4, nth0, nth1, nth2, nth3, bit, qcy, qcz, qda, qdf, qdg, qdh, qdi, qdj, qdk, qdl, qc0, qc1, qc2, qc3, qc4, qc5, qc6, qc7, qc8, qc9, qdb, qdc, qdd, qde, qkt, qks, qku, qip, qjf, qjh, qgi, qa7, qkn, nI, qdu, qds, Bool.not_true, Bool.not_false, Bool.and_true, Bool.true_and, Bool.and_false, Bool.false_and, Bool.or_true, Bool.true_or, Bool.or_false, Bool.false_or, beq_self_eq_true, dTT, dFF, dT, dF, bigI, big0, qio, qk7, qk8, List.length_set, List.length_replicate, Int.toNat_natCast, qcw, qcx, imax, imin, bl, ba1, p, b2]
    rfl
def vAt (f : List UInt8 → Int) (r : List (List UInt8)) (i : Nat) : Int := (r.map f ++ [0, 0]).getD i 0
theorem qga (k : Nat) (hk : 2000000 ≤ k) (fu : List (Nat × Nat)) (z : Bool) (x : List UInt8) (r : List (List UInt8)) (x3 x4 x5 x6 a : Int) (N : Nat) (hr : 1 ≤ r.length ∧ r.length ≤ 3) (hw : ∀ w ∈ x :: r, w.length ≤ 1000) (hj : (Lib.join (x :: r) [32]).length ≤ 100000) :
    lp (k + 4) impl_ParseAct [] fu 6 (N + 4) (qjp r.length (r.length : Int) ((0 : Nat) : Int) x3 x4 x5 x6 z (baL (x :: r)) a 0 0 0) = cond (qag a (vAt atoiV r 0) (vAt atoiV r 1) (vAt atoiV r 2) && decide (actL a (vAt atoiV r 0) (vAt atoiV r 1) (vAt atoiV r 2) = Lib.join (x :: r) [32])) (some (aD a (vAt atoiV r 0) (vAt atoiV r 1) (vAt atoiV r 2))) (some zD) := by
  match r, hr, hw, hj with
  | [], hr, hw, hj => simp at hr
  | [w1], hr, hw, hj =>
    rw [qgc k hk fu z [x, w1] x3 x4 x5 x6 a 0 0 0 [w1].length 0 (N + 3) (by simp) (by simp) rfl hw]
    exact qgb k hk fu z [x, w1] x3 x4 x5 x6 a _ _ _ [w1].length (N + 2) (by simp) hj (by simp)
  | [w1, w2], hr, hw, hj =>
    rw [qgc k hk fu z [x, w1, w2] x3 x4 x5 x6 a 0 0 0 [w1, w2].length 0 (N + 3) (by simp) (by simp) rfl hw, qgc k hk fu z [x, w1, w2] x3 x4 x5 x6 a _ _ _ [w1, w2].length 1 (N + 2) (by simp) (by simp) rfl hw]
    exact qgb k hk fu z [x, w1, w2] x3 x4 x5 x6 a _ _ _ [w1, w2].length (N + 1) (by simp) hj (by simp)
  | [w1, w2, w3], hr, hw, hj =>
    rw [qgc k hk fu z [x, w1, w2, w3] x3 x4 x5 x6 a 0 0 0 [w1, w2, w3].length 0 (N + 3) (by simp) (by simp) rfl hw, qgc k hk fu z [x, w1, w2, w3] x3 x4 x5 x6 a _ _ _ [w1, w2, w3].length 1 (N + 2) (by simp) (by simp) rfl hw, qgc k hk fu z [x, w1, w2, w3] x3 x4 x5 x6 a _ _ _ [w1, w2, w3].length 2 (N + 1) (by simp) (by simp) rfl hw]
    exact qgb k hk fu z [x, w1, w2, w3] x3 x4 x5 x6 a _ _ _ [w1, w2, w3].length N (by simp) hj (by simp)
  | _ :: _ :: _ :: _ :: _, hr, hw, hj => simp at hr
end Go.Proofs.YtjfjniebmdafeaaDoor
end
section
namespace Go.Proofs.YtjfjniebmdafeaaDoor
open Go.Ev
set_option maxRecDepth 20000
def qhr (s : List UInt8) : Prop := qkd s = true ∧ 2 ≤ (Lib.fields s).length ∧ (Lib.fields s).length ≤ 4
def qhq (s : List UInt8) (x : A4) : Prop := aOk x = true ∧ aL x = Lib.join (Lib.fields s) [32]
open Classical in
noncomputable def prsA (s : List UInt8) : Option A4 := if h : qhr s ∧ ∃ x, qhq s x then some h.2.choose else none
def prsD : Option A4 → List D
  | some x => aD x.1 x.2.1 x.2.2.1 x.2.2.2
  | none => zD
theorem qhs {s : List UInt8} (h : qkd s = true) : s.length ≤ 600 ∧ (Lib.fields s).all isWd = true ∧ (∀ w ∈ Lib.fields s, w.length ≤ 600) := by
  simp only [qkd, Bool.and_eq_true, decide_eq_true_eq] at h
  exact ⟨h.1, qf1 h.2.1, fun w hw => Nat.le_trans (qfz hw) h.1⟩
theorem qgv : ∀ (ws : List (List UInt8)), (∀ w ∈ ws, w.length ≤ 600) → (Lib.join ws [32]).length ≤ 601 * ws.length := by
  intro ws
  cases ws with
  | nil => intro _; simp [Lib.join_nil]
  | cons x r =>
    intro h
    have : ∀ (l : List (List UInt8)), (∀ w ∈ l, w.length ≤ 600) → (Lib.joinTail [32] l).length ≤ 601 * l.length := by
      intro l
      induction l with
      | nil => intro _; simp [Lib.joinTail]
      | cons a l ih =>
        intro h
        have e : Lib.joinTail [32] (a :: l) = 32 :: (a ++ Lib.joinTail [32] l) := by simp [Lib.joinTail]
        have := ih (fun w hw => h w (List.mem_cons_of_mem _ hw))
        have := h a List.mem_cons_self
        rw [e]; simp only [List.length_cons, List.length_append]; omega
    have h1 := this r (fun w hw => h w (List.mem_cons_of_mem _ hw))
    have h2 := h x List.mem_cons_self
    rw [Lib.join_cons, List.length_append, List.length_cons]; omega
theorem qky {a b c d : Int} {f : List UInt8 → Int} (hf : ∀ n : Int, 0 ≤ n ∧ n ≤ 1000000 → f (Lib.itoa n) = n) (h : qag a b c d = true) {x : List UInt8} {r : List (List UInt8)} (e : x :: r = awd a b c d) : x = nmB a ∧ vAt f r 0 = b ∧ vAt f r 1 = c ∧ vAt f r 2 = d := by
  have bd := qah h
  have e1 := hf b bd.2.1; have e2 := hf c bd.2.2.1; have e3 := hf d bd.2.2.2
  unfold awd at e
  split at e
  · cases e
    simp [vAt, e1, e2, e3]
  · rename_i n
    have s := qal h n
    cases e
    simp [vAt, e1, s.1, s.2]
theorem qdm : Nat.beq (Tryd.prog.cellsOf 103) 1 = true := by kernel_rfl
theorem qbh (k : Nat) (hk : 2000000 ≤ k) (s : List UInt8) (hs : s.length ≤ 1048576) : go (k + 5) impl_ParseAct [.str (ba s)] = some (prsD (prsA s)) := by
  rw [qeb, qdm]
  have eS := qbj k (by omega) s hs
  have wl : (wordsL s).length = (Lib.fields s).length := List.length_map ..
  cases g : qkd s
  · rw [g] at eS
    have : prsA s = none := dif_neg (fun h => by have := h.1.1; rw [g] at this; cases this)
    rw [this]
    simp (disch := omega) only [qa4, nth0, nth1, nth2, nth3, bit, qcy, qcz, qda, qdf, qdg, qdh, qdi, qdj, qdk, qdl, qc0, qc1, qc2, qc3, qc4, qc5, qc6, qc7, qc8, qc9, qdb, qdc, qdd, qde, qkt, qks, qku, qip, qjf, qjh, qgi, qa7, qkn, nI, qdu, qds, Bool.not_true, Bool.not_false, Bool.and_true, Bool.true_and, Bool.and_false, Bool.false_and, Bool.or_true, Bool.true_or, Bool.or_false, Bool.false_or, beq_self_eq_true, dTT, dFF, dT, dF, bigI, big0, qio, qk7, qk8, List.length_set, List.length_replicate, Int.toNat_natCast, qcw, qcx, imax, imin, eS]
    rfl
  rw [g] at eS
  obtain ⟨h600, hwd, hwl⟩ := qhs g
  by_cases h2 : (Lib.fields s).length < 2
  · have : prsA s = none := dif_neg (fun h => by have := h.1.2.1; omega)
    rw [this]
    simp (disch := omega) only [qa4, nth0, nth1, nth2, nth3, bit, qcy, qcz, qda, qdf, qdg, qdh, qdi, qdj, qdk, qdl, qc0, qc1, qc2, qc3, qc4, qc5, qc6, qc7, qc8, qc9, qdb, qdc, qdd, qde, qkt, qks, qku, qip, qjf, qjh, qgi, qa7, qkn, nI, qdu, qds, Bool.not_true, Bool.not_false, Bool.and_true, Bool.true_and, Bool.and_false, Bool.false_and, Bool.or_true, Bool.true_or, Bool.or_false, Bool.false_or, beq_self_eq_true, dTT, dFF, dT, dF, bigI, big0, qio, qk7, qk8, List.length_set, List.length_replicate, Int.toNat_natCast, qcw, qcx, imax, imin, eS, wl]
    rfl
  by_cases h4 : 4 < (Lib.fields s).length
  · have : prsA s = none := dif_neg (fun h => by have := h.1.2.2; omega)
    rw [this]
    simp (disch := omega) only [qa4, nth0, nth1, nth2, nth3, bit, qcy, qcz, qda, qdf, qdg, qdh, qdi, qdj, qdk, qdl, qc0, qc1, qc2, qc3, qc4, qc5, qc6, qc7, qc8, qc9, qdb, qdc, qdd, qde, qkt, qks, qku, qip, qjf, qjh, qgi, qa7, qkn, nI, qdu, qds, Bool.not_true, Bool.not_false, Bool.and_true, Bool.true_and, Bool.and_false, Bool.false_and, Bool.or_true, Bool.true_or, Bool.or_false, Bool.false_or, beq_self_eq_true, dTT, dFF, dT, dF, bigI, big0, qio, qk7, qk8, List.length_set, List.length_replicate, Int.toNat_natCast, qcw, qcx, imax, imin, eS, wl]
    rfl
  obtain ⟨x, r, hx⟩ : ∃ x r, Lib.fields s = x :: r := by
    cases h : Lib.fields s with
    | nil => rw [h] at h2; simp at h2
    | cons x r => exact ⟨x, r, rfl⟩
  have hw : wordsL s = baL (x :: r) := by unfold wordsL; rw [hx]
  have lo : qhr s := ⟨g, by omega, by omega⟩
  have jl := qgv _ hwl
  rw [hx] at wl h2 h4 hwd hwl jl
  simp only [List.length_cons] at wl h2 h4 jl
  have e1 : (wordsL s).getD 0 ByteArray.empty = ba x := by rw [hw]; rfl
  have cN := qbn (k + 4 - 1)
  rw [show k + 4 - 1 + 1 = k + 4 by omega] at cN
  have cI := qbw (k + 3) (by omega) false NM (ba x) (by rw [qac]; omega)
  have eE := qga k hk [] false x r 0 0 0 0 (fidx (ba x) 0 NM) (k + 4 - 4) (by omega) (fun w hw => by have := hwl w hw; omega) (by omega)
  rw [show k + 4 - 4 + 4 = k + 4 by omega, ← hw, show ((0 : Nat) : Int) = 0 from rfl] at eE
  have t0 : Int.toNat 0 = 0 := rfl
  have fin : cond (qag (fidx (ba x) 0 NM) (vAt atoiV r 0) (vAt atoiV r 1) (vAt atoiV r 2) && decide (actL (fidx (ba x) 0 NM) (vAt atoiV r 0) (vAt atoiV r 1) (vAt atoiV r 2) = Lib.join (x :: r) [32])) (some (aD (fidx (ba x) 0 NM) (vAt atoiV r 0) (vAt atoiV r 1) (vAt atoiV r 2))) (some zD) = some (prsD (prsA s)) := by
    by_cases ex : ∃ y, qhq s y
    · have e : prsA s = some ex.choose := dif_pos ⟨lo, ex⟩
      have hy := ex.choose_spec
      generalize ex.choose = y at e hy
      obtain ⟨a, b, c, d⟩ := y
      obtain ⟨y1, y2⟩ := hy
      rw [hx] at y2
      have hws := qan hwd y1 y2
      obtain ⟨v0, v1, v2, v3⟩ := qky (f := atoiV) (fun n h => qgo h) y1 hws
      rw [e, v0, v1, v2, v3, qfu (qai y1), show qag a b c d = true from y1, ← v0, decide_eq_true (show actL a b c d = Lib.join (x :: r) [32] from y2)]
      rfl
    · have e : prsA s = none := dif_neg (fun h => ex h.2)
      rw [e]
      cases c : (qag (fidx (ba x) 0 NM) (vAt atoiV r 0) (vAt atoiV r 1) (vAt atoiV r 2) && decide (actL (fidx (ba x) 0 NM) (vAt atoiV r 0) (vAt atoiV r 1) (vAt atoiV r 2) = Lib.join (x :: r) [32]))
      · rfl
      · simp only [Bool.and_eq_true, decide_eq_true_eq] at c
        exact absurd ⟨(_, _, _, _), c.1, by rw [hx]; exact c.2⟩ ex
  rw [fin] at eE
  simp (disch := omega) only [qa4, nth0, nth1, nth2, nth3, bit, qcy, qcz, qda, qdf, qdg, qdh, qdi, qdj, qdk, qdl, qc0, qc1, qc2, qc3, qc4, qc5, qc6, qc7, qc8, qc9, qdb, qdc, qdd, qde, qkt, qks, qku, qip, qjf, qjh, qgi, qa7, qkn, nI, qdu, qds, Bool.not_true, Bool.not_false, Bool.and_true, Bool.true_and, Bool.and_false, Bool.false_and, Bool.or_true, Bool.true_or, Bool.or_false, Bool.false_or, beq_self_eq_true, dTT, dFF, dT, dF, bigI, big0, qio, qk7, qk8, List.length_set, List.length_replicate, Int.toNat_natCast, qcw, qcx, imax, imin, eS, wl, t0, e1, cN, cI]
  rw [show ((r.length + 1 : Nat) : Int) - 1 = (r.length : Int) by omega, Int.toNat_natCast]
  exact eE
end Go.Proofs.YtjfjniebmdafeaaDoor
end
section
namespace Go.Proofs.YtjfjniebmdafeaaDoor
open Go.Ev
theorem qeq (k : Nat) (az : Bool) (a : List Int) : go (k + 1) laws_big [(.arr false (az) (.ints IntKind.u8 (a)))] =
 some [(.bool (decide ((1048576 : Int) < nI (List.length a))))] := by kernel_rfl
theorem qfm (k : Nat) (v0 : Bool) (v1 : List Int) (v2 v3 : Int) : go (k + 1) spec_l18Plan [(.ptr true [(.arr false (v0) (.ints IntKind.u8 (v1))), (.int .i64 (v2)), (.int .i64 (v3))])] =
 (go k spec_l13Border [(.ptr true [(.arr false (v0) (.ints IntKind.u8 (v1))), (.int .i64 (v2)), (.int .i64 (v3))])]).bind fun r0 =>
 (go k spec_l01Below [(.ptr true [(.arr false (v0) (.ints IntKind.u8 (v1))), (.int .i64 (D.toInt (D.cell 1 (nth r0 1)))), (.int .i64 (D.toInt (D.cell 2 (nth r0 1))))]), (.int .i64 ((2 : Int)))]).bind fun r1 =>
 (go k spec_l01Below [(.ptr true [(.arr false (v0) (.ints IntKind.u8 (v1))), (.int .i64 (D.toInt (D.cell 1 (nth r1 1)))), (.int .i64 (D.toInt (D.cell 2 (nth r1 1))))]), (.int .i64 ((900 : Int)))]).bind fun r2 =>
 (go k spec_l01Below [(.ptr true [(.arr false (v0) (.ints IntKind.u8 (v1))), (.int .i64 (D.toInt (D.cell 1 (nth r2 1)))), (.int .i64 (D.toInt (D.cell 2 (nth r2 1))))]), (.int .i64 ((2 : Int)))]).bind fun r3 =>
 (go k spec_l01Below [(.ptr true [(.arr false (v0) (.ints IntKind.u8 (v1))), (.int .i64 (D.toInt (D.cell 1 (nth r3 1)))), (.int .i64 (D.toInt (D.cell 2 (nth r3 1))))]), (.int .i64 ((400 : Int)))]).bind fun r4 =>
 (go k spec_l01Below [(.ptr true [(.arr false (v0) (.ints IntKind.u8 (v1))), (.int .i64 (D.toInt (D.cell 1 (nth r4 1)))), (.int .i64 (D.toInt (D.cell 2 (nth r4 1))))]), (.int .i64 ((2 : Int)))]).bind fun r5 =>
 (go k spec_l01Below [(.ptr true [(.arr false (v0) (.ints IntKind.u8 (v1))), (.int .i64 (D.toInt (D.cell 1 (nth r5 1)))), (.int .i64 (D.toInt (D.cell 2 (nth r5 1))))]), (.int .i64 ((200 : Int)))]).bind fun r6 =>
 (go k spec_l01Below [(.ptr true [(.arr false (v0) (.ints IntKind.u8 (v1))), (.int .i64 (D.toInt (D.cell 1 (nth r6 1)))), (.int .i64 (D.toInt (D.cell 2 (nth r6 1))))]), (.int .i64 ((4000 : Int)))]).bind fun r7 =>
 (go k spec_l01Below [(.ptr true [(.arr false (v0) (.ints IntKind.u8 (v1))), (.int .i64 (D.toInt (D.cell 1 (nth r7 1)))), (.int .i64 (D.toInt (D.cell 2 (nth r7 1))))]), (.int .i64 ((300 : Int)))]).bind fun r8 =>
 (go k spec_l01Below [(.ptr true [(.arr false (v0) (.ints IntKind.u8 (v1))), (.int .i64 (D.toInt (D.cell 1 (nth r8 1)))), (.int .i64 (D.toInt (D.cell 2 (nth r8 1))))]), (.int .i64 ((3 : Int)))]).bind fun r9 =>
 some [(.agg [(.int .i64 (D.toInt (D.cell 0 (nth r0 0)))), (.int .i64 (D.toInt (D.cell 1 (nth r0 0)))), (.int .i64 (D.toInt (D.cell 2 (nth r0 0)))), (.int .i64 (IntKind.wrap .i64 (D.toInt (nth r1 0) * D.toInt (nth r2 0)))), (.int .i64 (IntKind.wrap .i64 (D.toInt (nth r3 0) * D.toInt (nth r4 0)))), (.int .i64 (IntKind.wrap .i64 (D.toInt (nth r5 0) * D.toInt (nth r6 0)))), (.int .i64 (IntKind.wrap .i64 ((200 : Int) + D.toInt (nth r7 0)))), (.int .i64 (D.toInt (nth r8 0))), (.int .i64 (D.toInt (nth r9 0)))]), (.ptr true [(.arr false (v0) (.ints IntKind.u8 (v1))), (.int .i64 (D.toInt (D.cell 1 (nth r9 1)))), (.int .i64 (D.toInt (D.cell 2 (nth r9 1))))])] := by kernel_rfl
theorem qfl (k : Nat) (v0 : Bool) (v1 : List Int) (v2 v3 : Int) : go (k + 1) spec_l13Border [(.ptr true [(.arr false (v0) (.ints IntKind.u8 (v1))), (.int .i64 (v2)), (.int .i64 (v3))])] =
 (go k spec_l01Below [(.ptr true [(.arr false (v0) (.ints IntKind.u8 (v1))), (.int .i64 (v2)), (.int .i64 (v3))]), (.int .i64 ((2 : Int)))]).bind fun r0 =>
 (go k spec_l01Below [(.ptr true [(.arr false (v0) (.ints IntKind.u8 (v1))), (.int .i64 (D.toInt (D.cell 1 (nth r0 1)))), (.int .i64 (D.toInt (D.cell 2 (nth r0 1))))]), (.int .i64 ((3000 : Int)))]).bind fun r1 =>
 (go k spec_l01Below [(.ptr true [(.arr false (v0) (.ints IntKind.u8 (v1))), (.int .i64 (D.toInt (D.cell 1 (nth r1 1)))), (.int .i64 (D.toInt (D.cell 2 (nth r1 1))))]), (.int .i64 ((1001 : Int)))]).bind fun r2 =>
 (go k spec_l01Below [(.ptr true [(.arr false (v0) (.ints IntKind.u8 (v1))), (.int .i64 (D.toInt (D.cell 1 (nth r2 1)))), (.int .i64 (D.toInt (D.cell 2 (nth r2 1))))]), (.int .i64 ((2 : Int)))]).bind fun r3 =>
 (go k spec_l01Below [(.ptr true [(.arr false (v0) (.ints IntKind.u8 (v1))), (.int .i64 (D.toInt (D.cell 1 (nth r3 1)))), (.int .i64 (D.toInt (D.cell 2 (nth r3 1))))]), (.int .i64 ((251 : Int)))]).bind fun r4 =>
 some [(.agg [(.int .i64 (IntKind.wrap .i64 (D.toInt (nth r0 0) * D.toInt (nth r1 0)))), (.int .i64 (D.toInt (nth r2 0))), (.int .i64 (IntKind.wrap .i64 (D.toInt (nth r3 0) * D.toInt (nth r4 0))))]), (.ptr true [(.arr false (v0) (.ints IntKind.u8 (v1))), (.int .i64 (D.toInt (D.cell 1 (nth r4 1)))), (.int .i64 (D.toInt (D.cell 2 (nth r4 1))))])] := by kernel_rfl
theorem qfn (k : Nat) (v0 : Bool) (v1 : List Int) (v2 v3 : Int) : go (k + 1) spec_l37Act [(.ptr true [(.arr false (v0) (.ints IntKind.u8 (v1))), (.int .i64 (v2)), (.int .i64 (v3))])] =
 (go k spec_l01Below [(.ptr true [(.arr false (v0) (.ints IntKind.u8 (v1))), (.int .i64 (v2)), (.int .i64 (v3))]), (.int .i64 ((8 : Int)))]).bind fun r0 =>
 cond (decide (D.toInt (nth r0 0) = (0 : Int)))
 ((go k spec_l01Below [(.ptr true [(.arr false (v0) (.ints IntKind.u8 (v1))), (.int .i64 (D.toInt (D.cell 1 (nth r0 1)))), (.int .i64 (D.toInt (D.cell 2 (nth r0 1))))]), (.int .i64 ((900 : Int)))]).bind fun r1 =>
 some [(.agg [(.int .i64 ((2 : Int))), (.int .i64 (D.toInt (nth r1 0))), (.int .i64 (0 : Int)), (.int .i64 (0 : Int))]), (.ptr true [(.arr false (v0) (.ints IntKind.u8 (v1))), (.int .i64 (D.toInt (D.cell 1 (nth r1 1)))), (.int .i64 (D.toInt (D.cell 2 (nth r1 1))))])])
 (cond (decide (D.toInt (nth r0 0) = (1 : Int)))
 ((go k spec_l01Below [(.ptr true [(.arr false (v0) (.ints IntKind.u8 (v1))), (.int .i64 (D.toInt (D.cell 1 (nth r0 1)))), (.int .i64 (D.toInt (D.cell 2 (nth r0 1))))]), (.int .i64 ((900 : Int)))]).bind fun r2 =>
 some [(.agg [(.int .i64 ((3 : Int))), (.int .i64 (D.toInt (nth r2 0))), (.int .i64 (0 : Int)), (.int .i64 (0 : Int))]), (.ptr true [(.arr false (v0) (.ints IntKind.u8 (v1))), (.int .i64 (D.toInt (D.cell 1 (nth r2 1)))), (.int .i64 (D.toInt (D.cell 2 (nth r2 1))))])])
 (cond (decide (D.toInt (nth r0 0) = (2 : Int)))
 ((go k spec_l01Below [(.ptr true [(.arr false (v0) (.ints IntKind.u8 (v1))), (.int .i64 (D.toInt (D.cell 1 (nth r0 1)))), (.int .i64 (D.toInt (D.cell 2 (nth r0 1))))]), (.int .i64 ((3000 : Int)))]).bind fun r3 =>
 (go k spec_l01Below [(.ptr true [(.arr false (v0) (.ints IntKind.u8 (v1))), (.int .i64 (D.toInt (D.cell 1 (nth r3 1)))), (.int .i64 (D.toInt (D.cell 2 (nth r3 1))))]), (.int .i64 ((1001 : Int)))]).bind fun r4 =>
 (go k spec_l01Below [(.ptr true [(.arr false (v0) (.ints IntKind.u8 (v1))), (.int .i64 (D.toInt (D.cell 1 (nth r4 1)))), (.int .i64 (D.toInt (D.cell 2 (nth r4 1))))]), (.int .i64 ((251 : Int)))]).bind fun r5 =>
 some [(.agg [(.int .i64 ((4 : Int))), (.int .i64 (D.toInt (nth r3 0))), (.int .i64 (D.toInt (nth r4 0))), (.int .i64 (D.toInt (nth r5 0)))]), (.ptr true [(.arr false (v0) (.ints IntKind.u8 (v1))), (.int .i64 (D.toInt (D.cell 1 (nth r5 1)))), (.int .i64 (D.toInt (D.cell 2 (nth r5 1))))])])
 (cond (decide (D.toInt (nth r0 0) = (3 : Int)))
 ((go k spec_l01Below [(.ptr true [(.arr false (v0) (.ints IntKind.u8 (v1))), (.int .i64 (D.toInt (D.cell 1 (nth r0 1)))), (.int .i64 (D.toInt (D.cell 2 (nth r0 1))))]), (.int .i64 ((300 : Int)))]).bind fun r6 =>
 some [(.agg [(.int .i64 ((5 : Int))), (.int .i64 (D.toInt (nth r6 0))), (.int .i64 (0 : Int)), (.int .i64 (0 : Int))]), (.ptr true [(.arr false (v0) (.ints IntKind.u8 (v1))), (.int .i64 (D.toInt (D.cell 1 (nth r6 1)))), (.int .i64 (D.toInt (D.cell 2 (nth r6 1))))])])
 (cond (decide (D.toInt (nth r0 0) = (4 : Int)))
 ((go k spec_l01Below [(.ptr true [(.arr false (v0) (.ints IntKind.u8 (v1))), (.int .i64 (D.toInt (D.cell 1 (nth r0 1)))), (.int .i64 (D.toInt (D.cell 2 (nth r0 1))))]), (.int .i64 ((3000 : Int)))]).bind fun r7 =>
 (go k spec_l01Below [(.ptr true [(.arr false (v0) (.ints IntKind.u8 (v1))), (.int .i64 (D.toInt (D.cell 1 (nth r7 1)))), (.int .i64 (D.toInt (D.cell 2 (nth r7 1))))]), (.int .i64 ((400 : Int)))]).bind fun r8 =>
 (go k spec_l01Below [(.ptr true [(.arr false (v0) (.ints IntKind.u8 (v1))), (.int .i64 (D.toInt (D.cell 1 (nth r8 1)))), (.int .i64 (D.toInt (D.cell 2 (nth r8 1))))]), (.int .i64 ((3 : Int)))]).bind fun r9 =>
 some [(.agg [(.int .i64 ((6 : Int))), (.int .i64 (IntKind.wrap .i64 ((100 : Int) + D.toInt (nth r7 0)))), (.int .i64 (D.toInt (nth r8 0))), (.int .i64 (D.toInt (nth r9 0)))]), (.ptr true [(.arr false (v0) (.ints IntKind.u8 (v1))), (.int .i64 (D.toInt (D.cell 1 (nth r9 1)))), (.int .i64 (D.toInt (D.cell 2 (nth r9 1))))])])
 (cond (decide (D.toInt (nth r0 0) = (5 : Int)))
 ((go k spec_l01Below [(.ptr true [(.arr false (v0) (.ints IntKind.u8 (v1))), (.int .i64 (D.toInt (D.cell 1 (nth r0 1)))), (.int .i64 (D.toInt (D.cell 2 (nth r0 1))))]), (.int .i64 ((40 : Int)))]).bind fun r10 =>
 (go k spec_l01Below [(.ptr true [(.arr false (v0) (.ints IntKind.u8 (v1))), (.int .i64 (D.toInt (D.cell 1 (nth r10 1)))), (.int .i64 (D.toInt (D.cell 2 (nth r10 1))))]), (.int .i64 ((5000 : Int)))]).bind fun r11 =>
 (go k spec_l01Below [(.ptr true [(.arr false (v0) (.ints IntKind.u8 (v1))), (.int .i64 (D.toInt (D.cell 1 (nth r11 1)))), (.int .i64 (D.toInt (D.cell 2 (nth r11 1))))]), (.int .i64 ((1001 : Int)))]).bind fun r12 =>
 some [(.agg [(.int .i64 ((7 : Int))), (.int .i64 (D.toInt (nth r10 0))), (.int .i64 (IntKind.wrap .i64 ((1 : Int) + D.toInt (nth r11 0)))), (.int .i64 (D.toInt (nth r12 0)))]), (.ptr true [(.arr false (v0) (.ints IntKind.u8 (v1))), (.int .i64 (D.toInt (D.cell 1 (nth r12 1)))), (.int .i64 (D.toInt (D.cell 2 (nth r12 1))))])])
 ((go k spec_l01Below [(.ptr true [(.arr false (v0) (.ints IntKind.u8 (v1))), (.int .i64 (D.toInt (D.cell 1 (nth r0 1)))), (.int .i64 (D.toInt (D.cell 2 (nth r0 1))))]), (.int .i64 ((3 : Int)))]).bind fun r13 =>
 some [(.agg [(.int .i64 ((1 : Int))), (.int .i64 (IntKind.wrap .i64 ((1 : Int) + D.toInt (nth r13 0)))), (.int .i64 (0 : Int)), (.int .i64 (0 : Int))]), (.ptr true [(.arr false (v0) (.ints IntKind.u8 (v1))), (.int .i64 (D.toInt (D.cell 1 (nth r13 1)))), (.int .i64 (D.toInt (D.cell 2 (nth r13 1))))])])))))) := by kernel_rfl
def qj5 (x0 : Int) (z1 : Bool) (l2 : List Int) (x3 x4 : Int) (z5 : Bool) (l6 : List (Int × Int × Int × Int)) : St := ⟨fill 18 [(0, (.ptr 1 (0) (0))), (3, (.sl 2 none)), (4, (.int .i64 (x0)))], [(.ptr 1 (0) (0)), (.sl 0 none)], [(.arr false (z1) (.ints IntKind.u8 (l2))), (.box true [(.sl 0 none), (.int .i64 (x3)), (.int .i64 (x4))]), (.arr true (z5) (.r4 (l6)))]⟩
theorem qfo (k : Nat) (v0 : Bool) (v1 : List Int) (v2 v3 : Int) : go (k + 1) spec_l37Acts [(.ptr true [(.arr false (v0) (.ints IntKind.u8 (v1))), (.int .i64 (v2)), (.int .i64 (v3))])] =
 lp k spec_l37Acts [(.ptr true [(.arr false (v0) (.ints IntKind.u8 (v1))), (.int .i64 (v2)), (.int .i64 (v3))])] [] 3 k (qj5 (0 : Int) v0 v1 v2 v3 false ([])) := by kernel_rfl
theorem qhm (k n : Nat) (fu : List (Nat × Nat)) (v0 : Bool) (v1 : List Int) (v2 v3 x0 : Int) (z1 : Bool) (l2 : List Int) (x3 x4 : Int) (z5 : Bool) (l6 : List (Int × Int × Int × Int)) : lp k spec_l37Acts [(.ptr true [(.arr false (v0) (.ints IntKind.u8 (v1))), (.int .i64 (v2)), (.int .i64 (v3))])] fu 3 (n + 1) (qj5 x0 z1 l2 x3 x4 z5 l6) =
 (go k spec_l01Below [(.ptr true [(.arr false (z1) (.ints IntKind.u8 (l2))), (.int .i64 (x3)), (.int .i64 (x4))]), (.int .i64 ((7 : Int)))]).bind fun r0 =>
 cond (decide (x0 < D.toInt (nth r0 0)))
 ((go k spec_l37Act [(.ptr true [(.arr false (z1) (.ints IntKind.u8 (l2))), (.int .i64 (D.toInt (D.cell 1 (nth r0 1)))), (.int .i64 (D.toInt (D.cell 2 (nth r0 1))))])]).bind fun r1 =>
 cond (decide (List.length (l6 ++ [(D.toInt (D.cell 0 (nth r1 0)), D.toInt (D.cell 1 (nth r1 0)), D.toInt (D.cell 2 (nth r1 0)), D.toInt (D.cell 3 (nth r1 0)))]) ≤ bigLen))
 (lp k spec_l37Acts [(.ptr true [(.arr false (v0) (.ints IntKind.u8 (v1))), (.int .i64 (v2)), (.int .i64 (v3))])] fu 3 n (qj5 (IntKind.wrap .i64 (x0 + (1 : Int))) z1 l2 (D.toInt (D.cell 1 (nth r1 1))) (D.toInt (D.cell 2 (nth r1 1))) (z5 && decide (List.length (l6 ++ [(D.toInt (D.cell 0 (nth r1 0)), D.toInt (D.cell 1 (nth r1 0)), D.toInt (D.cell 2 (nth r1 0)), D.toInt (D.cell 3 (nth r1 0)))]) = 0)) (l6 ++ [(D.toInt (D.cell 0 (nth r1 0)), D.toInt (D.cell 1 (nth r1 0)), D.toInt (D.cell 2 (nth r1 0)), D.toInt (D.cell 3 (nth r1 0)))])))
 (none))
 (some [(.arr true (z5) (.r4 (l6))), (.ptr true [(.arr false (z1) (.ints IntKind.u8 (l2))), (.int .i64 (D.toInt (D.cell 1 (nth r0 1)))), (.int .i64 (D.toInt (D.cell 2 (nth r0 1))))])]) := by kernel_rfl
def qjv (x0 x1 : Int) (z2 : Bool) (l3 : List Int) (z4 : Bool) (l5 : List (Int × Int × Int)) (z6 : Bool) (l7 : List Int) (z8 : Bool) (l9 : List Int) (z10 : Bool) (l11 : List Int) (x12 x13 x14 x15 x16 x17 x18 x19 x20 x21 x22 x23 x24 x25 x26 x27 x28 : Int) (z29 : Bool) (l30 : List (Int × Int × Int × Int)) : St := ⟨fill 32 [(0, (.sl 0 none)), (3, (.int .i64 (x0))), (4, (.int .i64 (x1)))], [(.sl 0 none), .un, (.ptr 5 (0) (0)), (.sl 6 none), .un, .un, .un, (.sl 0 none), .un, .un, .un, .un, .un, .un, .un, .un, .un, .un, .un, .un], [(.arr false (z2) (.ints IntKind.u8 (l3))), (.arr true (z4) (.r3 (l5))), (.arr true (z6) (.ints .i64 (l7))), (.arr true (z8) (.ints .i64 (l9))), (.arr true (z10) (.ints .i64 (l11))), (.box true [(.int .i64 (x12)), (.sl 1 none), (.sl 2 none), (.sl 3 none), (.sl 4 none), (.int .i64 (x13)), (.int .i64 (x14)), (.int .i64 (x15)), (.int .i64 (x16)), (.int .i64 (x17)), (.int .i64 (x18)), (.int .i64 (x19)), (.int .i64 (x20)), (.int .i64 (x21)), (.int .i64 (x22)), (.int .i64 (x23)), (.int .i64 (x24)), (.int .i64 (x25)), (.int .i64 (x26)), (.int .i64 (x27)), (.int .i64 (x28))]), (.arr true (z29) (.r4 (l30)))]⟩
theorem qex (k : Nat) (az : Bool) (a : List Int) : go (k + 1) spec_DrawActs [(.arr false (az) (.ints IntKind.u8 (a)))] =
 lp k spec_DrawActs [] [] 6400003 k (qjv (IntKind.wrap .i64 ((98231 : Int) + nI (List.length a))) (0 : Int) az a true ([]) true ([]) true ([]) true ([]) (0 : Int) (0 : Int) (0 : Int) (0 : Int) (0 : Int) (0 : Int) (0 : Int) (0 : Int) (0 : Int) (0 : Int) (0 : Int) (0 : Int) (0 : Int) (0 : Int) (0 : Int) (0 : Int) (0 : Int) true ([])) := by kernel_rfl
theorem qhc (k n : Nat) (fu : List (Nat × Nat)) (x0 x1 : Int) (z2 : Bool) (l3 : List Int) (z4 : Bool) (l5 : List (Int × Int × Int)) (z6 : Bool) (l7 : List Int) (z8 : Bool) (l9 : List Int) (z10 : Bool) (l11 : List Int) (x12 x13 x14 x15 x16 x17 x18 x19 x20 x21 x22 x23 x24 x25 x26 x27 x28 : Int) (z29 : Bool) (l30 : List (Int × Int × Int × Int)) : lp k spec_DrawActs [] fu 6400003 (n + 1) (qjv x0 x1 z2 l3 z4 l5 z6 l7 z8 l9 z10 l11 x12 x13 x14 x15 x16 x17 x18 x19 x20 x21 x22 x23 x24 x25 x26 x27 x28 z29 l30) =
 cond (decide (x1 < nI (List.length l3)))
 (cond (decide (x1 < (4000 : Int)))
 (cond (decide ((0 : Int) ≤ x1) && decide (x1 < nI (List.length l3)))
 (lp k spec_DrawActs [] fu 6400003 n (qjv (bitN BinOp.and .i64 (IntKind.wrap .i64 (IntKind.wrap .i64 (IntKind.wrap .i64 (x0 * (131 : Int)) + IntKind.wrap .i64 (List.getD l3 (Int.toNat x1) (0 : Int))) + (7 : Int))) (1073741823 : Int)) (IntKind.wrap .i64 (x1 + (1 : Int))) z2 l3 z4 l5 z6 l7 z8 l9 z10 l11 x12 x13 x14 x15 x16 x17 x18 x19 x20 x21 x22 x23 x24 x25 x26 x27 x28 z29 l30))
 (none))
 ((go k spec_l07State [(.ptr true [(.arr false (z2) (.ints IntKind.u8 (l3))), (.int .i64 (0 : Int)), (.int .i64 (x0))])]).bind fun r0 =>
 (go k spec_l18Plan [(.ptr true [(.arr false (z2) (.ints IntKind.u8 (l3))), (.int .i64 (D.toInt (D.cell 1 (nth r0 1)))), (.int .i64 (D.toInt (D.cell 2 (nth r0 1))))])]).bind fun r1 =>
 (go k spec_WorldNew [(.agg [(.int .i64 (D.toInt (D.cell 0 (nth r0 0)))), (.arr false (D.nil (D.cell 1 (nth r0 0))) (.r3 (D.r3 (D.cell 1 (nth r0 0))))), (.arr false (D.nil (D.cell 2 (nth r0 0))) (.ints .i64 (D.ints (D.cell 2 (nth r0 0))))), (.arr false (D.nil (D.cell 3 (nth r0 0))) (.ints .i64 (D.ints (D.cell 3 (nth r0 0))))), (.arr false (D.nil (D.cell 4 (nth r0 0))) (.ints .i64 (D.ints (D.cell 4 (nth r0 0)))))]), (.agg [(.int .i64 (D.toInt (D.cell 0 (nth r1 0)))), (.int .i64 (D.toInt (D.cell 1 (nth r1 0)))), (.int .i64 (D.toInt (D.cell 2 (nth r1 0)))), (.int .i64 (D.toInt (D.cell 3 (nth r1 0)))), (.int .i64 (D.toInt (D.cell 4 (nth r1 0)))), (.int .i64 (D.toInt (D.cell 5 (nth r1 0)))), (.int .i64 (D.toInt (D.cell 6 (nth r1 0)))), (.int .i64 (D.toInt (D.cell 7 (nth r1 0)))), (.int .i64 (D.toInt (D.cell 8 (nth r1 0))))])]).bind fun r2 =>
 (go k spec_l37Acts [(.ptr true [(.arr false (z2) (.ints IntKind.u8 (l3))), (.int .i64 (D.toInt (D.cell 1 (nth r1 1)))), (.int .i64 (D.toInt (D.cell 2 (nth r1 1))))])]).bind fun r3 =>
 some [(.agg [(.int .i64 (D.toInt (D.cell 0 (nth r2 0)))), (.arr true (D.nil (D.cell 1 (nth r2 0))) (.r3 (D.r3 (D.cell 1 (nth r2 0))))), (.arr true (D.nil (D.cell 2 (nth r2 0))) (.ints .i64 (D.ints (D.cell 2 (nth r2 0))))), (.arr true (D.nil (D.cell 3 (nth r2 0))) (.ints .i64 (D.ints (D.cell 3 (nth r2 0))))), (.arr true (D.nil (D.cell 4 (nth r2 0))) (.ints .i64 (D.ints (D.cell 4 (nth r2 0))))), (.int .i64 (D.toInt (D.cell 5 (nth r2 0)))), (.int .i64 (D.toInt (D.cell 6 (nth r2 0)))), (.int .i64 (D.toInt (D.cell 7 (nth r2 0)))), (.int .i64 (D.toInt (D.cell 8 (nth r2 0)))), (.int .i64 (D.toInt (D.cell 9 (nth r2 0)))), (.int .i64 (D.toInt (D.cell 10 (nth r2 0)))), (.int .i64 (D.toInt (D.cell 11 (nth r2 0)))), (.int .i64 (D.toInt (D.cell (12 : Nat) (nth r2 0)))), (.int .i64 (D.toInt (D.cell (13 : Nat) (nth r2 0)))), (.int .i64 (D.toInt (D.cell (14 : Nat) (nth r2 0)))), (.int .i64 (D.toInt (D.cell (15 : Nat) (nth r2 0)))), (.int .i64 (D.toInt (D.cell (16 : Nat) (nth r2 0)))), (.int .i64 (D.toInt (D.cell (17 : Nat) (nth r2 0)))), (.int .i64 (D.toInt (D.cell (18 : Nat) (nth r2 0)))), (.int .i64 (D.toInt (D.cell (19 : Nat) (nth r2 0)))), (.int .i64 (D.toInt (D.cell (20 : Nat) (nth r2 0))))]), (.arr true (D.nil (nth r3 0)) (.r4 (D.r4 (nth r3 0))))]))
 ((go k spec_l07State [(.ptr true [(.arr false (z2) (.ints IntKind.u8 (l3))), (.int .i64 (0 : Int)), (.int .i64 (x0))])]).bind fun r4 =>
 (go k spec_l18Plan [(.ptr true [(.arr false (z2) (.ints IntKind.u8 (l3))), (.int .i64 (D.toInt (D.cell 1 (nth r4 1)))), (.int .i64 (D.toInt (D.cell 2 (nth r4 1))))])]).bind fun r5 =>
 (go k spec_WorldNew [(.agg [(.int .i64 (D.toInt (D.cell 0 (nth r4 0)))), (.arr false (D.nil (D.cell 1 (nth r4 0))) (.r3 (D.r3 (D.cell 1 (nth r4 0))))), (.arr false (D.nil (D.cell 2 (nth r4 0))) (.ints .i64 (D.ints (D.cell 2 (nth r4 0))))), (.arr false (D.nil (D.cell 3 (nth r4 0))) (.ints .i64 (D.ints (D.cell 3 (nth r4 0))))), (.arr false (D.nil (D.cell 4 (nth r4 0))) (.ints .i64 (D.ints (D.cell 4 (nth r4 0)))))]), (.agg [(.int .i64 (D.toInt (D.cell 0 (nth r5 0)))), (.int .i64 (D.toInt (D.cell 1 (nth r5 0)))), (.int .i64 (D.toInt (D.cell 2 (nth r5 0)))), (.int .i64 (D.toInt (D.cell 3 (nth r5 0)))), (.int .i64 (D.toInt (D.cell 4 (nth r5 0)))), (.int .i64 (D.toInt (D.cell 5 (nth r5 0)))), (.int .i64 (D.toInt (D.cell 6 (nth r5 0)))), (.int .i64 (D.toInt (D.cell 7 (nth r5 0)))), (.int .i64 (D.toInt (D.cell 8 (nth r5 0))))])]).bind fun r6 =>
 (go k spec_l37Acts [(.ptr true [(.arr false (z2) (.ints IntKind.u8 (l3))), (.int .i64 (D.toInt (D.cell 1 (nth r5 1)))), (.int .i64 (D.toInt (D.cell 2 (nth r5 1))))])]).bind fun r7 =>
 some [(.agg [(.int .i64 (D.toInt (D.cell 0 (nth r6 0)))), (.arr true (D.nil (D.cell 1 (nth r6 0))) (.r3 (D.r3 (D.cell 1 (nth r6 0))))), (.arr true (D.nil (D.cell 2 (nth r6 0))) (.ints .i64 (D.ints (D.cell 2 (nth r6 0))))), (.arr true (D.nil (D.cell 3 (nth r6 0))) (.ints .i64 (D.ints (D.cell 3 (nth r6 0))))), (.arr true (D.nil (D.cell 4 (nth r6 0))) (.ints .i64 (D.ints (D.cell 4 (nth r6 0))))), (.int .i64 (D.toInt (D.cell 5 (nth r6 0)))), (.int .i64 (D.toInt (D.cell 6 (nth r6 0)))), (.int .i64 (D.toInt (D.cell 7 (nth r6 0)))), (.int .i64 (D.toInt (D.cell 8 (nth r6 0)))), (.int .i64 (D.toInt (D.cell 9 (nth r6 0)))), (.int .i64 (D.toInt (D.cell 10 (nth r6 0)))), (.int .i64 (D.toInt (D.cell 11 (nth r6 0)))), (.int .i64 (D.toInt (D.cell (12 : Nat) (nth r6 0)))), (.int .i64 (D.toInt (D.cell (13 : Nat) (nth r6 0)))), (.int .i64 (D.toInt (D.cell (14 : Nat) (nth r6 0)))), (.int .i64 (D.toInt (D.cell (15 : Nat) (nth r6 0)))), (.int .i64 (D.toInt (D.cell (16 : Nat) (nth r6 0)))), (.int .i64 (D.toInt (D.cell (17 : Nat) (nth r6 0)))), (.int .i64 (D.toInt (D.cell (18 : Nat) (nth r6 0)))), (.int .i64 (D.toInt (D.cell (19 : Nat) (nth r6 0)))), (.int .i64 (D.toInt (D.cell (20 : Nat) (nth r6 0))))]), (.arr true (D.nil (nth r7 0)) (.r4 (D.r4 (nth r7 0))))]) := by kernel_rfl

end Go.Proofs.YtjfjniebmdafeaaDoor
end
section
namespace Go.Proofs.YtjfjniebmdafeaaDoor
open Go.Ev
set_option maxRecDepth 20000
abbrev Acts := List (Int × Int × Int × Int)
end Go.Proofs.YtjfjniebmdafeaaDoor
end
section
namespace Go.Proofs.YtjfjniebmdafeaaDoor
open Go.Ev
set_option maxRecDepth 20000
structure Good (w : Wd) (K : Nat) : Prop where
  F : StF w.r w.s.1 w.s.2.1 w.s.2.2 w.b
  p : qi6 w.p.bi w.p.bs w.p.bo w.p.rain w.p.loss w.p.dec w.p.high w.p.low w.p.every = true
  k : 0 ≤ w.k ∧ w.k ≤ K
  L : LdB w.ld (40000000000 * K)
  f : isum w.s.2.1 - w.ld.mi + w.ld.mo = w.f
  g : isum w.s.2.2 - w.ld.ti + w.ld.ou = w.g
theorem Good.ok {w : Wd} {K : Nat} (G : Good w K) (hK : K ≤ 10000) : wdOk w = true := by
  have a := G.k; have b1 := G.L.mi; have b2 := G.L.mo; have b3 := G.L.ti; have b4 := G.L.ou
  unfold wdOk qk6 qho
  simp only [Bool.and_eq_true, decide_eq_true_eq]
  exact ⟨stF.2 G.F, G.p, qgf.2 (by omega), ⟨qgf.2 (by omega), qgf.2 (by omega), qgf.2 (by omega), qgf.2 (by omega)⟩, G.f, G.g⟩
theorem Good.mono {w : Wd} {K N : Nat} (G : Good w K) (h : K ≤ N) : Good w N := by
  have a := G.k; have b1 := G.L.mi; have b2 := G.L.mo; have b3 := G.L.ti; have b4 := G.L.ou
  exact ⟨G.F, G.p, by omega, ⟨by omega, by omega, by omega, by omega⟩, G.f, G.g⟩
def Act1 (x : Int × Int × Int × Int) : Prop := qag x.1 x.2.1 x.2.2.1 x.2.2.2 = true
end Go.Proofs.YtjfjniebmdafeaaDoor
end
section
namespace Go.Proofs.YtjfjniebmdafeaaDoor
open Go.Ev
set_option maxRecDepth 20000
theorem qid : ∀ (m t : List Int) (x y : Int), m.length = t.length → qh9 m t = true → 0 ≤ x → x ≤ 10000000 → 0 ≤ y → y ≤ 1000 * x → qh9 (m ++ [x]) (t ++ [y]) = true
  | [], [], x, y, _, _, h1, h2, h3, h4 => by simp only [List.nil_append, qh9, Bool.and_eq_true, qgf]; exact ⟨⟨h1, h2⟩, ⟨h3, h4⟩, trivial⟩
  | [], _ :: _, _, _, h, _, _, _, _, _ => by simp at h
  | _ :: _, [], _, _, h, _, _, _, _, _ => by simp at h
  | a :: m, b :: t, x, y, hl, h, h1, h2, h3, h4 => by
    simp only [List.cons_append, qh9, Bool.and_eq_true] at h ⊢
    exact ⟨h.1, h.2.1, qid m t x y (by simpa using hl) h.2.2 h1 h2 h3 h4⟩
theorem qa2 : ∀ (a : List Int) (x : Int), qa1 a = true → 0 ≤ x → x ≤ 1000000 → qa1 (a ++ [x]) = true
  | [], x, _, h1, h2 => by simp only [List.nil_append, qa1, Bool.and_eq_true, qgf]; exact ⟨⟨h1, h2⟩, trivial⟩
  | a :: l, x, h, h1, h2 => by
    simp only [List.cons_append, qa1, Bool.and_eq_true] at h ⊢
    exact ⟨h.1, qa2 l x h.2 h1 h2⟩
theorem qh6 (k : Nat) (hk : 2000000 ≤ k) (fu : List (Nat × Nat)) (v0 : Bool) (v1 : List Int) (v2 v3 : Int) (x0 : Int) (hx : 1 ≤ x0) (hx' : x0 ≤ 20000) (z : Bool) (l : List Int) (hl : (l.length : Int) ≤ 1048576) (z6 : Bool) (l7 : List Cell) (z8 : Bool) (l9 : List Int) (z10 : Bool) (l11 : List Int) (z12 : Bool) (l13 : List Int) (x14 : Int) (c : List Cell) (hc : 1 ≤ c.length) (hc' : c.length ≤ 128) (x17 : Int) (bd : List Int) (r : Int) :
    ∀ (n t : Nat) (i h : Int) (zm zt : Bool) (m tr : List Int), t ≤ c.length → c.length - t < n → 0 ≤ i → i ≤ l.length → (zm = false ∨ t = 0) → (zt = false ∨ t = 0) → m.length = t → tr.length = t → qh9 m tr = true → isum m ≤ 20000 * t →
    ∃ (m' t' : List Int) (i' h' : Int), lp (k + 10) spec_l07State [(.ptr true [(.arr false (v0) (.ints IntKind.u8 (v1))), (.int .i64 (v2)), (.int .i64 (v3))])] fu 9 (n) (qj3 x0 (t : Int) z l i h z6 l7 z8 l9 z10 l11 z12 l13 x14 false c x17 zm m zt tr false bd r) = some [.agg [.int .i64 (r), .arr true (false) (.r3 (c)), .arr true (false) (.ints .i64 (m')), .arr true (false) (.ints .i64 (t')), .arr true (false) (.ints .i64 (bd))], .ptr true [.arr false (z) (.ints .u8 (l)), .int .i64 (i'), .int .i64 (h')]] ∧ (0 ≤ i' ∧ i' ≤ l.length) ∧ m'.length = c.length ∧ t'.length = c.length ∧ qh9 m' t' = true ∧ isum m' ≤ 2560000
  | 0, t, i, h, zm, zt, m, tr, ht, hn, h0, h1, hzm, hzt, lm, lt, ok, sm => by omega
  | n + 1, t, i, h, zm, zt, m, tr, ht, hn, h0, h1, hzm, hzt, lm, lt, ok, sm => by
    have e := qhk (k + 10) n fu v0 v1 v2 v3 x0 (t : Int) z l i h z6 l7 z8 l9 z10 l11 z12 l13 x14 false c x17 zm m zt tr false bd r
    by_cases g : t < c.length
    · have la : ∀ x : Int, (m ++ [x]).length = t + 1 := fun x => by rw [List.length_append, lm]; rfl
      have lb : ∀ x : Int, (tr ++ [x]).length = t + 1 := fun x => by rw [List.length_append, lt]; rfl
      have step : ∀ (x y : Int), 0 ≤ x → x < 20000 → 0 ≤ y → y ≤ 1000 * x → ∀ (i2 k2 : Int), 0 ≤ i2 → i2 ≤ l.length → _ := fun x y hx0 hx1 hy0 hy1 i2 k2 hi0 hi1 =>
        qh6 k hk fu v0 v1 v2 v3 x0 hx hx' z l hl z6 l7 z8 l9 z10 l11 z12 l13 x14 c hc hc' x17 bd r n (t + 1) i2 k2 false false (m ++ [x]) (tr ++ [y]) (by omega) (by omega) hi0 hi1 (Or.inl rfl) (Or.inl rfl) (la x) (lb y) (qid m tr x y (by omega) ok (by omega) (by omega) hy0 hy1) (by rw [qgl]; simp only [isum]; omega)
      obtain ⟨u1, i1, k1, e1, b1, q1, r1⟩ := qcb (k + 8) (by omega) z l i h x0 hl h0 h1 hx (by omega)
      obtain ⟨u2, i2, k2, e2, q2, r2⟩ := qce (k + 7) (by omega) z l i1 k1 6 hl q1 r1 (by omega) (by omega)
      cases u2
      · obtain ⟨u3, i3, k3, e3, b3, q3, r3⟩ := qcb (k + 8) (by omega) z l i2 k2 200 hl q2 r2 (by omega) (by omega)
        obtain ⟨u4, i4, k4, e4, b4, q4, r4⟩ := qcb (k + 8) (by omega) z l i3 k3 (u1 + 1) hl q3 r3 (by omega) (by omega)
        have p0 : 0 ≤ u1 * u3 := Int.mul_nonneg b1.1 b3.1
        have p1 : u1 * u3 ≤ u1 * 199 := Int.mul_le_mul_of_nonneg_left (by omega) b1.1
        obtain ⟨m', t', i', h', e5, p5⟩ := step u1 (u1 * u3 + u4) (by omega) (by omega) (by omega) (by omega) i4 k4 q4 r4
        simp (disch := omega) only [qa4, nth0, nth1, nth2, nth3, bit, qcy, qcz, qda, qdf, qdg, qdh, qdi, qdj, qdk, qdl, qc0, qc1, qc2, qc3, qc4, qc5, qc6, qc7, qc8, qc9, qdb, qdc, qdd, qde, qkt, qks, qku, qip, qjf, qjh, qgi, qa7, qkn, nI, qdu, qds, Bool.not_true, Bool.not_false, Bool.and_true, Bool.true_and, Bool.and_false, Bool.false_and, Bool.or_true, Bool.true_or, Bool.or_false, Bool.false_or, beq_self_eq_true, dTT, dFF, dT, dF, bigI, big0, qio, qk7, qk8, List.length_set, List.length_replicate, Int.toNat_natCast, qcw, qcx, imax, imin, e1, qjc, qjd, qje, e2, e3, e4, la, lb, e5] at e
        exact ⟨m', t', i', h', e, p5⟩
      · obtain ⟨u0, i0, k0, e0, b0, q0, r0⟩ := qcb (k + 8) (by omega) z l i2 k2 3 hl q2 r2 (by omega) (by omega)
        obtain ⟨u3, i3, k3, e3, b3, q3, r3⟩ := qcb (k + 8) (by omega) z l i0 k0 200 hl q0 r0 (by omega) (by omega)
        obtain ⟨u4, i4, k4, e4, b4, q4, r4⟩ := qcb (k + 8) (by omega) z l i3 k3 (u0 + 1) hl q3 r3 (by omega) (by omega)
        have p0 : 0 ≤ u0 * u3 := Int.mul_nonneg b0.1 b3.1
        have p1 : u0 * u3 ≤ u0 * 199 := Int.mul_le_mul_of_nonneg_left (by omega) b0.1
        obtain ⟨m', t', i', h', e5, p5⟩ := step u0 (u0 * u3 + u4) (by omega) (by omega) (by omega) (by omega) i4 k4 q4 r4
        simp (disch := omega) only [qa4, nth0, nth1, nth2, nth3, bit, qcy, qcz, qda, qdf, qdg, qdh, qdi, qdj, qdk, qdl, qc0, qc1, qc2, qc3, qc4, qc5, qc6, qc7, qc8, qc9, qdb, qdc, qdd, qde, qkt, qks, qku, qip, qjf, qjh, qgi, qa7, qkn, nI, qdu, qds, Bool.not_true, Bool.not_false, Bool.and_true, Bool.true_and, Bool.and_false, Bool.false_and, Bool.or_true, Bool.true_or, Bool.or_false, Bool.false_or, beq_self_eq_true, dTT, dFF, dT, dF, bigI, big0, qio, qk7, qk8, List.length_set, List.length_replicate, Int.toNat_natCast, qcw, qcx, imax, imin, e1, qjc, qjd, qje, e2, e0, e3, e4, la, lb, e5] at e
        exact ⟨m', t', i', h', e, p5⟩
    · have : zm = false := by rcases hzm with h | h <;> omega
      subst this
      have : zt = false := by rcases hzt with h | h <;> omega
      subst this
      simp (disch := omega) only [qa4, nth0, nth1, nth2, nth3, bit, qcy, qcz, qda, qdf, qdg, qdh, qdi, qdj, qdk, qdl, qc0, qc1, qc2, qc3, qc4, qc5, qc6, qc7, qc8, qc9, qdb, qdc, qdd, qde, qkt, qks, qku, qip, qjf, qjh, qgi, qa7, qkn, nI, qdu, qds, Bool.not_true, Bool.not_false, Bool.and_true, Bool.true_and, Bool.and_false, Bool.false_and, Bool.or_true, Bool.true_or, Bool.or_false, Bool.false_or, beq_self_eq_true, dTT, dFF, dT, dF, bigI, big0, qio, qk7, qk8, List.length_set, List.length_replicate, Int.toNat_natCast, qcw, qcx, imax, imin] at e
      exact ⟨m, tr, i, h, e, ⟨h0, h1⟩, by omega, by omega, ok, by omega⟩
theorem qh5 (k : Nat) (hk : 2000000 ≤ k) (fu : List (Nat × Nat)) (v0 : Bool) (v1 : List Int) (v2 v3 : Int) (z : Bool) (l : List Int) (hl : (l.length : Int) ≤ 1048576) (z6 : Bool) (l7 : List Cell) (z8 : Bool) (l9 : List Int) (z10 : Bool) (l11 : List Int) (z12 : Bool) (l13 : List Int) (x14 : Int) (c : List Cell) (R : Nat) (hR : 1 ≤ R) (hR' : R ≤ 3) (hm : qie R 0 c = true) (hu : unb c < 0) :
    ∀ (n t : Nat) (i h : Int) (zb : Bool) (bd : List Int), t ≤ R → R - t < n → 0 ≤ i → i ≤ l.length → (zb = false ∨ t = 0) → bd.length = t → qa1 bd = true →
    ∃ (m' t' bd' : List Int) (i' h' : Int), lp (k + 10) spec_l07State [(.ptr true [(.arr false (v0) (.ints IntKind.u8 (v1))), (.int .i64 (v2)), (.int .i64 (v3))])] fu 4 (n) (qj2 (t : Int) z l i h z6 l7 z8 l9 z10 l11 z12 l13 x14 false c (R : Int) true [] true [] zb bd (R : Int)) = some [.agg [.int .i64 ((R : Int)), .arr true (false) (.r3 (c)), .arr true (false) (.ints .i64 (m')), .arr true (false) (.ints .i64 (t')), .arr true (false) (.ints .i64 (bd'))], .ptr true [.arr false (z) (.ints .u8 (l)), .int .i64 (i'), .int .i64 (h')]] ∧ (0 ≤ i' ∧ i' ≤ l.length) ∧ StF (R : Int) c m' t' bd' ∧ isum m' ≤ 2560000
  | 0, t, i, h, zb, bd, ht, hn, h0, h1, hz, lb, ok => by omega
  | n + 1, t, i, h, zb, bd, ht, hn, h0, h1, hz, lb, ok => by
    have e := qhj (k + 10) n fu v0 v1 v2 v3 (t : Int) z l i h z6 l7 z8 l9 z10 l11 z12 l13 x14 false c (R : Int) true [] true [] zb bd (R : Int)
    by_cases g : t < R
    · have la : ∀ x : Int, (bd ++ [x]).length = t + 1 := fun x => by rw [List.length_append, lb]; rfl
      obtain ⟨u1, i1, k1, e1, b1, q1, r1⟩ := qcb (k + 8) (by omega) z l i h 4 hl h0 h1 (by omega) (by omega)
      obtain ⟨u2, i2, k2, e2, b2, q2, r2⟩ := qcb (k + 8) (by omega) z l i1 k1 5000 hl q1 r1 (by omega) (by omega)
      have p0 : 0 ≤ u1 * u2 := Int.mul_nonneg b1.1 b2.1
      have p1 : u1 * u2 ≤ u1 * 4999 := Int.mul_le_mul_of_nonneg_left (by omega) b1.1
      obtain ⟨m', t', bd', i', h', e5, p5⟩ := qh5 k hk fu v0 v1 v2 v3 z l hl z6 l7 z8 l9 z10 l11 z12 l13 x14 c R hR hR' hm hu n (t + 1) i2 k2 false (bd ++ [u1 * u2]) (by omega) (by omega) q2 r2 (Or.inl rfl) (la _) (qa2 bd _ ok p0 (by omega))
      simp (disch := omega) only [qa4, nth0, nth1, nth2, nth3, bit, qcy, qcz, qda, qdf, qdg, qdh, qdi, qdj, qdk, qdl, qc0, qc1, qc2, qc3, qc4, qc5, qc6, qc7, qc8, qc9, qdb, qdc, qdd, qde, qkt, qks, qku, qip, qjf, qjh, qgi, qa7, qkn, nI, qdu, qds, Bool.not_true, Bool.not_false, Bool.and_true, Bool.true_and, Bool.and_false, Bool.false_and, Bool.or_true, Bool.true_or, Bool.or_false, Bool.false_or, beq_self_eq_true, dTT, dFF, dT, dF, bigI, big0, qio, qk7, qk8, List.length_set, List.length_replicate, Int.toNat_natCast, qcw, qcx, imax, imin, e1, qjc, qjd, qje, e2, la, e5] at e
      exact ⟨m', t', bd', i', h', e, p5⟩
    · have : zb = false := by rcases hz with h | h <;> omega
      subst this
      obtain ⟨u1, i1, k1, e1, b1, q1, r1⟩ := qcb (k + 8) (by omega) z l i h 20000 hl h0 h1 (by omega) (by omega)
      have ml := qij hm
      obtain ⟨m', t', i', h', e5, p5, lm, lt, mk, sm⟩ := qh6 k hk fu v0 v1 v2 v3 (1 + u1) (by omega) (by omega) z l hl z6 l7 z8 l9 z10 l11 z12 l13 x14 c ml.1 ml.2 (R : Int) bd (R : Int) (k + 10) 0 i1 k1 true true [] [] (by omega) (by omega) q1 r1 (Or.inr rfl) (Or.inr rfl) rfl rfl rfl (by simp [isum])
      rw [show ((0 : Nat) : Int) = 0 from rfl] at e5
      simp (disch := omega) only [qa4, nth0, nth1, nth2, nth3, bit, qcy, qcz, qda, qdf, qdg, qdh, qdi, qdj, qdk, qdl, qc0, qc1, qc2, qc3, qc4, qc5, qc6, qc7, qc8, qc9, qdb, qdc, qdd, qde, qkt, qks, qku, qip, qjf, qjh, qgi, qa7, qkn, nI, qdu, qds, Bool.not_true, Bool.not_false, Bool.and_true, Bool.true_and, Bool.and_false, Bool.false_and, Bool.or_true, Bool.true_or, Bool.or_false, Bool.false_or, beq_self_eq_true, dTT, dFF, dT, dF, bigI, big0, qio, qk7, qk8, List.length_set, List.length_replicate, Int.toNat_natCast, qcw, qcx, imax, imin, e1, qjc, qjd, qje, e5] at e
      exact ⟨m', t', bd, i', h', e, p5, ⟨hm, hu, lm, lt, by omega, mk, ok, by omega⟩, sm⟩
theorem qco (k : Nat) (hk : 2000000 ≤ k) (z : Bool) (l : List Int) (i h : Int) (hl : (l.length : Int) ≤ 1048576) (h0 : 0 ≤ i) (h1 : i ≤ l.length) :
    ∃ (r : Int) (c : List Cell) (m t b : List Int) (i' h' : Int), go (k + 11) spec_l07State [.ptr true [.arr false (z) (.ints .u8 (l)), .int .i64 (i), .int .i64 (h)]] = some [.agg [.int .i64 (r), .arr true (false) (.r3 (c)), .arr true (false) (.ints .i64 (m)), .arr true (false) (.ints .i64 (t)), .arr true (false) (.ints .i64 (b))], .ptr true [.arr false (z) (.ints .u8 (l)), .int .i64 (i'), .int .i64 (h')]] ∧ (0 ≤ i' ∧ i' ≤ l.length) ∧ StF r c m t b ∧ r ≤ 3 ∧ isum m ≤ 2560000 := by
  have e := qfj (k + 10) z l i h
  obtain ⟨r, c, i1, k1, e1, q1, hm, hu, r3⟩ := qcl k (by omega) z l i h hl h0 h1
  have rr := (qii _ _ _ hm).1
  obtain ⟨R, rfl⟩ : ∃ R : Nat, r = (R : Int) := ⟨r.toNat, by omega⟩
  obtain ⟨m', t', bd', i', h', e5, p5, S, sm⟩ := qh5 k hk [] z l i h z l hl true [] true [] true [] true [] 0 c R (by omega) (by omega) hm hu (k + 10) 0 i1 k1 true [] (by omega) (by omega) q1.1 q1.2 (Or.inr rfl) rfl rfl
  rw [show ((0 : Nat) : Int) = 0 from rfl] at e5
  simp (disch := omega) only [qa4, nth0, nth1, nth2, nth3, bit, qcy, qcz, qda, qdf, qdg, qdh, qdi, qdj, qdk, qdl, qc0, qc1, qc2, qc3, qc4, qc5, qc6, qc7, qc8, qc9, qdb, qdc, qdd, qde, qkt, qks, qku, qip, qjf, qjh, qgi, qa7, qkn, nI, qdu, qds, Bool.not_true, Bool.not_false, Bool.and_true, Bool.true_and, Bool.and_false, Bool.false_and, Bool.or_true, Bool.true_or, Bool.or_false, Bool.false_or, beq_self_eq_true, dTT, dFF, dT, dF, bigI, big0, qio, qk7, qk8, List.length_set, List.length_replicate, Int.toNat_natCast, qcw, qcx, imax, imin, e1, qjc, qjd, qje, e5] at e
  exact ⟨_, _, _, _, _, _, _, e, p5, S, r3, sm⟩
end Go.Proofs.YtjfjniebmdafeaaDoor
end
section
namespace Go.Proofs.YtjfjniebmdafeaaDoor
open Go.Ev
set_option maxRecDepth 20000
theorem qbx (k : Nat) (hk : 2000000 ≤ k) (z : Bool) (l : List Int) : go (k + 1) laws_big [.arr false z (.ints .u8 l)] = some [.bool (decide (1048576 < (l.length : Int)))] := by
  rw [qeq]
theorem qim {u v B : Int} (hu : 0 ≤ u ∧ u < 2) (hv : 0 ≤ v ∧ v < B) : 0 ≤ u * v ∧ u * v < B := by
  have h1 : 0 ≤ u * v := Int.mul_nonneg hu.1 hv.1
  have h2 : u * v ≤ 1 * v := Int.mul_le_mul_of_nonneg_right (by omega) hv.1
  omega
theorem qcq (k : Nat) (hk : 2000000 ≤ k) (z : Bool) (l : List Int) (i h : Int) (hl : (l.length : Int) ≤ 1048576) (h0 : 0 ≤ i) (h1 : i ≤ l.length) :
    ∃ (b0 b1 b2 i' h' : Int), go (k + 3) spec_l13Border [.ptr true [.arr false (z) (.ints .u8 (l)), .int .i64 (i), .int .i64 (h)]] = some [.agg [.int .i64 b0, .int .i64 b1, .int .i64 b2], .ptr true [.arr false (z) (.ints .u8 (l)), .int .i64 (i'), .int .i64 (h')]] ∧ (0 ≤ i' ∧ i' ≤ l.length) ∧ qa8 b0 b1 b2 = true ∧ b0 ≤ 3000 := by
  have e := qfl (k + 2) z l i h
  obtain ⟨u1, i1, k1, e1, b1, q1, r1⟩ := qcb k (by omega) z l i h 2 hl h0 h1 (by omega) (by omega)
  obtain ⟨u2, i2, k2, e2, b2, q2, r2⟩ := qcb k (by omega) z l i1 k1 3000 hl q1 r1 (by omega) (by omega)
  obtain ⟨u3, i3, k3, e3, b3, q3, r3⟩ := qcb k (by omega) z l i2 k2 1001 hl q2 r2 (by omega) (by omega)
  obtain ⟨u4, i4, k4, e4, b4, q4, r4⟩ := qcb k (by omega) z l i3 k3 2 hl q3 r3 (by omega) (by omega)
  obtain ⟨u5, i5, k5, e5, b5, q5, r5⟩ := qcb k (by omega) z l i4 k4 251 hl q4 r4 (by omega) (by omega)
  have m1 := qim b1 b2; have m2 := qim b4 b5
  simp (disch := omega) only [qa4, nth0, nth1, nth2, nth3, bit, qcy, qcz, qda, qdf, qdg, qdh, qdi, qdj, qdk, qdl, qc0, qc1, qc2, qc3, qc4, qc5, qc6, qc7, qc8, qc9, qdb, qdc, qdd, qde, qkt, qks, qku, qip, qjf, qjh, qgi, qa7, qkn, nI, qdu, qds, Bool.not_true, Bool.not_false, Bool.and_true, Bool.true_and, Bool.and_false, Bool.false_and, Bool.or_true, Bool.true_or, Bool.or_false, Bool.false_or, beq_self_eq_true, dTT, dFF, dT, dF, bigI, big0, qio, qk7, qk8, List.length_set, List.length_replicate, Int.toNat_natCast, qcw, qcx, imax, imin, e1, e2, e3, e4, e5, qjc, qjd, qje] at e
  exact ⟨_, _, _, _, _, e, ⟨q5, r5⟩, by simp only [qa8, Bool.and_eq_true, qgf]; omega, by omega⟩
structure PlD (p : Pl) : Prop where
  ok : qi6 p.bi p.bs p.bo p.rain p.loss p.dec p.high p.low p.every = true
  bi : p.bi ≤ 3000
  rain : p.rain ≤ 900
theorem qcr (k : Nat) (hk : 2000000 ≤ k) (z : Bool) (l : List Int) (i h : Int) (hl : (l.length : Int) ≤ 1048576) (h0 : 0 ≤ i) (h1 : i ≤ l.length) :
    ∃ (p : Pl) (i' h' : Int), go (k + 4) spec_l18Plan [.ptr true [.arr false (z) (.ints .u8 (l)), .int .i64 (i), .int .i64 (h)]] = some [plD p, .ptr true [.arr false (z) (.ints .u8 (l)), .int .i64 (i'), .int .i64 (h')]] ∧ (0 ≤ i' ∧ i' ≤ l.length) ∧ PlD p := by
  have e := qfm (k + 3) z l i h
  obtain ⟨c0, c1, c2, i1, k1, e1, ⟨q1, r1⟩, hb, hc⟩ := qcq k (by omega) z l i h hl h0 h1
  obtain ⟨u2, i2, k2, e2, b2, q2, r2⟩ := qcb (k + 1) (by omega) z l i1 k1 2 hl q1 r1 (by omega) (by omega)
  obtain ⟨u3, i3, k3, e3, b3, q3, r3⟩ := qcb (k + 1) (by omega) z l i2 k2 900 hl q2 r2 (by omega) (by omega)
  obtain ⟨u4, i4, k4, e4, b4, q4, r4⟩ := qcb (k + 1) (by omega) z l i3 k3 2 hl q3 r3 (by omega) (by omega)
  obtain ⟨u5, i5, k5, e5, b5, q5, r5⟩ := qcb (k + 1) (by omega) z l i4 k4 400 hl q4 r4 (by omega) (by omega)
  obtain ⟨u6, i6, k6, e6, b6, q6, r6⟩ := qcb (k + 1) (by omega) z l i5 k5 2 hl q5 r5 (by omega) (by omega)
  obtain ⟨u7, i7, k7, e7, b7, q7, r7⟩ := qcb (k + 1) (by omega) z l i6 k6 200 hl q6 r6 (by omega) (by omega)
  obtain ⟨u8, i8, k8, e8, b8, q8, r8⟩ := qcb (k + 1) (by omega) z l i7 k7 4000 hl q7 r7 (by omega) (by omega)
  obtain ⟨u9, i9, k9, e9, b9, q9, r9⟩ := qcb (k + 1) (by omega) z l i8 k8 300 hl q8 r8 (by omega) (by omega)
  obtain ⟨u10, i10, k10, e10, b10, q10, r10⟩ := qcb (k + 1) (by omega) z l i9 k9 3 hl q9 r9 (by omega) (by omega)
  have m1 := qim b2 b3; have m2 := qim b4 b5; have m3 := qim b6 b7
  simp (disch := omega) only [qa4, nth0, nth1, nth2, nth3, bit, qcy, qcz, qda, qdf, qdg, qdh, qdi, qdj, qdk, qdl, qc0, qc1, qc2, qc3, qc4, qc5, qc6, qc7, qc8, qc9, qdb, qdc, qdd, qde, qkt, qks, qku, qip, qjf, qjh, qgi, qa7, qkn, nI, qdu, qds, Bool.not_true, Bool.not_false, Bool.and_true, Bool.true_and, Bool.and_false, Bool.false_and, Bool.or_true, Bool.true_or, Bool.or_false, Bool.false_or, beq_self_eq_true, dTT, dFF, dT, dF, bigI, big0, qio, qk7, qk8, List.length_set, List.length_replicate, Int.toNat_natCast, qcw, qcx, imax, imin, e1, e2, e3, e4, e5, e6, e7, e8, e9, e10, qjc, qjd, qje] at e
  refine ⟨⟨c0, c1, c2, u2 * u3, u4 * u5, u6 * u7, 200 + u8, u9, u10⟩, _, _, e, ⟨q10, r10⟩, ⟨?_, hc, by show u2 * u3 ≤ 900; omega⟩⟩
  simp only [qi6, Bool.and_eq_true, qgf]; exact ⟨hb, by omega, by omega, by omega, by omega, by omega, by omega⟩
def nwW (r : Int) (l : List Cell) (m t b : List Int) (p : Pl) : Wd := ⟨r, (l, m, t), b, p, 0, ⟨0, 0, 0, 0⟩, isum m, isum t⟩
theorem z0 : (0 : Int) ≤ 0 ∧ (0 : Int) ≤ ((0 : Nat) : Int) := by decide
theorem z0' : (0 : Int) ≤ 0 ∧ (0 : Int) ≤ 40000000000 * ((0 : Nat) : Int) := by decide
theorem qiu {r : Int} {l : List Cell} {m t b : List Int} (F : StF r l m t b) {p : Pl} (P : PlD p) : Good (nwW r l m t b p) 0 :=
  ⟨F, P.ok, z0, ⟨z0', z0', z0', z0'⟩, by show isum m - 0 + 0 = isum m; omega, by show isum t - 0 + 0 = isum t; omega⟩
theorem qca (k : Nat) (hk : 2000000 ≤ k) (r : Int) (l : List Cell) (m t b : List Int) (F : StF r l m t b) (p : Pl) (P : PlD p) :
    go (k + 8) spec_WorldNew [.agg [.int .i64 (r), .arr false (false) (.r3 (l)), .arr false (false) (.ints .i64 (m)), .arr false (false) (.ints .i64 (t)), .arr false (false) (.ints .i64 (b))], plD p] = some [wdO (nwW r l m t b p), .bool true] := by
  have := F.len; have := F.bl; have := F.rr
  have e := qb9 k hk r l m t b p.bi p.bs p.bo p.rain p.loss p.dec p.high p.low p.every (by omega) (by omega)
  rw [stF.2 F, P.ok] at e
  exact e
set_option maxHeartbeats 1000000 in
theorem qcs (k : Nat) (hk : 2000000 ≤ k) (z : Bool) (l : List Int) (i h : Int) (hl : (l.length : Int) ≤ 1048576) (h0 : 0 ≤ i) (h1 : i ≤ l.length) :
    ∃ (a b c d i' h' : Int), go (k + 3) spec_l37Act [.ptr true [.arr false (z) (.ints .u8 (l)), .int .i64 (i), .int .i64 (h)]] = some [.agg [.int .i64 a, .int .i64 b, .int .i64 c, .int .i64 d], .ptr true [.arr false (z) (.ints .u8 (l)), .int .i64 (i'), .int .i64 (h')]] ∧ (0 ≤ i' ∧ i' ≤ l.length) ∧ Act1 (a, b, c, d) := by
  have e := qfn (k + 2) z l i h
  obtain ⟨u1, i1, k1, e1, b1, q1, r1⟩ := qcb k (by omega) z l i h 8 hl h0 h1 (by omega) (by omega)
  have D := fun (i : Int) (h : Int) (B : Int) (p : 0 ≤ i) (q : i ≤ l.length) (p1 : 1 ≤ B) (p2 : B ≤ 5000) => qcb k (by omega) z l i h B hl p q (by omega) (by omega)
  by_cases g0 : u1 = 0
  · obtain ⟨u2, i2, k2, e2, b2, q2, r2⟩ := D i1 k1 900 q1 r1 (by omega) (by omega)
    simp (disch := omega) only [qa4, nth0, nth1, nth2, nth3, bit, qcy, qcz, qda, qdf, qdg, qdh, qdi, qdj, qdk, qdl, qc0, qc1, qc2, qc3, qc4, qc5, qc6, qc7, qc8, qc9, qdb, qdc, qdd, qde, qkt, qks, qku, qip, qjf, qjh, qgi, qa7, qkn, nI, qdu, qds, Bool.not_true, Bool.not_false, Bool.and_true, Bool.true_and, Bool.and_false, Bool.false_and, Bool.or_true, Bool.true_or, Bool.or_false, Bool.false_or, beq_self_eq_true, dTT, dFF, dT, dF, bigI, big0, qio, qk7, qk8, List.length_set, List.length_replicate, Int.toNat_natCast, qcw, qcx, imax, imin, e1, qjc, qjd, qje, g0, e2] at e
    exact ⟨_, _, _, _, _, _, e, ⟨q2, r2⟩, by show qag _ _ _ _ = true; simp [qag, sgl, qa8, qgf]; omega⟩
  by_cases g1 : u1 = 1
  · obtain ⟨u2, i2, k2, e2, b2, q2, r2⟩ := D i1 k1 900 q1 r1 (by omega) (by omega)
    simp (disch := omega) only [qa4, nth0, nth1, nth2, nth3, bit, qcy, qcz, qda, qdf, qdg, qdh, qdi, qdj, qdk, qdl, qc0, qc1, qc2, qc3, qc4, qc5, qc6, qc7, qc8, qc9, qdb, qdc, qdd, qde, qkt, qks, qku, qip, qjf, qjh, qgi, qa7, qkn, nI, qdu, qds, Bool.not_true, Bool.not_false, Bool.and_true, Bool.true_and, Bool.and_false, Bool.false_and, Bool.or_true, Bool.true_or, Bool.or_false, Bool.false_or, beq_self_eq_true, dTT, dFF, dT, dF, bigI, big0, qio, qk7, qk8, List.length_set, List.length_replicate, Int.toNat_natCast, qcw, qcx, imax, imin, e1, qjc, qjd, qje, g1, e2] at e
    exact ⟨_, _, _, _, _, _, e, ⟨q2, r2⟩, by show qag _ _ _ _ = true; simp [qag, sgl, qa8, qgf]; omega⟩
  by_cases g2 : u1 = 2
  · obtain ⟨u2, i2, k2, e2, b2, q2, r2⟩ := D i1 k1 3000 q1 r1 (by omega) (by omega)
    obtain ⟨u3, i3, k3, e3, b3, q3, r3⟩ := D i2 k2 1001 q2 r2 (by omega) (by omega)
    obtain ⟨u4, i4, k4, e4, b4, q4, r4⟩ := D i3 k3 251 q3 r3 (by omega) (by omega)
    simp (disch := omega) only [qa4, nth0, nth1, nth2, nth3, bit, qcy, qcz, qda, qdf, qdg, qdh, qdi, qdj, qdk, qdl, qc0, qc1, qc2, qc3, qc4, qc5, qc6, qc7, qc8, qc9, qdb, qdc, qdd, qde, qkt, qks, qku, qip, qjf, qjh, qgi, qa7, qkn, nI, qdu, qds, Bool.not_true, Bool.not_false, Bool.and_true, Bool.true_and, Bool.and_false, Bool.false_and, Bool.or_true, Bool.true_or, Bool.or_false, Bool.false_or, beq_self_eq_true, dTT, dFF, dT, dF, bigI, big0, qio, qk7, qk8, List.length_set, List.length_replicate, Int.toNat_natCast, qcw, qcx, imax, imin, e1, qjc, qjd, qje, g2, e2, e3, e4] at e
    exact ⟨_, _, _, _, _, _, e, ⟨q4, r4⟩, by show qag _ _ _ _ = true; simp [qag, sgl, qa8, qgf]; omega⟩
  by_cases g3 : u1 = 3
  · obtain ⟨u2, i2, k2, e2, b2, q2, r2⟩ := D i1 k1 300 q1 r1 (by omega) (by omega)
    simp (disch := omega) only [qa4, nth0, nth1, nth2, nth3, bit, qcy, qcz, qda, qdf, qdg, qdh, qdi, qdj, qdk, qdl, qc0, qc1, qc2, qc3, qc4, qc5, qc6, qc7, qc8, qc9, qdb, qdc, qdd, qde, qkt, qks, qku, qip, qjf, qjh, qgi, qa7, qkn, nI, qdu, qds, Bool.not_true, Bool.not_false, Bool.and_true, Bool.true_and, Bool.and_false, Bool.false_and, Bool.or_true, Bool.true_or, Bool.or_false, Bool.false_or, beq_self_eq_true, dTT, dFF, dT, dF, bigI, big0, qio, qk7, qk8, List.length_set, List.length_replicate, Int.toNat_natCast, qcw, qcx, imax, imin, e1, qjc, qjd, qje, g3, e2] at e
    exact ⟨_, _, _, _, _, _, e, ⟨q2, r2⟩, by show qag _ _ _ _ = true; simp [qag, sgl, qa8, qgf]; omega⟩
  by_cases g4 : u1 = 4
  · obtain ⟨u2, i2, k2, e2, b2, q2, r2⟩ := D i1 k1 3000 q1 r1 (by omega) (by omega)
    obtain ⟨u3, i3, k3, e3, b3, q3, r3⟩ := D i2 k2 400 q2 r2 (by omega) (by omega)
    obtain ⟨u4, i4, k4, e4, b4, q4, r4⟩ := D i3 k3 3 q3 r3 (by omega) (by omega)
    simp (disch := omega) only [qa4, nth0, nth1, nth2, nth3, bit, qcy, qcz, qda, qdf, qdg, qdh, qdi, qdj, qdk, qdl, qc0, qc1, qc2, qc3, qc4, qc5, qc6, qc7, qc8, qc9, qdb, qdc, qdd, qde, qkt, qks, qku, qip, qjf, qjh, qgi, qa7, qkn, nI, qdu, qds, Bool.not_true, Bool.not_false, Bool.and_true, Bool.true_and, Bool.and_false, Bool.false_and, Bool.or_true, Bool.true_or, Bool.or_false, Bool.false_or, beq_self_eq_true, dTT, dFF, dT, dF, bigI, big0, qio, qk7, qk8, List.length_set, List.length_replicate, Int.toNat_natCast, qcw, qcx, imax, imin, e1, qjc, qjd, qje, g4, e2, e3, e4] at e
    exact ⟨_, _, _, _, _, _, e, ⟨q4, r4⟩, by show qag _ _ _ _ = true; simp [qag, sgl, qa8, qgf]; omega⟩
  by_cases g5 : u1 = 5
  · obtain ⟨u2, i2, k2, e2, b2, q2, r2⟩ := D i1 k1 40 q1 r1 (by omega) (by omega)
    obtain ⟨u3, i3, k3, e3, b3, q3, r3⟩ := D i2 k2 5000 q2 r2 (by omega) (by omega)
    obtain ⟨u4, i4, k4, e4, b4, q4, r4⟩ := D i3 k3 1001 q3 r3 (by omega) (by omega)
    simp (disch := omega) only [qa4, nth0, nth1, nth2, nth3, bit, qcy, qcz, qda, qdf, qdg, qdh, qdi, qdj, qdk, qdl, qc0, qc1, qc2, qc3, qc4, qc5, qc6, qc7, qc8, qc9, qdb, qdc, qdd, qde, qkt, qks, qku, qip, qjf, qjh, qgi, qa7, qkn, nI, qdu, qds, Bool.not_true, Bool.not_false, Bool.and_true, Bool.true_and, Bool.and_false, Bool.false_and, Bool.or_true, Bool.true_or, Bool.or_false, Bool.false_or, beq_self_eq_true, dTT, dFF, dT, dF, bigI, big0, qio, qk7, qk8, List.length_set, List.length_replicate, Int.toNat_natCast, qcw, qcx, imax, imin, e1, qjc, qjd, qje, g5, e2, e3, e4] at e
    exact ⟨_, _, _, _, _, _, e, ⟨q4, r4⟩, by show qag _ _ _ _ = true; simp [qag, sgl, qa8, qgf]; omega⟩
  · obtain ⟨u2, i2, k2, e2, b2, q2, r2⟩ := D i1 k1 3 q1 r1 (by omega) (by omega)
    simp (disch := omega) only [qa4, nth0, nth1, nth2, nth3, bit, qcy, qcz, qda, qdf, qdg, qdh, qdi, qdj, qdk, qdl, qc0, qc1, qc2, qc3, qc4, qc5, qc6, qc7, qc8, qc9, qdb, qdc, qdd, qde, qkt, qks, qku, qip, qjf, qjh, qgi, qa7, qkn, nI, qdu, qds, Bool.not_true, Bool.not_false, Bool.and_true, Bool.true_and, Bool.and_false, Bool.false_and, Bool.or_true, Bool.true_or, Bool.or_false, Bool.false_or, beq_self_eq_true, dTT, dFF, dT, dF, bigI, big0, qio, qk7, qk8, List.length_set, List.length_replicate, Int.toNat_natCast, qcw, qcx, imax, imin, e1, qjc, qjd, qje, e2] at e
    exact ⟨_, _, _, _, _, _, e, ⟨q2, r2⟩, by show qag _ _ _ _ = true; simp [qag, sgl, qa8, qgf]; omega⟩
theorem qh8 (k : Nat) (hk : 2000000 ≤ k) (fu : List (Nat × Nat)) (v0 : Bool) (v1 : List Int) (v2 v3 : Int) (z : Bool) (l : List Int) (hl : (l.length : Int) ≤ 1048576) :
    ∀ (n i : Nat) (j h : Int) (A : Acts), i ≤ 6 → 6 - i < n → 0 ≤ j → j ≤ l.length → A.length = i → (∀ x ∈ A, Act1 x) →
    ∃ (A' : Acts) (j' h' : Int), lp (k + 3) spec_l37Acts [(.ptr true [(.arr false (v0) (.ints IntKind.u8 (v1))), (.int .i64 (v2)), (.int .i64 (v3))])] fu 3 (n) (qj5 (i : Int) z l j h false A) = some [.arr true false (.r4 A'), .ptr true [.arr false (z) (.ints .u8 (l)), .int .i64 (j'), .int .i64 (h')]] ∧ A'.length ≤ 6 ∧ (∀ x ∈ A', Act1 x)
  | 0, i, j, h, A, hi, hn, h0, h1, hA, ok => by omega
  | n + 1, i, j, h, A, hi, hn, h0, h1, hA, ok => by
    have e := qhm (k + 3) n fu v0 v1 v2 v3 (i : Int) z l j h false A
    obtain ⟨u1, i1, k1, e1, b1, q1, r1⟩ := qcb (k + 1) (by omega) z l j h 7 hl h0 h1 (by omega) (by omega)
    by_cases g : (i : Int) < u1
    · obtain ⟨a, b, c, d, i2, k2, e2, q2, o2⟩ := qcs k (by omega) z l i1 k1 hl q1 r1
      have la : (A ++ [(a, b, c, d)]).length = i + 1 := by rw [List.length_append, hA]; rfl
      obtain ⟨A', j', h', e5, p5⟩ := qh8 k hk fu v0 v1 v2 v3 z l hl n (i + 1) i2 k2 (A ++ [(a, b, c, d)]) (by omega) (by omega) q2.1 q2.2 la (fun x hx => by
        rcases List.mem_append.1 hx with hx | hx
        · exact ok x hx
        · rw [List.mem_singleton] at hx; rw [hx]; exact o2)
      simp (disch := omega) only [qa4, nth0, nth1, nth2, nth3, bit, qcy, qcz, qda, qdf, qdg, qdh, qdi, qdj, qdk, qdl, qc0, qc1, qc2, qc3, qc4, qc5, qc6, qc7, qc8, qc9, qdb, qdc, qdd, qde, qkt, qks, qku, qip, qjf, qjh, qgi, qa7, qkn, nI, qdu, qds, Bool.not_true, Bool.not_false, Bool.and_true, Bool.true_and, Bool.and_false, Bool.false_and, Bool.or_true, Bool.true_or, Bool.or_false, Bool.false_or, beq_self_eq_true, dTT, dFF, dT, dF, bigI, big0, qio, qk7, qk8, List.length_set, List.length_replicate, Int.toNat_natCast, qcw, qcx, imax, imin, e1, qjc, qjd, qje, e2, la, e5] at e
      exact ⟨A', j', h', e, p5⟩
    · simp (disch := omega) only [qa4, nth0, nth1, nth2, nth3, bit, qcy, qcz, qda, qdf, qdg, qdh, qdi, qdj, qdk, qdl, qc0, qc1, qc2, qc3, qc4, qc5, qc6, qc7, qc8, qc9, qdb, qdc, qdd, qde, qkt, qks, qku, qip, qjf, qjh, qgi, qa7, qkn, nI, qdu, qds, Bool.not_true, Bool.not_false, Bool.and_true, Bool.true_and, Bool.and_false, Bool.false_and, Bool.or_true, Bool.true_or, Bool.or_false, Bool.false_or, beq_self_eq_true, dTT, dFF, dT, dF, bigI, big0, qio, qk7, qk8, List.length_set, List.length_replicate, Int.toNat_natCast, qcw, qcx, imax, imin, e1, qjc, qjd, qje] at e
      exact ⟨A, _, _, e, by omega, ok⟩
theorem qct (k : Nat) (hk : 2000000 ≤ k) (z : Bool) (l : List Int) (i h : Int) (hl : (l.length : Int) ≤ 1048576) (h0 : 0 ≤ i) (h1 : i ≤ l.length) :
    ∃ (A : Acts) (i' h' : Int), go (k + 4) spec_l37Acts [.ptr true [.arr false (z) (.ints .u8 (l)), .int .i64 (i), .int .i64 (h)]] = some [.arr true false (.r4 A), .ptr true [.arr false (z) (.ints .u8 (l)), .int .i64 (i'), .int .i64 (h')]] ∧ A.length ≤ 6 ∧ (∀ x ∈ A, Act1 x) := by
  have e := qfo (k + 3) z l i h
  obtain ⟨A, j', h', e5, p5⟩ := qh8 k hk [] z l i h z l hl (k + 3) 0 i h [] (by omega) (by omega) h0 h1 rfl (fun x hx => by cases hx)
  rw [show ((0 : Nat) : Int) = 0 from rfl] at e5
  exact ⟨A, j', h', e.trans e5, p5⟩
theorem qhz (k : Nat) (hk : 2000000 ≤ k) (fu : List (Nat × Nat)) (z : Bool) (l : List Int) (hl : (l.length : Int) ≤ 1048576) (z4 : Bool) (l5 : List Cell) (z6 : Bool) (l7 : List Int) (z8 : Bool) (l9 : List Int) (z10 : Bool) (l11 : List Int) (x12 x13 x14 x15 x16 x17 x18 x19 x20 x21 x22 x23 x24 x25 x26 x27 x28 : Int) (z29 : Bool) (l30 : Acts) :
    ∀ (n t : Nat) (h : Int), t ≤ l.length → l.length - t < n →
    ∃ (w : Wd) (A : Acts), lp (k + 11) spec_DrawActs [] fu 6400003 (n) (qjv h (t : Int) z l z4 l5 z6 l7 z8 l9 z10 l11 x12 x13 x14 x15 x16 x17 x18 x19 x20 x21 x22 x23 x24 x25 x26 x27 x28 z29 l30) = some [wdO w, .arr true false (.r4 A)] ∧ Good w 0 ∧ A.length ≤ 6 ∧ (∀ x ∈ A, Act1 x)
  | 0, t, h, ht, hn => by omega
  | n + 1, t, h, ht, hn => by
    have e := qhc (k + 11) n fu h (t : Int) z l z4 l5 z6 l7 z8 l9 z10 l11 x12 x13 x14 x15 x16 x17 x18 x19 x20 x21 x22 x23 x24 x25 x26 x27 x28 z29 l30
    obtain ⟨r, c, m, tr, b, i1, k1, e1, q1, F, r3, sm⟩ := qco k (by omega) z l 0 h hl (by omega) (by omega)
    obtain ⟨p, i2, k2, e2, q2, P⟩ := qcr (k + 7) (by omega) z l i1 k1 hl q1.1 q1.2
    have eN := qca (k + 3) (by omega) r c m tr b F p P
    obtain ⟨A, i4, k4, e4, p4⟩ := qct (k + 7) (by omega) z l i2 k2 hl q2.1 q2.2
    by_cases g : t < l.length
    · by_cases g2 : (t : Int) < 4000
      · simp (disch := omega) only [qa4, nth0, nth1, nth2, nth3, bit, qcy, qcz, qda, qdf, qdg, qdh, qdi, qdj, qdk, qdl, qc0, qc1, qc2, qc3, qc4, qc5, qc6, qc7, qc8, qc9, qdb, qdc, qdd, qde, qkt, qks, qku, qip, qjf, qjh, qgi, qa7, qkn, nI, qdu, qds, Bool.not_true, Bool.not_false, Bool.and_true, Bool.true_and, Bool.and_false, Bool.false_and, Bool.or_true, Bool.true_or, Bool.or_false, Bool.false_or, beq_self_eq_true, dTT, dFF, dT, dF, bigI, big0, qio, qk7, qk8, List.length_set, List.length_replicate, Int.toNat_natCast, qcw, qcx, imax, imin] at e
        obtain ⟨w, A, e3, p3⟩ := qhz k hk fu z l hl z4 l5 z6 l7 z8 l9 z10 l11 x12 x13 x14 x15 x16 x17 x18 x19 x20 x21 x22 x23 x24 x25 x26 x27 x28 z29 l30 n (t + 1) _ (by omega) (by omega)
        exact ⟨w, A, e.trans e3, p3⟩
      · simp (disch := omega) only [qa4, nth0, nth1, nth2, nth3, bit, qcy, qcz, qda, qdf, qdg, qdh, qdi, qdj, qdk, qdl, qc0, qc1, qc2, qc3, qc4, qc5, qc6, qc7, qc8, qc9, qdb, qdc, qdd, qde, qkt, qks, qku, qip, qjf, qjh, qgi, qa7, qkn, nI, qdu, qds, Bool.not_true, Bool.not_false, Bool.and_true, Bool.true_and, Bool.and_false, Bool.false_and, Bool.or_true, Bool.true_or, Bool.or_false, Bool.false_or, beq_self_eq_true, dTT, dFF, dT, dF, bigI, big0, qio, qk7, qk8, List.length_set, List.length_replicate, Int.toNat_natCast, qcw, qcx, imax, imin, e1, qjc, qjd, qje, e2, eN, e4] at e
        exact ⟨nwW r c m tr b p, A, e, qiu F P, p4⟩
    · simp (disch := omega) only [qa4, nth0, nth1, nth2, nth3, bit, qcy, qcz, qda, qdf, qdg, qdh, qdi, qdj, qdk, qdl, qc0, qc1, qc2, qc3, qc4, qc5, qc6, qc7, qc8, qc9, qdb, qdc, qdd, qde, qkt, qks, qku, qip, qjf, qjh, qgi, qa7, qkn, nI, qdu, qds, Bool.not_true, Bool.not_false, Bool.and_true, Bool.true_and, Bool.and_false, Bool.false_and, Bool.or_true, Bool.true_or, Bool.or_false, Bool.false_or, beq_self_eq_true, dTT, dFF, dT, dF, bigI, big0, qio, qk7, qk8, List.length_set, List.length_replicate, Int.toNat_natCast, qcw, qcx, imax, imin, e1, qjc, qjd, qje, e2, eN, e4] at e
      exact ⟨nwW r c m tr b p, A, e, qiu F P, p4⟩
theorem qb1 (k : Nat) (hk : 2000000 ≤ k) (z : Bool) (l : List Int) (hl : (l.length : Int) ≤ 1048576) :
    ∃ (w : Wd) (A : Acts), go (k + 12) spec_DrawActs [.arr false z (.ints .u8 l)] = some [wdO w, .arr true false (.r4 A)] ∧ Good w 0 ∧ A.length ≤ 6 ∧ (∀ x ∈ A, Act1 x) := by
  have e := qex (k + 11) z l
  obtain ⟨w, A, e3, p3⟩ := qhz k hk [] z l hl true [] true [] true [] true [] 0 0 0 0 0 0 0 0 0 0 0 0 0 0 0 0 0 true [] (k + 11) 0 (IntKind.wrap .i64 (98231 + nI l.length)) (by omega) (by omega)
  rw [show ((0 : Nat) : Int) = 0 from rfl] at e3
  exact ⟨w, A, e.trans e3, p3⟩
end Go.Proofs.YtjfjniebmdafeaaDoor
end
section
namespace Go.Proofs.YtjfjniebmdafeaaDoor
open Go.Ev
set_option maxRecDepth 20000
theorem qk2 {b : UInt8} (h : wdc b = true) : okc b = true := by
  simp only [wdc, okc, Bool.and_eq_true, decide_eq_true_eq] at h ⊢; omega
theorem qgw : ∀ (ws : List (List UInt8)), ws.all isWd = true → (Lib.join ws [32]).all okc = true := by
  have one : ∀ w : List UInt8, isWd w = true → w.all okc = true := fun w h => by
    simp only [isWd, Bool.and_eq_true] at h
    rw [List.all_eq_true]
    exact fun b hb => qk2 (List.all_eq_true.1 h.2 b hb)
  have tl : ∀ l : List (List UInt8), l.all isWd = true → (Lib.joinTail [32] l).all okc = true := by
    intro l
    induction l with
    | nil => intro _; rfl
    | cons a l ih =>
      intro h
      rw [List.all_cons, Bool.and_eq_true] at h
      have e : Lib.joinTail [32] (a :: l) = 32 :: (a ++ Lib.joinTail [32] l) := by simp [Lib.joinTail]
      rw [e, List.all_cons, List.all_append, one a h.1, ih h.2]; decide
  intro ws
  cases ws with
  | nil => intro _; rfl
  | cons x r =>
    intro h
    rw [List.all_cons, Bool.and_eq_true] at h
    rw [Lib.join_cons, List.all_append, one x h.1, tl r h.2]; rfl
theorem qar (a b c d : Int) : 2 ≤ (awd a b c d).length ∧ (awd a b c d).length ≤ 4 := by
  unfold awd; split <;> simp
theorem qaq {a b c d a' b' c' d' : Int} (h : qag a b c d = true) (h' : qag a' b' c' d' = true) (e : awd a b c d = awd a' b' c' d') : a = a' ∧ b = b' ∧ c = c' ∧ d = d' := by
  obtain ⟨x, r, hx⟩ : ∃ x r, awd a b c d = x :: r := by
    cases g : awd a b c d with
    | nil => have := (qar a b c d).1; rw [g] at this; simp at this
    | cons x r => exact ⟨x, r, rfl⟩
  have v := qky (f := atoiV) (fun n h => qgo h) h hx.symm
  have v' := qky (f := atoiV) (fun n h => qgo h) h' (hx.symm.trans e)
  exact ⟨qir (qai h) (qai h') (v.1.symm.trans v'.1), v.2.1.symm.trans v'.2.1, v.2.2.1.symm.trans v'.2.2.1, v.2.2.2.symm.trans v'.2.2.2⟩
theorem qaj {x : A4} (h : aOk x = true) : Lib.fields (aL x) = awd x.1 x.2.1 x.2.2.1 x.2.2.2 := by
  show Lib.fields (actL x.1 x.2.1 x.2.2.1 x.2.2.2) = _
  rw [qaf, qfx _ (qas h)]
theorem qam {x : A4} (h : aOk x = true) : qkd (aL x) = true := by
  have l := qae h
  have f := qaj h
  have w := qar x.1 x.2.1 x.2.2.1 x.2.2.2
  unfold qkd
  rw [f, decide_eq_true (by omega : (aL x).length ≤ 600), decide_eq_true (by omega : (awd x.1 x.2.1 x.2.2.1 x.2.2.2).length ≤ 24), Bool.true_and, Bool.and_true]
  show (actL x.1 x.2.1 x.2.2.1 x.2.2.2).all okc = true
  rw [qaf]
  exact qgw _ (qas h)
theorem qjb {x : A4} (h : aOk x = true) : prsA (aL x) = some x := by
  have f := qaj h
  have lo : qhr (aL x) := ⟨qam h, by rw [f]; exact (qar _ _ _ _).1, by rw [f]; exact (qar _ _ _ _).2⟩
  have li : qhq (aL x) x := ⟨h, by rw [f]; exact qaf _ _ _ _⟩
  have ex : ∃ y, qhq (aL x) y := ⟨x, li⟩
  have e : prsA (aL x) = some ex.choose := dif_pos ⟨lo, ex⟩
  have hy := ex.choose_spec
  generalize ex.choose = y at e hy
  rw [e]
  have fy := qaj hy.1
  have : aL y = aL x := by rw [hy.2, ← li.2]
  rw [this, f] at fy
  obtain ⟨a, b, c, d⟩ := x
  obtain ⟨a', b', c', d'⟩ := y
  have := qaq h hy.1 fy
  simp only at this
  rw [this.1, this.2.1, this.2.2.1, this.2.2.2]
theorem qht (k : Nat) (hk : 2000000 ≤ k) (fu : List (Nat × Nat)) (z : Bool) (l : List A4) (hl : l.length ≤ 6) (ha : l.all aOk = true) : ∀ (N i : Nat), i ≤ l.length → l.length - i < N →
    lp (k + 12) laws_FnActTexts [] fu 7 (N) (qjr (ba (scrL l)) true ((scrL (l.take i)).length : Int) (i : Int) z l) = some [.bool true]
  | 0, i, hi, hN => by omega
  | N + 1, i, hi, hN => by
    rw [qg8]
    have ta : (l.take i).all aOk = true := by
      rw [List.all_eq_true] at ha ⊢
      exact fun x hx => ha x (List.mem_of_mem_take hx)
    have sl := qj6 (l.take i) ta
    rw [List.length_take] at sl
    by_cases g : i < l.length
    · have ok : aOk (l.getD i zz4) = true := List.all_eq_true.1 ha _ (qf8 g zz4)
      have f := qbe (k + 8) (by omega) (l.getD i zz4).1 (l.getD i zz4).2.1 (l.getD i zz4).2.2.1 (l.getD i zz4).2.2.2
      have ok' : qag (l.getD i zz4).1 (l.getD i zz4).2.1 (l.getD i zz4).2.2.1 (l.getD i zz4).2.2.2 = true := ok
      rw [ok'] at f
      have al := qae ok
      have p := qbh (k + 7) (by omega) (aL (l.getD i zz4)) (by omega)
      rw [qjb ok] at p
      simp only [prsD, aD] at p
      have o := qbc (k + 9) (by omega) (l.getD i zz4).1 (l.getD i zz4).2.1 (l.getD i zz4).2.2.1 (l.getD i zz4).2.2.2
      rw [ok'] at o
      have sz := qax (aL (l.getD i zz4))
      have IH := qht k hk fu z l hl ha N (i + 1) (by omega) (by omega)
      have sn := congrArg List.length (qj7 l i g)
      simp only [List.length_append, List.length_cons, List.length_nil] at sn
      rw [show ((scrL (l.take (i + 1))).length : Int) = ((scrL (l.take i)).length : Int) + ((aL (l.getD i zz4)).length : Int) + 1 by omega] at IH
      simp (disch := omega) only [qa4, nth0, nth1, nth2, nth3, bit, qcy, qcz, qda, qdf, qdg, qdh, qdi, qdj, qdk, qdl, qc0, qc1, qc2, qc3, qc4, qc5, qc6, qc7, qc8, qc9, qdb, qdc, qdd, qde, qkt, qks, qku, qip, qjf, qjh, qgi, qa7, qkn, nI, qdu, qds, Bool.not_true, Bool.not_false, Bool.and_true, Bool.true_and, Bool.and_false, Bool.false_and, Bool.or_true, Bool.true_or, Bool.or_false, Bool.false_or, beq_self_eq_true, dTT, dFF, dT, dF, bigI, big0, qio, qk7, qk8, List.length_set, List.length_replicate, Int.toNat_natCast, qcw, qcx, imax, imin, f, p, o, sz, decide_true]
      exact IH
    · obtain rfl : i = l.length := by omega
      rw [List.take_length] at sl ⊢
      have f := qbe (k + 8) (by omega) 1 3 0 0
      rw [show qag 1 3 0 0 = true by decide] at f
      have sz := qax (scrL l)
      have i3 : Lib.itoa 3 = [51] := by
        unfold Lib.itoa
        rw [if_neg (by omega)]
        exact Lib.decDigits_one (i := 3) (by omega)
      have t : ({ data := #[(114 : UInt8), (117 : UInt8), (110 : UInt8), (32 : UInt8), (51 : UInt8)] } : ByteArray) = ba (actL 1 3 0 0) := by
        unfold actL
        rw [if_neg (by omega)]
        simp only [spacedL, List.flatMap_cons, List.flatMap_nil, i3]
        rfl
      simp (disch := omega) only [qa4, nth0, nth1, nth2, nth3, bit, qcy, qcz, qda, qdf, qdg, qdh, qdi, qdj, qdk, qdl, qc0, qc1, qc2, qc3, qc4, qc5, qc6, qc7, qc8, qc9, qdb, qdc, qdd, qde, qkt, qks, qku, qip, qjf, qjh, qgi, qa7, qkn, nI, qdu, qds, Bool.not_true, Bool.not_false, Bool.and_true, Bool.true_and, Bool.and_false, Bool.false_and, Bool.or_true, Bool.true_or, Bool.or_false, Bool.false_or, beq_self_eq_true, dTT, dFF, dT, dF, bigI, big0, qio, qk7, qk8, List.length_set, List.length_replicate, Int.toNat_natCast, qcw, qcx, imax, imin, f, sz, t, decide_true]
theorem law_FnActTexts (k : Nat) (hk : 2000000 ≤ k) (az : Bool) (a : List Int) : go (k + 13) laws_FnActTexts [(.arr false (az) (.ints IntKind.u8 (a)))] = some [.bool true] := by
  by_cases h : 1048576 < (a.length : Int)
  · rw [qep]; simp (disch := omega) only [qa4, nth0, nth1, nth2, nth3, bit, qcy, qcz, qda, qdf, qdg, qdh, qdi, qdj, qdk, qdl, qc0, qc1, qc2, qc3, qc4, qc5, qc6, qc7, qc8, qc9, qdb, qdc, qdd, qde, qkt, qks, qku, qip, qjf, qjh, qgi, qa7, qkn, nI, qdu, qds, Bool.not_true, Bool.not_false, Bool.and_true, Bool.true_and, Bool.and_false, Bool.false_and, Bool.or_true, Bool.true_or, Bool.or_false, Bool.false_or, beq_self_eq_true, dTT, dFF, dT, dF, bigI, big0, qio, qk7, qk8, List.length_set, List.length_replicate, Int.toNat_natCast, qcw, qcx, imax, imin, qbx]
  have h : (a.length : Int) ≤ 1048576 := by omega
  obtain ⟨w, A, eD, G, h6, hA⟩ := qb1 k (by omega) az a h
  have ha : A.all aOk = true := by rw [List.all_eq_true]; exact fun x hx => hA x hx
  have eS := qbi (k + 7) (by omega) false A (by omega)
  rw [ha, decide_eq_true (by omega : A.length ≤ 30)] at eS
  have eM := qht k hk [] false A h6 ha (k + 12) 0 (by omega) (by omega)
  rw [List.take_zero, show ((scrL []).length : Int) = 0 from rfl, show ((0 : Nat) : Int) = 0 from rfl] at eM
  rw [qep]
  simp (disch := omega) only [qa4, nth0, nth1, nth2, nth3, bit, qcy, qcz, qda, qdf, qdg, qdh, qdi, qdj, qdk, qdl, qc0, qc1, qc2, qc3, qc4, qc5, qc6, qc7, qc8, qc9, qdb, qdc, qdd, qde, qkt, qks, qku, qip, qjf, qjh, qgi, qa7, qkn, nI, qdu, qds, Bool.not_true, Bool.not_false, Bool.and_true, Bool.true_and, Bool.and_false, Bool.false_and, Bool.or_true, Bool.true_or, Bool.or_false, Bool.false_or, beq_self_eq_true, dTT, dFF, dT, dF, bigI, big0, qio, qk7, qk8, List.length_set, List.length_replicate, Int.toNat_natCast, qcw, qcx, imax, imin, qbx, eD, eS]
  exact eM
end Go.Proofs.YtjfjniebmdafeaaDoor
end
