/- What the program's functions compute, and plain facts of it (part 2). No condition beyond those that each theorem states. -/
import Derived.Test.YtjfjniebmdafeaaGreatDoorQR1
set_option linter.unusedVariables false
set_option linter.unusedSimpArgs false
section
namespace Go.Proofs.YtjfjniebmdafeaaGreatDoor
open Go.Ev
theorem w0 : qqn 0 = 16 := by decide
theorem w1_ : qqn 1 = 8 := by decide
theorem w2_ : qqn 2 = 4 := by decide
theorem w3_ : qqn 3 = 2 := by decide
theorem w4_ : qqn 4 = 1 := by decide
theorem qiq {r l i : Int} : idOk r l i = true ↔ (0 ≤ r ∧ r ≤ 7) ∧ (0 ≤ l ∧ l ≤ 4) ∧ 0 ≤ i ∧ i < pow2 l := by
  simp only [idOk, Bool.and_eq_true, qiu, decide_eq_true_eq]
theorem qo9 {r l i : Int} (h : idOk r l i = true) : qo7 r l i = r * 16 + i * qqn l := by simp [qo7, h]
abbrev ch0 (x : Cell) : Cell := (x.1, x.2.1 + 1, 2 * x.2.2)
abbrev ch1 (x : Cell) : Cell := (x.1, x.2.1 + 1, 2 * x.2.2 + 1)
theorem qet {r l i : Int} (h : idOk r l i = true) (hl : l < 4) : idOk r (l + 1) (2 * i) = true ∧ idOk r (l + 1) (2 * i + 1) = true ∧ qo7 r (l + 1) (2 * i) = qo7 r l i ∧ qo7 r (l + 1) (2 * i + 1) = qo7 r l i + qqn (l + 1) ∧ qqn (l + 1) + qqn (l + 1) = qqn l := by
  have h' := qiq.1 h
  rcases lev (qiu.2 h'.2.1) with rfl | rfl | rfl | rfl | rfl
  · have p := h'.2.2; simp only [p20] at p
    have a : idOk r 1 (2 * i) = true := qiq.2 ⟨h'.1, by omega, by rw [p21]; omega⟩
    have b : idOk r 1 (2 * i + 1) = true := qiq.2 ⟨h'.1, by omega, by rw [p21]; omega⟩
    refine ⟨a, b, ?_, ?_, rfl⟩
    · show qo7 r 1 (2 * i) = _; rw [qo9 a, qo9 h, w0, w1_]; omega
    · show qo7 r 1 (2 * i + 1) = _ + qqn 1; rw [qo9 b, qo9 h, w0, w1_]; omega
  · have p := h'.2.2; simp only [p21] at p
    have a : idOk r 2 (2 * i) = true := qiq.2 ⟨h'.1, by omega, by rw [p22]; omega⟩
    have b : idOk r 2 (2 * i + 1) = true := qiq.2 ⟨h'.1, by omega, by rw [p22]; omega⟩
    refine ⟨a, b, ?_, ?_, rfl⟩
    · show qo7 r 2 (2 * i) = _; rw [qo9 a, qo9 h, w1_, w2_]; omega
    · show qo7 r 2 (2 * i + 1) = _ + qqn 2; rw [qo9 b, qo9 h, w1_, w2_]; omega
  · have p := h'.2.2; simp only [p22] at p
    have a : idOk r 3 (2 * i) = true := qiq.2 ⟨h'.1, by omega, by rw [p23]; omega⟩
    have b : idOk r 3 (2 * i + 1) = true := qiq.2 ⟨h'.1, by omega, by rw [p23]; omega⟩
    refine ⟨a, b, ?_, ?_, rfl⟩
    · show qo7 r 3 (2 * i) = _; rw [qo9 a, qo9 h, w2_, w3_]; omega
    · show qo7 r 3 (2 * i + 1) = _ + qqn 3; rw [qo9 b, qo9 h, w2_, w3_]; omega
  · have p := h'.2.2; simp only [p23] at p
    have a : idOk r 4 (2 * i) = true := qiq.2 ⟨h'.1, by omega, by rw [p24]; omega⟩
    have b : idOk r 4 (2 * i + 1) = true := qiq.2 ⟨h'.1, by omega, by rw [p24]; omega⟩
    refine ⟨a, b, ?_, ?_, rfl⟩
    · show qo7 r 4 (2 * i) = _; rw [qo9 a, qo9 h, w3_, w4_]; omega
    · show qo7 r 4 (2 * i + 1) = _ + qqn 4; rw [qo9 b, qo9 h, w3_, w4_]; omega
  · omega
def qoy (l : List Cell) (i : Nat) : List Cell := l.take i ++ ch0 (l.getD i zz3) :: ch1 (l.getD i zz3) :: l.drop (i + 1)
theorem qoz {l : List Cell} {i : Nat} (h : i < l.length) : (qoy l i).length = l.length + 1 := by
  simp only [qoy, List.length_append, List.length_take, List.length_cons, List.length_drop]; omega
theorem qe4 {α : Type} {l : List α} {i : Nat} (h : i < l.length) (d : α) : l = l.take i ++ l.getD i d :: l.drop (i + 1) := by
  rw [← qfe h d, List.take_append_drop]
theorem qo1 {l : List Cell} {r p : Int} {i : Nat} (h : ql2 r p l = true) (hi : i < l.length) (hl : (l.getD i zz3).2.1 < 4) : ql2 r p (qoy l i) = true := by
  rw [ql4] at *
  have e := qe4 hi zz3
  have h1 := h
  rw [e, qmk, qib] at h1
  unfold qoy
  rw [qmk, qib]
  simp only [qml, qic, Bool.and_eq_true] at h1 ⊢
  have c := qet h1.1.2.1 hl
  refine ⟨⟨h1.1.1, c.1, ?_, c.2.1, ?_, ?_⟩, h1.2.1, ?_⟩
  · rw [c.2.2.1]; exact h1.1.2.2.1
  · rw [c.2.2.2.1, h1.1.2.2.1]
  · rw [Int.add_assoc, c.2.2.2.2]; exact h1.1.2.2.2
  · rw [Int.add_assoc, c.2.2.2.2]; exact h1.2.2
def qew (l : List Cell) (i : Nat) : Nat := if qkg l (i + 1) < qkg l i then i + 1 else i
theorem qex {l : List Cell} {r p : Int} {i : Nat} (h : ql2 r p l = true) (hi : i + 1 < l.length) (hu : 1 < qkg l i - qkg l (i + 1) ∨ qkg l i - qkg l (i + 1) < -1) : qew l i < l.length ∧ qkg l (qew l i) < 4 := by
  have h1 := ql8 _ _ _ h i; have h2 := ql8 _ _ _ h (i + 1)
  unfold qew
  by_cases g : qkg l (i + 1) < qkg l i
  · rw [if_pos g]; exact ⟨hi, by omega⟩
  · rw [if_neg g]; exact ⟨by omega, by omega⟩
def balN : Nat → List Cell → List Cell
  | 0, l => l
  | n + 1, l => if unb l < 0 then l else balN n (qoy l (qew l (unb l).toNat))
theorem qaq : ∀ (n : Nat) (l : List Cell) (r : Int), ql2 r 0 l = true → 129 ≤ n + l.length → ql2 r 0 (balN n l) = true ∧ unb (balN n l) < 0
  | 0, l, r, h, hn => by have := ql7 h; omega
  | n + 1, l, r, h, hn => by
    unfold balN
    by_cases g : unb l < 0
    · rw [if_pos g]; exact ⟨h, g⟩
    · rw [if_neg g]
      obtain ⟨j, e, h1, h2⟩ := qqb (by omega : 0 ≤ unb l)
      have c := qex h h1 h2
      rw [e, Int.toNat_natCast]
      exact qaq n _ r (qo1 h c.1 c.2) (by rw [qoz c.1]; omega)
def bal (l : List Cell) : List Cell := balN (129 - l.length) l
theorem qas {l : List Cell} {r : Int} (h : ql2 r 0 l = true) : ql2 r 0 (bal l) = true ∧ unb (bal l) < 0 := qaq _ l r h (by have := ql7 h; omega)
abbrev par (x : Cell) : Cell := (x.1, x.2.1 - 1, x.2.2 / 2)
def sib (a b : Cell) : Bool := idOk a.1 a.2.1 a.2.2 && (idOk b.1 b.2.1 b.2.2 && (decide (a.1 = b.1) && (decide (a.2.1 = b.2.1) && (decide (a.2.2 % 2 = 0) && decide (b.2.2 = a.2.2 + 1)))))
theorem qmt {r l i : Int} (h : idOk r l i = true) (h' : idOk r l (i + 1) = true) (he : i % 2 = 0) : 1 ≤ l ∧ idOk r (l - 1) (i / 2) = true ∧ qo7 r (l - 1) (i / 2) = qo7 r l i ∧ qo7 r l (i + 1) = qo7 r l i + qqn l ∧ qqn l + qqn l = qqn (l - 1) := by
  have a := qiq.1 h; have b := qiq.1 h'
  have hl : 1 ≤ l := by
    rcases Int.lt_or_le l 1 with g | g
    · have : l = 0 := by omega
      subst this; rw [p20] at b; omega
    · exact g
  have q : l - 1 + 1 = l := by omega
  have hi : 2 * (i / 2) = i := by omega
  have p0 : idOk r (l - 1) (i / 2) = true := by
    rcases lev (qiu.2 a.2.1) with rfl | rfl | rfl | rfl | rfl
    · omega
    · rw [p21] at b; exact qiq.2 ⟨a.1, by omega, by rw [show (1 : Int) - 1 = 0 from rfl, p20]; omega⟩
    · rw [p22] at b; exact qiq.2 ⟨a.1, by omega, by rw [show (2 : Int) - 1 = 1 from rfl, p21]; omega⟩
    · rw [p23] at b; exact qiq.2 ⟨a.1, by omega, by rw [show (3 : Int) - 1 = 2 from rfl, p22]; omega⟩
    · rw [p24] at b; exact qiq.2 ⟨a.1, by omega, by rw [show (4 : Int) - 1 = 3 from rfl, p23]; omega⟩
  have c := qet p0 (by omega)
  rw [q, hi] at c
  exact ⟨hl, p0, c.2.2.1.symm, by rw [c.2.2.2.1, c.2.2.1], c.2.2.2.2⟩
def qly (l : List Cell) (i : Nat) : List Cell := l.take i ++ par (l.getD i zz3) :: l.drop (i + 2)
theorem qlz {l : List Cell} {i : Nat} (h : i + 1 < l.length) : (qly l i).length + 1 = l.length := by
  simp only [qly, List.length_append, List.length_take, List.length_cons, List.length_drop]; omega
theorem ql0 {l : List Cell} {r p : Int} {i : Nat} (h : ql2 r p l = true) (hi : i + 1 < l.length) (hs : sib (l.getD i zz3) (l.getD (i + 1) zz3) = true) : ql2 r p (qly l i) = true := by
  rw [ql4] at *
  have e := qe4 (by omega : i < l.length) zz3
  rw [qfe hi zz3] at e
  have h1 := h
  rw [e, qmk, qib] at h1
  unfold qly
  rw [qmk, qib]
  simp only [sib, Bool.and_eq_true, decide_eq_true_eq] at hs
  simp only [qml, qic, Bool.and_eq_true] at h1 ⊢
  obtain ⟨s1, s2, s3, s4, s5, s6⟩ := hs
  have s2' := s2
  rw [← s3, ← s4, s6] at s2'
  have c := qmt s1 s2' s5
  have e2 : qqn (l.getD (i + 1) zz3).2.1 = qqn (l.getD i zz3).2.1 := by rw [s4]
  rw [e2] at h1
  refine ⟨⟨h1.1.1, c.2.1, ?_, ?_⟩, h1.2.1, ?_⟩
  · rw [c.2.2.1]; exact h1.1.2.2.1
  · rw [← c.2.2.2.2, ← Int.add_assoc]; exact h1.1.2.2.2.2.2
  · rw [← c.2.2.2.2, ← Int.add_assoc]; exact h1.2.2
end Go.Proofs.YtjfjniebmdafeaaGreatDoor
end
section
namespace Go.Proofs.YtjfjniebmdafeaaGreatDoor
open Go.Ev
def qix (t lv : Int) : Bool := inR lv 0 4 && (decide (0 ≤ t) && decide (Int.tmod t (qqn lv) = 0))
theorem qqr {l : Int} (h : inR l 0 4 = true) : 0 < qqn l := by
  rcases lev h with rfl | rfl | rfl | rfl | rfl <;> decide
theorem qqq {l : Int} (h : inR l 0 4 = false) : qqn l = 0 := by simp [qqn, h]
theorem qcb (k : Nat) (hk : 2000000 ≤ k) (a : Int) (b : Int) : go (k + 3) spec_IsActive [(.int .i64 (a)), (.int .i64 (b))] = some [.bool (qix a b)] := by
  rw [qgl]
  simp (disch := omega) only [qax, nth0, nth1, nth2, nth3, bit, qd5, qd6, qeh, qem, qen, qeo, qep, qeq, qer, qes, qd7, qd8, qd9, qea, qeb, qec, qed, qee, qef, qeg, qei, qej, qek, qel, qp7, qp6, qp8, qmi, qm3, qm4, qiw, qa3, qph, nI, qe1, qez, Bool.not_true, Bool.not_false, Bool.and_true, Bool.true_and, Bool.and_false, Bool.false_and, Bool.or_true, Bool.true_or, Bool.or_false, Bool.false_or, beq_self_eq_true, dTT, dFF, dT, dF, bigI, big0, qmh, qqv, qqw, List.length_set, List.length_replicate, Int.toNat_natCast, qd3, qd4, imax, imin, qcq]
  unfold qix
  cases h : inR b 0 4
  · rw [qqq h]; cases decide ((0 : Int) ≤ a) <;> simp
  · have := qqr h
    simp (disch := omega) only [qax, nth0, nth1, nth2, nth3, bit, qd5, qd6, qeh, qem, qen, qeo, qep, qeq, qer, qes, qd7, qd8, qd9, qea, qeb, qec, qed, qee, qef, qeg, qei, qej, qek, qel, qp7, qp6, qp8, qmi, qm3, qm4, qiw, qa3, qph, nI, qe1, qez, Bool.not_true, Bool.not_false, Bool.and_true, Bool.true_and, Bool.and_false, Bool.false_and, Bool.or_true, Bool.true_or, Bool.or_false, Bool.false_or, beq_self_eq_true, dTT, dFF, dT, dF, bigI, big0, qmh, qqv, qqw, List.length_set, List.length_replicate, Int.toNat_natCast, qd3, qd4, imax, imin, decide_not]
    cases decide ((0 : Int) ≤ a) <;> simp
def qid (l : List Cell) (i : Nat) : Int := max (qkg l (i + 1)) (qkg l i)
theorem qc7 (k : Nat) (hk : 2000000 ≤ k) (a0 : Int) (a1z : Bool) (a1 : List Cell) (i : Nat) (hi : i + 1 < a1.length) (hl : (a1.length : Int) ≤ 1048576) : go (k + 1) spec_l05Face [.agg [.int .i64 a0, .arr false a1z (.r3 a1)], .int .i64 (i : Int)] = some [.int .i64 (qid a1 i)] := by
  rw [qhd]
  simp (disch := omega) only [qax, nth0, nth1, nth2, nth3, bit, qd5, qd6, qeh, qem, qen, qeo, qep, qeq, qer, qes, qd7, qd8, qd9, qea, qeb, qec, qed, qee, qef, qeg, qei, qej, qek, qel, qp7, qp6, qp8, qmi, qm3, qm4, qiw, qa3, qph, nI, qe1, qez, Bool.not_true, Bool.not_false, Bool.and_true, Bool.true_and, Bool.and_false, Bool.false_and, Bool.or_true, Bool.true_or, Bool.or_false, Bool.false_or, beq_self_eq_true, dTT, dFF, dT, dF, bigI, big0, qmh, qqv, qqw, List.length_set, List.length_replicate, Int.toNat_natCast, qd3, qd4, imax, imin]
  rfl
def qah (t : Int) (l : List Cell) (i : Nat) : Bool := decide (i + 1 < l.length) && qix t (qid l i)
end Go.Proofs.YtjfjniebmdafeaaGreatDoor
end
section
namespace Go.Proofs.YtjfjniebmdafeaaGreatDoor
open Go.Ev
def tab (L : Nat) (g : Nat → Int) : List Int := (List.range L).map g
theorem qpr (L : Nat) (g : Nat → Int) : (tab L g).length = L := by simp [tab]
theorem qpq {L : Nat} {g : Nat → Int} {i : Nat} (h : i < L) : (tab L g).getD i 0 = g i := by simp [tab, h]
theorem qpp {L : Nat} {g g' : Nat → Int} (h : ∀ j, j < L → g j = g' j) : tab L g = tab L g' := by
  unfold tab
  exact List.map_congr_left fun j hj => h j (by simpa using hj)
theorem qpt {L : Nat} {g : Nat → Int} (i : Nat) (v : Int) : (tab L g).set i v = tab L (fun j => if j = i then v else g j) := by
  apply List.ext_getElem
  · simp [tab]
  · intro j h1 h2
    simp only [tab, List.getElem_set, List.getElem_map, List.getElem_range]
    by_cases h : i = j
    · simp [h]
    · rw [if_neg h, if_neg (fun e => h e.symm)]
theorem qps (l : List Int) : l = tab l.length (fun j => l.getD j 0) := by
  apply List.ext_getElem
  · simp [tab]
  · intro j h1 h2
    simp [tab, h1]
theorem qpv (L : Nat) : List.replicate L (0 : Int) = tab L (fun _ => 0) := by
  apply List.ext_getElem
  · simp [tab]
  · intro j h1 h2; simp [tab]
theorem qp0 {x y B : Int} (hy : 0 < y) (h : -B ≤ x) (h' : x ≤ B) : -B ≤ Int.tdiv x y ∧ Int.tdiv x y ≤ B := by
  by_cases hx : 0 ≤ x
  · rw [Int.tdiv_eq_ediv_of_nonneg hx]
    have h1 := Int.ediv_nonneg hx (by omega : 0 ≤ y)
    have h2 := Int.ediv_le_self y hx
    omega
  · obtain ⟨z, rfl⟩ : ∃ z, x = -z := ⟨-x, by omega⟩
    rw [Int.neg_tdiv, Int.tdiv_eq_ediv_of_nonneg (by omega : 0 ≤ z)]
    have h1 := Int.ediv_nonneg (by omega : 0 ≤ z) (by omega : 0 ≤ y)
    have h2 := Int.ediv_le_self y (by omega : 0 ≤ z)
    omega
theorem qmd {x w A : Int} (hx : -A ≤ x) (hx' : x ≤ A) (hw : 0 ≤ w) (hw' : w ≤ 16) : -(16 * A) ≤ x * w ∧ x * w ≤ 16 * A := by
  have hA : 0 ≤ A := by omega
  have h1 : x * w ≤ A * w := Int.mul_le_mul_of_nonneg_right hx' hw
  have h2 : A * w ≤ A * 16 := Int.mul_le_mul_of_nonneg_left hw' hA
  have h3 : (-A) * w ≤ x * w := Int.mul_le_mul_of_nonneg_right hx hw
  have h4 : (-A) * w = -(A * w) := Int.neg_mul A w
  omega
def qoj (t p m : Int) : Int := cond (inR m 1 10000000 && (inR p 0 m && inR t 0 (1000 * m))) (Int.tdiv (t * p) m) 0
theorem qon {t p m : Int} (hm : inR m 1 10000000 = true) (hp : inR p 0 m = true) (ht : inR t 0 (1000 * m) = true) : 0 ≤ t * p ∧ t * p ≤ 100000000000000000 := by
  rw [qiu] at *
  refine ⟨Int.mul_nonneg (by omega) (by omega), ?_⟩
  calc t * p ≤ 10000000000 * p := Int.mul_le_mul_of_nonneg_right (by omega) (by omega)
    _ ≤ 10000000000 * 10000000 := Int.mul_le_mul_of_nonneg_left (by omega) (by omega)
theorem qol (t p m : Int) : 0 ≤ qoj t p m ∧ qoj t p m ≤ 100000000000000000 := by
  unfold qoj
  cases hm : inR m 1 10000000
  · simp
  cases hp : inR p 0 m
  · simp
  cases ht : inR t 0 (1000 * m)
  · simp
  have := qon hm hp ht
  have hm' := qiu.1 hm
  simp only [Bool.and_self, qe1]
  rw [Int.tdiv_eq_ediv_of_nonneg this.1]
  exact ⟨Int.ediv_nonneg this.1 (by omega), Int.le_trans (Int.ediv_le_self m this.1) this.2⟩
theorem qom {t p m : Int} (ht : 0 ≤ t) (hp : 0 ≤ p) (h : t ≤ 1000 * m) : qoj t p m ≤ 1000 * p := by
  unfold qoj
  cases hh : (inR m 1 10000000 && (inR p 0 m && inR t 0 (1000 * m)))
  · simp only [qez]; omega
  · simp only [Bool.and_eq_true, qiu] at hh
    simp only [qe1]
    rw [Int.tdiv_eq_ediv_of_nonneg (Int.mul_nonneg ht hp)]
    apply Int.ediv_le_of_le_mul (by omega)
    calc t * p ≤ (1000 * m) * p := Int.mul_le_mul_of_nonneg_right h hp
      _ = 1000 * p * m := by rw [Int.mul_assoc, Int.mul_assoc, Int.mul_comm m p]
def loOk (t m r l : Int) : Bool := inR m 1 10000000 && (inR t 0 (1000 * m) && (inR r 0 m && inR l 0 (m - r)))
def loA (t m r l : Int) : Int := cond (loOk t m r l) (qoj t r m) 0
def loB (t m r l : Int) : Int := cond (loOk t m r l) (qoj t (r + l) m - qoj t r m) 0
def quo (sa sb la lb : Int) : Int := Int.tdiv ((sa - sb) * qqn (max lb la)) (32 * (qqn la + qqn lb))
def qms (sa sb ma mb la lb : Int) : Int := max (0 - mb / 4) (min (ma / 4) (quo sa sb la lb))
def fl (l : List Cell) (m b : List Int) (i : Nat) : Int := qms (surf l m b i) (surf l m b (i + 1)) (m.getD i 0) (m.getD (i + 1) 0) (qkg l i) (qkg l (i + 1))
def ff (t : Int) (l : List Cell) (m b : List Int) (i : Nat) : Int := cond (qah t l i) (fl l m b i) 0
theorem qie {t : Int} {l : List Cell} {m b : List Int} {i : Nat} (h : l.length ≤ i + 1) : ff t l m b i = 0 := by
  unfold ff qah
  rw [dF (p := i + 1 < l.length) (by omega)]; rfl
theorem qig {r : Int} {l : List Cell} {m t b : List Int} (F : StF r l m t b) (i : Nat) : 0 - m.getD (i + 1) 0 / 4 ≤ fl l m b i ∧ fl l m b i ≤ m.getD i 0 / 4 := by
  have h1 := F.at i; have h2 := F.at (i + 1)
  unfold fl qms
  omega
theorem qif {r : Int} {l : List Cell} {m t b : List Int} (F : StF r l m t b) (tk : Int) (i : Nat) : 0 - m.getD (i + 1) 0 / 4 ≤ ff tk l m b i ∧ ff tk l m b i ≤ m.getD i 0 / 4 := by
  have h1 := F.at i; have h2 := F.at (i + 1); have h3 := qig F i
  unfold ff
  cases qah tk l i
  · simp only [qez]; omega
  · simp only [qe1]; omega
def rgt (tk : Int) (l : List Cell) (m b : List Int) (i : Nat) : Int := max 0 (ff tk l m b i)
def lft (tk : Int) (l : List Cell) (m b : List Int) (i : Nat) : Int := if 1 ≤ i then max 0 (0 - ff tk l m b (i - 1)) else 0
def outA (tk : Int) (l : List Cell) (m t b : List Int) (i : Nat) : Int := loA (t.getD i 0) (m.getD i 0) (rgt tk l m b i) (lft tk l m b i)
def outB (tk : Int) (l : List Cell) (m t b : List Int) (i : Nat) : Int := loB (t.getD i 0) (m.getD i 0) (rgt tk l m b i) (lft tk l m b i)
def stM (tk : Int) (l : List Cell) (m b : List Int) (j : Nat) : Int := m.getD j 0 - ff tk l m b j + (if 1 ≤ j then ff tk l m b (j - 1) else 0)
def stT (tk : Int) (l : List Cell) (m t b : List Int) (j : Nat) : Int := t.getD j 0 - outA tk l m t b j - outB tk l m t b j + (if 1 ≤ j then outA tk l m t b (j - 1) else 0) + outB tk l m t b (j + 1)
theorem qki (t m l : Int) : loA t m 0 l = 0 := by
  unfold loA qoj
  cases loOk t m 0 l
  · rfl
  · simp
theorem qkj (t m r : Int) : loB t m r 0 = 0 := by
  unfold loB
  cases loOk t m r 0
  · rfl
  · simp
theorem qmn {tk : Int} {l : List Cell} {m t b : List Int} {i : Nat} (h : rgt tk l m b i = 0) : outA tk l m t b i = 0 := by unfold outA; rw [h, qki]
theorem qmp {tk : Int} {l : List Cell} {m t b : List Int} {i : Nat} (h : lft tk l m b i = 0) : outB tk l m t b i = 0 := by unfold outB; rw [h, qkj]
theorem qmm (tk : Int) (l : List Cell) (m t b : List Int) (i : Nat) : 0 ≤ outA tk l m t b i ∧ outA tk l m t b i ≤ 100000000000000000 := by
  unfold outA loA
  cases loOk (t.getD i 0) (m.getD i 0) (rgt tk l m b i) (lft tk l m b i)
  · simp
  · exact qol _ _ _
theorem qmo (tk : Int) (l : List Cell) (m t b : List Int) (i : Nat) : -100000000000000000 ≤ outB tk l m t b i ∧ outB tk l m t b i ≤ 100000000000000000 := by
  unfold outB loB
  cases loOk (t.getD i 0) (m.getD i 0) (rgt tk l m b i) (lft tk l m b i)
  · simp
  · have h1 := qol (t.getD i 0) (rgt tk l m b i) (m.getD i 0)
    have h2 := qol (t.getD i 0) (rgt tk l m b i + lft tk l m b i) (m.getD i 0)
    simp only [qe1]; omega
def Tk (tk : Int) (l : List Cell) (m t b : List Int) (k j : Nat) : Int := t.getD j 0 - (if j < k then outA tk l m t b j + outB tk l m t b j else 0) + (if 1 ≤ j ∧ j ≤ k then outA tk l m t b (j - 1) else 0) + (if j + 1 < k then outB tk l m t b (j + 1) else 0)
def upd (G : Nat → Int) (i : Nat) (A B : Int) (j : Nat) : Int := if 1 ≤ i ∧ j = i - 1 then G j + B else if j = i + 1 then G j + A else if j = i then G j - A - B else G j
theorem qqg {G : Nat → Int} {i : Nat} {A B : Int} (g : 1 ≤ i) : (fun j => if j = i - 1 then G (i - 1) + B else if j = i + 1 then G (i + 1) + A else if j = i then G i - A - B else G j) = upd G i A B := by
  funext j
  unfold upd
  by_cases q1 : j = i - 1
  · rw [if_pos q1, if_pos ⟨g, q1⟩, q1]
  · rw [if_neg q1, if_neg (show ¬ (1 ≤ i ∧ j = i - 1) from fun hh => q1 hh.2)]
    by_cases q2 : j = i + 1
    · rw [if_pos q2, if_pos q2, q2]
    · rw [if_neg q2, if_neg q2]
      by_cases q3 : j = i
      · rw [if_pos q3, if_pos q3, q3]
      · rw [if_neg q3, if_neg q3]
theorem qqf {G : Nat → Int} {i : Nat} {A B : Int} (hB : B = 0) : (fun j => if j = i + 1 then G (i + 1) + A else if j = i then G i - A - B else G j) = upd G i A B := by
  funext j
  unfold upd
  by_cases q1 : 1 ≤ i ∧ j = i - 1
  · rw [if_pos q1, if_neg (by omega), if_neg (by omega), hB]; omega
  · rw [if_neg q1]
    by_cases q2 : j = i + 1
    · rw [if_pos q2, if_pos q2, q2]
    · rw [if_neg q2, if_neg q2]
      by_cases q3 : j = i
      · rw [if_pos q3, if_pos q3, q3]
      · rw [if_neg q3, if_neg q3]
theorem qqe {G : Nat → Int} {i : Nat} {A B : Int} (g : 1 ≤ i) (hA : A = 0) : (fun j => if j = i - 1 then G (i - 1) + B else if j = i then G i - A - B else G j) = upd G i A B := by
  funext j
  unfold upd
  by_cases q1 : j = i - 1
  · rw [if_pos q1, if_pos ⟨g, q1⟩, q1]
  · rw [if_neg q1, if_neg (show ¬ (1 ≤ i ∧ j = i - 1) from fun hh => q1 hh.2)]
    by_cases q2 : j = i + 1
    · rw [if_pos q2, if_neg (by omega), hA]; omega
    · rw [if_neg q2]
      by_cases q3 : j = i
      · rw [if_pos q3, if_pos q3, q3]
      · rw [if_neg q3, if_neg q3]
theorem qqd {G : Nat → Int} {i : Nat} {A B : Int} (hA : A = 0) (hB : B = 0) : (fun j => if j = i then G i - A - B else G j) = upd G i A B := by
  funext j
  unfold upd
  by_cases q1 : 1 ≤ i ∧ j = i - 1
  · rw [if_pos q1, if_neg (by omega), hB]; omega
  · rw [if_neg q1]
    by_cases q2 : j = i + 1
    · rw [if_pos q2, if_neg (by omega), hA]; omega
    · rw [if_neg q2]
      by_cases q3 : j = i
      · rw [if_pos q3, if_pos q3, q3]
      · rw [if_neg q3, if_neg q3]
theorem qaf (tk : Int) (l : List Cell) (m t b : List Int) (i : Nat) (hi : i < l.length) :
    tab l.length (upd (Tk tk l m t b i) i (outA tk l m t b i) (outB tk l m t b i)) = tab l.length (Tk tk l m t b (i + 1)) := qpp fun j hj => by
  unfold upd
  by_cases g1 : 1 ≤ i ∧ j = i - 1
  · obtain ⟨g1, rfl⟩ := g1
    rw [if_pos ⟨g1, rfl⟩]
    unfold Tk
    rw [if_pos (show i - 1 < i by omega), if_neg (show ¬ (i - 1 + 1 < i) by omega), if_pos (show i - 1 < i + 1 by omega), if_pos (show i - 1 + 1 < i + 1 by omega), show i - 1 + 1 = i by omega]
    have e2 : (1 ≤ i - 1 ∧ i - 1 ≤ i) = (1 ≤ i - 1 ∧ i - 1 ≤ i + 1) := by rw [eq_iff_iff]; omega
    simp only [e2]; omega
  · rw [if_neg g1]
    by_cases g2 : j = i + 1
    · subst g2
      rw [if_pos rfl]
      unfold Tk
      rw [if_neg (show ¬ (i + 1 < i) by omega), if_neg (show ¬ (1 ≤ i + 1 ∧ i + 1 ≤ i) by omega), if_neg (show ¬ (i + 1 + 1 < i) by omega), if_neg (show ¬ (i + 1 < i + 1) by omega), if_pos (show 1 ≤ i + 1 ∧ i + 1 ≤ i + 1 by omega), if_neg (show ¬ (i + 1 + 1 < i + 1) by omega), Nat.add_sub_cancel]; omega
    · rw [if_neg g2]
      by_cases g3 : j = i
      · subst g3
        rw [if_pos rfl]
        unfold Tk
        rw [if_neg (show ¬ (j < j) by omega), if_neg (show ¬ (j + 1 < j) by omega), if_pos (show j < j + 1 by omega), if_neg (show ¬ (j + 1 < j + 1) by omega)]
        have e2 : (1 ≤ j ∧ j ≤ j) = (1 ≤ j ∧ j ≤ j + 1) := by rw [eq_iff_iff]; omega
        simp only [e2]; omega
      · rw [if_neg g3]
        unfold Tk
        have e1 : (j < i) = (j < i + 1) := by rw [eq_iff_iff]; omega
        have e2 : (1 ≤ j ∧ j ≤ i) = (1 ≤ j ∧ j ≤ i + 1) := by rw [eq_iff_iff]; omega
        have e3 : (j + 1 < i) = (j + 1 < i + 1) := by rw [eq_iff_iff]; omega
        simp only [e1, e2, e3]
theorem qae (tk : Int) (l : List Cell) (m t b : List Int) (hm : m.length = l.length) : tab l.length (Tk tk l m t b l.length) = tab l.length (stT tk l m t b) := qpp fun j hj => by
  unfold Tk stT
  rw [if_pos hj]
  have e2 : (1 ≤ j ∧ j ≤ l.length) = (1 ≤ j) := by rw [eq_iff_iff]; omega
  simp only [e2]
  by_cases g : j + 1 < l.length
  · rw [if_pos g]; omega
  · rw [if_neg g]
    have : outB tk l m t b (j + 1) = 0 := by
      apply qmp
      unfold lft
      rw [if_pos (by omega), Nat.add_sub_cancel, qie (by omega)]; rfl
    omega
theorem qag (tk : Int) (l : List Cell) (m t b : List Int) (ht : t.length = l.length) : t = tab l.length (Tk tk l m t b 0) := by
  have h := qps t
  rw [ht] at h
  refine h.trans (qpp fun j hj => ?_)
  unfold Tk
  rw [if_neg (by omega), if_neg (by omega), if_neg (by omega)]; omega
end Go.Proofs.YtjfjniebmdafeaaGreatDoor
end
section
namespace Go.Proofs.YtjfjniebmdafeaaGreatDoor
open Go.Ev
def qpi (g : Nat → Int) : Nat → Int
  | 0 => 0
  | n + 1 => qpi g n + g n
theorem qiy : ∀ (a b : List Int), isum (a ++ b) = isum a + isum b
  | [], b => by simp [isum]
  | x :: a, b => by simp only [List.cons_append, isum, qiy a b]; omega
theorem qi6 (g : Nat → Int) : ∀ n, isum (tab n g) = qpi g n
  | 0 => by simp [tab, isum, qpi]
  | n + 1 => by
    have := qi6 g n
    unfold tab at *
    rw [List.range_succ, List.map_append, qiy, this]
    simp [isum, qpi]
theorem qi5 (l : List Int) : isum l = qpi (fun j => l.getD j 0) l.length := by
  have h := qps l
  have e := qi6 (fun j => l.getD j 0) l.length
  rw [← h] at e; exact e
theorem qlw : ∀ (m t : List Int), m.length = t.length → (∀ i, i < m.length → (0 ≤ m.getD i 0 ∧ m.getD i 0 ≤ 10000000) ∧ 0 ≤ t.getD i 0 ∧ t.getD i 0 ≤ 1000 * m.getD i 0) → qlt m t = true
  | [], t, hl, h => by simp [qlt]
  | x :: m, [], hl, h => by simp at hl
  | x :: m, y :: t, hl, h => by
    have h0 := h 0 (by simp)
    simp only [List.getD_cons_zero] at h0
    have ih := qlw m t (by simpa using hl) fun i hi => by simpa using h (i + 1) (by simpa using hi)
    simp only [qlt, ih, Bool.and_true, Bool.and_eq_true, qiu]
    exact h0
theorem qh8 : ∀ (l : List Int), (∀ x ∈ l, 0 ≤ x) → ∀ x ∈ l, x ≤ isum l
  | [], h, x, hx => by cases hx
  | y :: l, h, x, hx => by
    have hn : 0 ≤ isum l := by
      clear hx
      induction l with
      | nil => simp [isum]
      | cons z l ih =>
        have := ih (fun w hw => h w (by simp only [List.mem_cons] at *; rcases hw with rfl | hw <;> simp_all))
        have := h z (by simp)
        simp only [isum]; omega
    have hy := h y (by simp)
    simp only [isum]
    rcases List.mem_cons.1 hx with rfl | hx
    · omega
    · have := qh8 l (fun w hw => h w (by simp [hw])) x hx
      omega
theorem qok {t p m : Int} (hm : 1 ≤ m) (hm' : m ≤ 10000000) (hp : 0 ≤ p) (hp' : p ≤ m) (ht : 0 ≤ t) (ht' : t ≤ 1000 * m) : qoj t p m = t * p / m := by
  unfold qoj
  rw [qiu.2 ⟨hm, hm'⟩, qiu.2 ⟨hp, hp'⟩, qiu.2 ⟨ht, ht'⟩]
  simp only [Bool.and_self, qe1]
  exact Int.tdiv_eq_ediv_of_nonneg (Int.mul_nonneg ht hp)
theorem qoo {t p m : Int} (hm : 1 ≤ m) (hp : 0 ≤ p) (hp' : p ≤ m) (ht : 0 ≤ t) (ht' : t ≤ 1000 * m) : 0 ≤ t * p / m ∧ t * p / m ≤ t ∧ t - 1000 * (m - p) ≤ t * p / m := by
  refine ⟨Int.ediv_nonneg (Int.mul_nonneg ht hp) (by omega), ?_, ?_⟩
  · apply Int.ediv_le_of_le_mul (by omega)
    exact Int.mul_le_mul_of_nonneg_left hp' ht
  · apply Int.le_ediv_of_mul_le (by omega)
    have h1 : t * (m - p) ≤ 1000 * m * (m - p) := Int.mul_le_mul_of_nonneg_right ht' (by omega)
    have e1 : t * (m - p) = t * m - t * p := Int.mul_sub t m p
    have e2 : 1000 * m * (m - p) = 1000 * (m - p) * m := by rw [Int.mul_assoc, Int.mul_comm m (m - p), ← Int.mul_assoc]
    have e3 : (t - 1000 * (m - p)) * m = t * m - 1000 * (m - p) * m := Int.sub_mul _ _ _
    omega
theorem qop {t r l m : Int} (hm : 1 ≤ m) (hr : 0 ≤ r) (hl : 0 ≤ l) (ht : 0 ≤ t) (ht' : t ≤ 1000 * m) : t * r / m ≤ t * (r + l) / m ∧ t * (r + l) / m ≤ t * r / m + 1000 * l := by
  have e : t * (r + l) = t * r + t * l := Int.mul_add t r l
  have n := Int.mul_nonneg ht hl
  have h1 : t * l ≤ 1000 * m * l := Int.mul_le_mul_of_nonneg_right ht' hl
  have e2 : 1000 * m * l = 1000 * l * m := by rw [Int.mul_assoc, Int.mul_comm m l, ← Int.mul_assoc]
  refine ⟨Int.ediv_le_ediv (by omega) (by omega), ?_⟩
  rw [← Int.add_mul_ediv_right _ _ (by omega : m ≠ 0)]
  exact Int.ediv_le_ediv (by omega) (by omega)
section
variable {r : Int} {l : List Cell} {m t b : List Int}
theorem qnd (F : StF r l m t b) (tk : Int) (i : Nat) : 0 ≤ rgt tk l m b i ∧ rgt tk l m b i ≤ m.getD i 0 / 4 := by
  have := qif F tk i; have := F.at i
  unfold rgt; omega
theorem qkh (F : StF r l m t b) (tk : Int) (i : Nat) : 0 ≤ lft tk l m b i ∧ lft tk l m b i ≤ m.getD i 0 / 4 := by
  have h := qif F tk (i - 1); have := F.at i
  unfold lft
  by_cases g : 1 ≤ i
  · rw [if_pos g]; rw [show i - 1 + 1 = i by omega] at h; omega
  · rw [if_neg g]; omega
theorem qmq (F : StF r l m t b) (tk : Int) (i : Nat) : 0 ≤ outA tk l m t b i ∧ outA tk l m t b i ≤ 1000 * rgt tk l m b i ∧ 0 ≤ outB tk l m t b i ∧ outB tk l m t b i ≤ 1000 * lft tk l m b i ∧
    outA tk l m t b i + outB tk l m t b i ≤ t.getD i 0 ∧ t.getD i 0 - 1000 * (m.getD i 0 - rgt tk l m b i - lft tk l m b i) ≤ outA tk l m t b i + outB tk l m t b i := by
  have h := F.at i; have R := qnd F tk i; have L := qkh F tk i
  by_cases hm : 1 ≤ m.getD i 0
  · have ok : loOk (t.getD i 0) (m.getD i 0) (rgt tk l m b i) (lft tk l m b i) = true := by
      unfold loOk
      rw [qiu.2 ⟨hm, h.2.1⟩, qiu.2 ⟨h.2.2.1, h.2.2.2⟩, qiu.2 ⟨R.1, by omega⟩, qiu.2 ⟨L.1, by omega⟩]; rfl
    have s1 := qok (t := t.getD i 0) (p := rgt tk l m b i) hm h.2.1 R.1 (by omega) h.2.2.1 h.2.2.2
    have s2 := qok (t := t.getD i 0) (p := rgt tk l m b i + lft tk l m b i) hm h.2.1 (by omega) (by omega) h.2.2.1 h.2.2.2
    have c1 := qoo (t := t.getD i 0) (p := rgt tk l m b i + lft tk l m b i) hm (by omega) (by omega) h.2.2.1 h.2.2.2
    have c2 := qop (t := t.getD i 0) (r := rgt tk l m b i) (l := lft tk l m b i) hm R.1 L.1 h.2.2.1 h.2.2.2
    have c3 := qom (t := t.getD i 0) (p := rgt tk l m b i) (m := m.getD i 0) h.2.2.1 R.1 h.2.2.2
    have c4 := (qol (t.getD i 0) (rgt tk l m b i) (m.getD i 0)).1
    unfold outA outB loA loB
    rw [ok]
    simp only [qe1]
    omega
  · have z : m.getD i 0 = 0 := by omega
    have ok : loOk (t.getD i 0) (m.getD i 0) (rgt tk l m b i) (lft tk l m b i) = false := by
      unfold loOk
      have : inR (m.getD i 0) 1 10000000 = false := by rw [← Bool.not_eq_true, qiu]; omega
      rw [this]; rfl
    unfold outA outB loA loB
    rw [ok]
    simp only [qez]
    omega
theorem qo2 (F : StF r l m t b) (tk : Int) (j : Nat) : stM tk l m b j = m.getD j 0 - rgt tk l m b j - lft tk l m b j + (if 1 ≤ j then rgt tk l m b (j - 1) else 0) + lft tk l m b (j + 1) := by
  unfold stM rgt lft
  rw [if_pos (show 1 ≤ j + 1 by omega), Nat.add_sub_cancel]
  by_cases g : 1 ≤ j
  · simp only [if_pos g]; omega
  · simp only [if_neg g]; omega
theorem qo3 (F : StF r l m t b) (tk : Int) (j : Nat) : 0 ≤ stM tk l m b j := by
  rw [qo2 F]
  have R := qnd F tk j; have L := qkh F tk j; have R' := qnd F tk (j - 1); have L' := qkh F tk (j + 1); have := F.at j
  by_cases g : 1 ≤ j
  · rw [if_pos g]; omega
  · rw [if_neg g]; omega
theorem qo5 (F : StF r l m t b) (tk : Int) (j : Nat) : 0 ≤ stT tk l m t b j ∧ stT tk l m t b j ≤ 1000 * stM tk l m b j := by
  rw [qo2 F]
  unfold stT
  have a := qmq F tk j; have a1 := qmq F tk (j - 1); have a2 := qmq F tk (j + 1)
  by_cases g : 1 ≤ j
  · rw [if_pos g, if_pos g]; omega
  · rw [if_neg g, if_neg g]; omega
theorem qo4 (tk : Int) (l : List Cell) (m b : List Int) : ∀ n, qpi (stM tk l m b) n = qpi (fun j => m.getD j 0) n - (if 1 ≤ n then ff tk l m b (n - 1) else 0)
  | 0 => by simp [qpi]
  | n + 1 => by
    have ih := qo4 tk l m b n
    simp only [qpi, ih]
    rw [if_pos (show 1 ≤ n + 1 by omega), Nat.add_sub_cancel]
    unfold stM
    by_cases g : 1 ≤ n
    · simp only [if_pos g]; omega
    · simp only [if_neg g]; omega
theorem qo6 (tk : Int) (l : List Cell) (m t b : List Int) : ∀ n, qpi (stT tk l m t b) n = qpi (fun j => t.getD j 0) n - (if 1 ≤ n then outA tk l m t b (n - 1) else 0) - outB tk l m t b 0 + outB tk l m t b n
  | 0 => by simp [qpi]; omega
  | n + 1 => by
    have ih := qo6 tk l m t b n
    simp only [qpi, ih]
    rw [if_pos (show 1 ≤ n + 1 by omega), Nat.add_sub_cancel]
    unfold stT
    by_cases g : 1 ≤ n
    · simp only [if_pos g]; omega
    · simp only [if_neg g]; omega
theorem qpc (F : StF r l m t b) (tk : Int) : isum (tab l.length (stM tk l m b)) = isum m := by
  have L := F.len
  rw [qi6, qo4, qi5 m, F.ml, if_pos L.1, qie (by omega)]; omega
theorem qpd (F : StF r l m t b) (tk : Int) : isum (tab l.length (stT tk l m t b)) = isum t := by
  have L := F.len
  have z1 : outA tk l m t b (l.length - 1) = 0 := qmn (by unfold rgt; rw [qie (by omega)]; rfl)
  have z2 : outB tk l m t b 0 = 0 := qmp (by unfold lft; rw [if_neg (by omega)])
  have z3 : outB tk l m t b l.length = 0 := qmp (by unfold lft; rw [if_pos L.1, qie (by omega)]; rfl)
  rw [qi6, qo6, qi5 t, F.tl, if_pos L.1, z1, z2, z3]; omega
theorem qpb (F : StF r l m t b) (tk : Int) : StF r l (tab l.length (stM tk l m b)) (tab l.length (stT tk l m t b)) b := by
  have hs := qpc F tk
  have hn : ∀ x ∈ tab l.length (stM tk l m b), 0 ≤ x := by
    intro x hx
    simp only [tab, List.mem_map] at hx
    obtain ⟨j, _, rfl⟩ := hx
    exact qo3 F tk j
  refine ⟨F.mesh, F.bal, qpr _ _, qpr _ _, F.bl, ?_, F.bed, by rw [hs]; exact F.sum⟩
  refine qlw _ _ (by rw [qpr, qpr]) fun i hi => ?_
  rw [qpr] at hi
  have h1 := qh8 _ hn _ (qip (by rw [qpr]; exact hi : i < (tab l.length (stM tk l m b)).length) 0)
  rw [hs] at h1
  have := F.sum
  rw [qpq hi] at *
  rw [qpq hi]
  exact ⟨⟨qo3 F tk i, by omega⟩, qo5 F tk i⟩
end
end Go.Proofs.YtjfjniebmdafeaaGreatDoor
end
section
namespace Go.Proofs.YtjfjniebmdafeaaGreatDoor
open Go.Ev
abbrev S3 := List Cell × List Int × List Int
structure StU (r : Int) (s : S3) (b : List Int) : Prop where
  mesh : ql2 r 0 s.1 = true
  ml : s.2.1.length = s.1.length
  tl : s.2.2.length = s.1.length
  bl : (b.length : Int) = r
  mt : qlt s.2.1 s.2.2 = true
  bed : qau b = true
  sum : isum s.2.1 ≤ 10000000
theorem StF.toU {r : Int} {l : List Cell} {m t b : List Int} (F : StF r l m t b) : StU r (l, m, t) b := ⟨F.mesh, F.ml, F.tl, F.bl, F.mt, F.bed, F.sum⟩
theorem StU.toF {r : Int} {s : S3} {b : List Int} (U : StU r s b) (h : unb s.1 < 0) : StF r s.1 s.2.1 s.2.2 b := ⟨U.mesh, h, U.ml, U.tl, U.bl, U.mt, U.bed, U.sum⟩
theorem StU.len {r : Int} {s : S3} {b : List Int} (U : StU r s b) : 1 ≤ s.1.length ∧ s.1.length ≤ 128 := ql7 U.mesh
theorem StU.rr {r : Int} {s : S3} {b : List Int} (U : StU r s b) : 1 ≤ r ∧ r ≤ 8 := ⟨(ql6 _ _ _ U.mesh).1, (ql6 _ _ _ U.mesh).2.1⟩
theorem StU.at {r : Int} {s : S3} {b : List Int} (U : StU r s b) (i : Nat) : 0 ≤ s.2.1.getD i 0 ∧ s.2.1.getD i 0 ≤ 10000000 ∧ 0 ≤ s.2.2.getD i 0 ∧ s.2.2.getD i 0 ≤ 1000 * s.2.1.getD i 0 := qlu _ _ (by rw [U.ml, U.tl]) U.mt i
theorem StU.id {r : Int} {s : S3} {b : List Int} (U : StU r s b) {i : Nat} (h : i < s.1.length) : idOk (s.1.getD i zz3).1 (s.1.getD i zz3).2.1 (s.1.getD i zz3).2.2 = true := ((ql6 _ _ _ U.mesh).2.2.2.1 _ h).2.2
theorem qks : ∀ (n : Nat) (m t : List Int), qlt m t = true → qlt (m.take n) (t.take n) = true
  | 0, m, t, h => by simp [qlt]
  | n + 1, [], t, h => by simp [qlt]
  | n + 1, x :: m, [], h => by simp [qlt]
  | n + 1, x :: m, y :: t, h => by
    simp only [List.take_succ_cons, qlt, Bool.and_eq_true] at h ⊢
    exact ⟨h.1, h.2.1, qks n m t h.2.2⟩
theorem qkr : ∀ (n : Nat) (m t : List Int), qlt m t = true → qlt (m.drop n) (t.drop n) = true
  | 0, m, t, h => by simpa using h
  | n + 1, [], t, h => by simp [qlt]
  | n + 1, x :: m, [], h => by cases h' : List.drop n m <;> simp [qlt, h']
  | n + 1, x :: m, y :: t, h => by
    simp only [List.drop_succ_cons, qlt, Bool.and_eq_true] at h ⊢
    exact qkr n m t h.2.2
theorem qkp : ∀ (m t m' t' : List Int), m.length = t.length → qlt m t = true → qlt m' t' = true → qlt (m ++ m') (t ++ t') = true
  | [], [], m', t', _, _, h => h
  | [], _ :: _, _, _, h, _, _ => by simp at h
  | _ :: _, [], _, _, h, _, _ => by simp at h
  | x :: m, y :: t, m', t', hl, h, h' => by
    simp only [List.cons_append, qlt, Bool.and_eq_true] at h ⊢
    exact ⟨h.1, h.2.1, qkp m t m' t' (by simpa using hl) h.2.2 h'⟩
theorem qkq {x y : Int} {m t : List Int} (h1 : 0 ≤ x ∧ x ≤ 10000000) (h2 : 0 ≤ y ∧ y ≤ 1000 * x) (h : qlt m t = true) : qlt (x :: m) (y :: t) = true := by
  simp only [qlt, Bool.and_eq_true, qiu]; exact ⟨h1, h2, h⟩
theorem qiz {m : List Int} {i : Nat} (h : i < m.length) : isum (m.take i) + m.getD i 0 + isum (m.drop (i + 1)) = isum m := by
  have e := qe4 h 0
  have := congrArg isum e
  rw [qiy, isum] at this
  omega
abbrev hA (x : Int) : Int := x - x / 2
abbrev hB (x : Int) : Int := x / 2
theorem hAB {x : Int} (h : 0 ≤ x) : hA x + hB x = x ∧ 0 ≤ hB x ∧ hB x ≤ x ∧ 0 ≤ hA x ∧ hA x ≤ x := by unfold hA hB; omega
def rfM (m : List Int) (i : Nat) : List Int := m.take i ++ hA (m.getD i 0) :: hB (m.getD i 0) :: m.drop (i + 1)
abbrev shr (t m : Int) : Int := qoj t (hA m) m
def rfT (t m : List Int) (i : Nat) : List Int := t.take i ++ shr (t.getD i 0) (m.getD i 0) :: (t.getD i 0 - shr (t.getD i 0) (m.getD i 0)) :: t.drop (i + 1)
def rfS (s : S3) (i : Nat) : S3 := (qoy s.1 i, rfM s.2.1 i, rfT s.2.2 s.2.1 i)
theorem qoq {t m : Int} (hm : 0 ≤ m ∧ m ≤ 10000000) (ht : 0 ≤ t ∧ t ≤ 1000 * m) : (0 ≤ shr t m ∧ shr t m ≤ 1000 * hA m) ∧ 0 ≤ t - shr t m ∧ t - shr t m ≤ 1000 * hB m := by
  have q := hAB hm.1
  have p1 := (qol t (hA m) m).1
  have p2 := qom (t := t) (p := hA m) (m := m) ht.1 (by omega) ht.2
  by_cases h0 : m = 0
  · subst h0
    have : t = 0 := by omega
    subst this
    have p3 : shr 0 0 = 0 := by unfold shr; omega
    rw [p3] at *
    exact ⟨⟨by omega, by omega⟩, by omega, by omega⟩
  · have e : shr t m = (t * hA m) / m := by
      unfold shr qoj
      rw [show inR m 1 10000000 = true from qiu.2 (by omega), show inR (hA m) 0 m = true from qiu.2 (by omega), show inR t 0 (1000 * m) = true from qiu.2 ht]
      simp only [Bool.and_self, qe1]
      exact Int.tdiv_eq_ediv_of_nonneg (Int.mul_nonneg ht.1 (by omega))
    refine ⟨⟨p1, p2⟩, ?_, ?_⟩
    · have : (t * hA m) / m ≤ t := by
        apply Int.ediv_le_of_le_mul (by omega)
        exact Int.mul_le_mul_of_nonneg_left (by omega) ht.1
      omega
    · have hx : t * hB m ≤ 1000 * m * hB m := Int.mul_le_mul_of_nonneg_right ht.2 (by omega)
      have hs : t * hA m + t * hB m = t * m := by rw [← Int.mul_add, q.1]
      have h2 : (t - 1000 * hB m) * m ≤ t * hA m := by
        rw [Int.sub_mul, Int.mul_right_comm 1000 (hB m) m]
        rw [show 1000 * m * hB m = 1000 * m * hB m from rfl] at hx
        omega
      have : t - 1000 * hB m ≤ (t * hA m) / m := (Int.le_ediv_iff_mul_le (by omega)).2 h2
      omega
theorem qm9 {m : List Int} {i : Nat} (h : i < m.length) : (rfM m i).length = m.length + 1 := by
  simp only [rfM, List.length_append, List.length_take, List.length_cons, List.length_drop]; omega
theorem qnb {t m : List Int} {i : Nat} (h : i < t.length) : (rfT t m i).length = t.length + 1 := by
  simp only [rfT, List.length_append, List.length_take, List.length_cons, List.length_drop]; omega
theorem qna {m : List Int} {i : Nat} (h : i < m.length) (h0 : 0 ≤ m.getD i 0) : isum (rfM m i) = isum m := by
  have := qiz h; have := hAB h0
  simp only [rfM, qiy, isum]
  omega
theorem qnc {t m : List Int} {i : Nat} (h : i < t.length) : isum (rfT t m i) = isum t := by
  have := qiz h
  simp only [rfT, qiy, isum]
  omega
theorem rf_U {r : Int} {s : S3} {b : List Int} (U : StU r s b) {i : Nat} (hi : i < s.1.length) (hl : qkg s.1 i < 4) : StU r (rfS s i) b := by
  have a := U.at i; have ml := U.ml; have tl := U.tl; have q := hAB a.1
  have sh := qoq ⟨a.1, a.2.1⟩ ⟨a.2.2.1, a.2.2.2⟩
  refine ⟨qo1 U.mesh hi hl, ?_, ?_, U.bl, ?_, U.bed, ?_⟩
  · show (rfM s.2.1 i).length = (qoy s.1 i).length
    rw [qm9 (by omega), qoz hi]; omega
  · show (rfT s.2.2 s.2.1 i).length = (qoy s.1 i).length
    rw [qnb (by omega), qoz hi]; omega
  · exact qkp _ _ _ _ (by rw [List.length_take, List.length_take]; omega) (qks i _ _ U.mt) (qkq (by omega) sh.1 (qkq (by omega) sh.2 (qkr _ _ _ U.mt)))
  · show isum (rfM s.2.1 i) ≤ _
    rw [qna (by omega) a.1]; exact U.sum
def cmM (m : List Int) (i : Nat) : List Int := m.take i ++ (m.getD i 0 + m.getD (i + 1) 0) :: m.drop (i + 2)
def cmS (s : S3) (i : Nat) : S3 := (qly s.1 i, cmM s.2.1 i, cmM s.2.2 i)
theorem qeu {m : List Int} {i : Nat} (h : i + 1 < m.length) : (cmM m i).length + 1 = m.length := by
  simp only [cmM, List.length_append, List.length_take, List.length_cons, List.length_drop]; omega
theorem qi0 {m : List Int} {i : Nat} (h : i + 1 < m.length) : isum (m.take i) + m.getD i 0 + m.getD (i + 1) 0 + isum (m.drop (i + 2)) = isum m := by
  have e := qiz (show i < m.length by omega)
  rw [qfe h 0, isum, show i + 1 + 1 = i + 2 from rfl] at e
  omega
theorem qev {m : List Int} {i : Nat} (h : i + 1 < m.length) : isum (cmM m i) = isum m := by
  have := qi0 h
  simp only [cmM, qiy, isum]
  omega
theorem qi3 {m : List Int} (h : ∀ x ∈ m, 0 ≤ x) : 0 ≤ isum m := by
  induction m with
  | nil => simp [isum]
  | cons x m ih => have := h x (by simp); have := ih fun y hy => h y (by simp [hy]); simp only [isum]; omega
theorem cm_U {r : Int} {s : S3} {b : List Int} (U : StU r s b) {i : Nat} (hi : i + 1 < s.1.length) (hs : sib (s.1.getD i zz3) (s.1.getD (i + 1) zz3) = true) : StU r (cmS s i) b := by
  have a := U.at i; have a' := U.at (i + 1); have ml := U.ml; have tl := U.tl
  have mem := qlv _ _ (by rw [ml, tl]) U.mt
  have s1 := qi3 (m := s.2.1.take i) fun x hx => (mem.1 x (List.mem_of_mem_take hx)).1
  have s2 := qi3 (m := s.2.1.drop (i + 2)) fun x hx => (mem.1 x (List.mem_of_mem_drop hx)).1
  have s3 := qi0 (m := s.2.1) (i := i) (by omega)
  have s4 := U.sum
  refine ⟨ql0 U.mesh hi hs, ?_, ?_, U.bl, ?_, U.bed, ?_⟩
  · show (cmM s.2.1 i).length = (qly s.1 i).length
    have h1 := qeu (m := s.2.1) (i := i) (by omega); have h2 := qlz hi; omega
  · show (cmM s.2.2 i).length = (qly s.1 i).length
    have h1 := qeu (m := s.2.2) (i := i) (by omega); have h2 := qlz hi; omega
  · exact qkp _ _ _ _ (by rw [List.length_take, List.length_take]; omega) (qks i _ _ U.mt) (qkq (by omega) (by omega) (qkr _ _ _ U.mt))
  · show isum (cmM s.2.1 i) ≤ _
    rw [qev (by omega)]; exact U.sum
def lvS : Nat → S3 → S3
  | 0, s => s
  | n + 1, s => if unb s.1 < 0 then s else lvS n (rfS s (qew s.1 (unb s.1).toNat))
theorem qkn {r : Int} {b : List Int} : ∀ (n : Nat) (s : S3), StU r s b → 129 ≤ n + s.1.length → StU r (lvS n s) b ∧ unb (lvS n s).1 < 0
  | 0, s, U, hn => by have := U.len; omega
  | n + 1, s, U, hn => by
    unfold lvS
    by_cases g : unb s.1 < 0
    · rw [if_pos g]; exact ⟨U, g⟩
    · rw [if_neg g]
      obtain ⟨j, e, h1, h2⟩ := qqb (by omega : 0 ≤ unb s.1)
      have c := qex U.mesh h1 h2
      rw [e, Int.toNat_natCast]
      exact qkn n _ (rf_U U c.1 c.2) (by show 129 ≤ n + (qoy s.1 _).length; rw [qoz c.1]; omega)
def spS (w : List Int) : Nat → S3 → S3
  | 0, s => s
  | n + 1, s => spS w n (if w.getD n 0 = 1 then rfS s n else s)
def mayC (l : List Cell) (i : Nat) : Bool := sib (l.getD i zz3) (l.getD (i + 1) zz3) && ((decide (i = 0) || decide (qkg l (i - 1) ≤ qkg l i)) && (decide (l.length ≤ i + 2) || decide (qkg l (i + 2) ≤ qkg l i)))
def mgS (P : Cell → Bool) : Nat → Nat → S3 → S3
  | 0, i, s => s
  | n + 1, i, s => if i + 1 < s.1.length then mgS P n (i + 1) (if (P (s.1.getD i zz3) && (P (s.1.getD (i + 1) zz3) && mayC s.1 i)) = true then cmS s i else s) else s
theorem qo0 {l : List Cell} {i j : Nat} (hi : i < l.length) (h : j < i) : (qoy l i).getD j zz3 = l.getD j zz3 := by
  unfold qoy
  simp only [List.getD_eq_getElem?_getD]
  rw [List.getElem?_append_left (by rw [List.length_take]; omega), List.getElem?_take, if_pos h]
theorem qow {r : Int} {b : List Int} (w : List Int) (l0 : List Cell) (hw : ∀ j, w.getD j 0 = 1 → qkg l0 j < 4) : ∀ (n : Nat) (s : S3), StU r s b → n ≤ s.1.length → (∀ j, j < n → s.1.getD j zz3 = l0.getD j zz3) → StU r (spS w n s) b
  | 0, s, U, hn, he => U
  | n + 1, s, U, hn, he => by
    unfold spS
    by_cases g : w.getD n 0 = 1
    · rw [if_pos g]
      have hl : qkg s.1 n < 4 := by have := hw n g; unfold qkg at *; rw [he n (by omega)]; exact this
      exact qow w l0 hw n _ (rf_U U (by omega) hl) (by show n ≤ (qoy s.1 n).length; rw [qoz (by omega)]; omega) fun j hj => by
        show (qoy s.1 n).getD j zz3 = _
        rw [qo0 (by omega) hj]; exact he j (by omega)
    · rw [if_neg g]
      exact qow w l0 hw n s U (by omega) fun j hj => he j (by omega)
theorem qma {r : Int} {b : List Int} (P : Cell → Bool) : ∀ (n i : Nat) (s : S3), StU r s b → StU r (mgS P n i s) b
  | 0, i, s, U => U
  | n + 1, i, s, U => by
    unfold mgS
    by_cases g : i + 1 < s.1.length
    · rw [if_pos g]
      by_cases h : (P (s.1.getD i zz3) && (P (s.1.getD (i + 1) zz3) && mayC s.1 i)) = true
      · rw [if_pos h]
        simp only [Bool.and_eq_true, mayC] at h
        exact qma P n (i + 1) _ (cm_U U g h.2.2.1)
      · rw [if_neg h]; exact qma P n (i + 1) s U
    · rw [if_neg g]; exact U
theorem ql1 {l : List Cell} {i : Nat} (hi : i + 1 < l.length) (hu : unb l < 0) (hm : mayC l i = true) (h1 : 1 ≤ qkg l i) : unb (qly l i) < 0 := by
  have ml := qlz hi
  simp only [mayC, Bool.and_eq_true, Bool.or_eq_true, decide_eq_true_eq, sib] at hm
  obtain ⟨⟨_, _, _, hlev, _⟩, hlo, hhi⟩ := hm
  rw [qqc] at hu ⊢
  have lv : ∀ j, qkg (qly l i) j = if j < i then qkg l j else if j = i then qkg l i - 1 else qkg l (j + 1) := fun j => by
    unfold qly qkg
    simp only [List.getD_eq_getElem?_getD]
    by_cases g : j < i
    · rw [if_pos g, List.getElem?_append_left (by rw [List.length_take]; omega), List.getElem?_take, if_pos g]
    · rw [if_neg g, List.getElem?_append_right (by rw [List.length_take]; omega), List.length_take, Nat.min_eq_left (by omega)]
      by_cases g2 : j = i
      · subst g2; rw [if_pos rfl, Nat.sub_self]; simp [par]
      · rw [if_neg g2, show j - i = (j - i - 1) + 1 by omega, List.getElem?_cons_succ, List.getElem?_drop]
        congr 4; omega
  intro j hj
  have hj' : j + 1 < l.length - 1 := by omega
  rw [lv, lv]
  have hu1 := fun q (hq : q + 1 < l.length) => hu q hq
  have hle : qkg l i = qkg l (i + 1) := hlev
  by_cases g : j + 1 < i
  · rw [if_pos (by omega), if_pos g]; exact hu j (by omega)
  by_cases g1 : j + 1 = i
  · rw [if_pos (by omega), if_neg (by omega), if_pos g1]
    have := hu j (by omega)
    rw [g1] at this
    rcases hlo with h | h
    · omega
    · rw [show i - 1 = j by omega] at h; omega
  by_cases g2 : j = i
  · subst g2
    rw [if_neg (by omega), if_pos rfl, if_neg (by omega), if_neg (by omega)]
    have := hu (j + 1) (by omega)
    rcases hhi with h | h
    · omega
    · rw [show j + 1 + 1 = j + 2 by omega] at *; omega
  · rw [if_neg (by omega), if_neg (by omega), if_neg (by omega), if_neg (by omega)]; exact hu (j + 1) (by omega)
theorem qor {a b : Cell} (h : sib a b = true) : 1 ≤ a.2.1 := by
  simp only [sib, Bool.and_eq_true, decide_eq_true_eq] at h
  obtain ⟨h1, h2, h3, h4, h5, h6⟩ := h
  rw [← h3, ← h4, h6] at h2
  exact (qmt h1 h2 h5).1
theorem qmc (P : Cell → Bool) : ∀ (n i : Nat) (s : S3), unb s.1 < 0 → unb (mgS P n i s).1 < 0
  | 0, i, s, U => U
  | n + 1, i, s, U => by
    unfold mgS
    by_cases g : i + 1 < s.1.length
    · rw [if_pos g]
      by_cases h : (P (s.1.getD i zz3) && (P (s.1.getD (i + 1) zz3) && mayC s.1 i)) = true
      · rw [if_pos h]
        simp only [Bool.and_eq_true] at h
        have h2 := h.2.2
        simp only [mayC, Bool.and_eq_true] at h2
        exact qmc P n (i + 1) _ (ql1 g U h.2.2 (qor h2.1))
      · rw [if_neg h]; exact qmc P n (i + 1) s U
    · rw [if_neg g]; exact U
end Go.Proofs.YtjfjniebmdafeaaGreatDoor
end
section
namespace Go.Proofs.YtjfjniebmdafeaaGreatDoor
open Go.Ev
theorem qhr (k : Nat) (a b c d e f : Int) : go (k + 1) spec_l09Pair [(.int .i64 (a)), (.int .i64 (b)), (.int .i64 (c)), (.int .i64 (d)), (.int .i64 (e)), (.int .i64 (f))] =
 (go k spec_WidthOf [(.int .i64 (if f > e then f else e))]).bind fun r0 =>
 (go k spec_WidthOf [(.int .i64 (e))]).bind fun r1 =>
 (go k spec_WidthOf [(.int .i64 (f))]).bind fun r2 =>
 (go k spec_DivTrunc [(.int .i64 (IntKind.wrap .i64 (IntKind.wrap .i64 (a - b) * D.toInt (nth r0 0)))), (.int .i64 (IntKind.wrap .i64 ((32 : Int) * IntKind.wrap .i64 (D.toInt (nth r1 0) + D.toInt (nth r2 0)))))]).bind fun r3 =>
 some [(.int .i64 (if IntKind.wrap .i64 ((0 : Int) - IntKind.wrap .i64 (Int.tdiv d (4 : Int))) > if IntKind.wrap .i64 (Int.tdiv c (4 : Int)) < D.toInt (nth r3 0) then IntKind.wrap .i64 (Int.tdiv c (4 : Int)) else D.toInt (nth r3 0) then IntKind.wrap .i64 ((0 : Int) - IntKind.wrap .i64 (Int.tdiv d (4 : Int))) else if IntKind.wrap .i64 (Int.tdiv c (4 : Int)) < D.toInt (nth r3 0) then IntKind.wrap .i64 (Int.tdiv c (4 : Int)) else D.toInt (nth r3 0)))] := by kernel_rfl
theorem qhp (k : Nat) (a0 : Int) (a1z : Bool) (a1 : List (Int × Int × Int)) (a2z : Bool) (a2 : List Int) (a3z : Bool) (a3 : List Int) (a4z : Bool) (a4 : List Int) (b : Int) : go (k + 1) spec_l09Flux [(.agg [(.int .i64 (a0)), (.arr false (a1z) (.r3 (a1))), (.arr false (a2z) (.ints .i64 (a2))), (.arr false (a3z) (.ints .i64 (a3))), (.arr false (a4z) (.ints .i64 (a4)))]), (.int .i64 (b))] =
 (go k spec_l09Surface [(.agg [(.int .i64 (a0)), (.arr false (a1z) (.r3 (a1))), (.arr false (a2z) (.ints .i64 (a2))), (.arr false (a3z) (.ints .i64 (a3))), (.arr false (a4z) (.ints .i64 (a4)))]), (.int .i64 (b))]).bind fun r0 =>
 (go k spec_l09Surface [(.agg [(.int .i64 (a0)), (.arr false (a1z) (.r3 (a1))), (.arr false (a2z) (.ints .i64 (a2))), (.arr false (a3z) (.ints .i64 (a3))), (.arr false (a4z) (.ints .i64 (a4)))]), (.int .i64 (IntKind.wrap .i64 (b + (1 : Int))))]).bind fun r1 =>
 cond (decide ((0 : Int) ≤ b) && decide (b < nI (List.length a2)))
 (cond (decide ((0 : Int) ≤ IntKind.wrap .i64 (b + (1 : Int))) && decide (IntKind.wrap .i64 (b + (1 : Int)) < nI (List.length a2)))
 (cond (decide ((0 : Int) ≤ b) && decide (b < nI (List.length a1)))
 (cond (decide ((0 : Int) ≤ IntKind.wrap .i64 (b + (1 : Int))) && decide (IntKind.wrap .i64 (b + (1 : Int)) < nI (List.length a1)))
 ((go k spec_l09Pair [(.int .i64 (D.toInt (nth r0 0))), (.int .i64 (D.toInt (nth r1 0))), (.int .i64 (List.getD a2 (Int.toNat b) (0 : Int))), (.int .i64 (List.getD a2 (Int.toNat (IntKind.wrap .i64 (b + (1 : Int)))) (0 : Int))), (.int .i64 (Prod.fst (Prod.snd (List.getD a1 (Int.toNat b) zz3)))), (.int .i64 (Prod.fst (Prod.snd (List.getD a1 (Int.toNat (IntKind.wrap .i64 (b + (1 : Int)))) zz3))))]).bind fun r2 =>
 some [(.int .i64 (D.toInt (nth r2 0)))])
 (none))
 (none))
 (none))
 (none) := by kernel_rfl
theorem qgq (k : Nat) (a b c d : Int) : go (k + 1) spec_LeafOut [(.int .i64 (a)), (.int .i64 (b)), (.int .i64 (c)), (.int .i64 (d))] =
 (go k spec_l01In [(.int .i64 (b)), (.int .i64 ((1 : Int))), (.int .i64 ((10000000 : Int)))]).bind fun r0 =>
 cond (!bit (nth r0 0))
 (some [(.int .i64 (0 : Int)), (.int .i64 (0 : Int))])
 ((go k spec_l01In [(.int .i64 (a)), (.int .i64 (0 : Int)), (.int .i64 (IntKind.wrap .i64 ((1000 : Int) * b)))]).bind fun r1 =>
 cond (!bit (nth r1 0))
 (some [(.int .i64 (0 : Int)), (.int .i64 (0 : Int))])
 ((go k spec_l01In [(.int .i64 (c)), (.int .i64 (0 : Int)), (.int .i64 (b))]).bind fun r2 =>
 cond (!bit (nth r2 0))
 (some [(.int .i64 (0 : Int)), (.int .i64 (0 : Int))])
 ((go k spec_l01In [(.int .i64 (d)), (.int .i64 (0 : Int)), (.int .i64 (IntKind.wrap .i64 (b - c)))]).bind fun r3 =>
 cond (!bit (nth r3 0))
 (some [(.int .i64 (0 : Int)), (.int .i64 (0 : Int))])
 ((go k spec_ShareOut [(.int .i64 (a)), (.int .i64 (c)), (.int .i64 (b))]).bind fun r4 =>
 (go k spec_ShareOut [(.int .i64 (a)), (.int .i64 (IntKind.wrap .i64 (c + d))), (.int .i64 (b))]).bind fun r5 =>
 some [(.int .i64 (D.toInt (nth r4 0))), (.int .i64 (IntKind.wrap .i64 (D.toInt (nth r5 0) - D.toInt (nth r4 0))))])))) := by kernel_rfl
theorem qgv (k : Nat) (a b c : Int) : go (k + 1) spec_ShareOut [(.int .i64 (a)), (.int .i64 (b)), (.int .i64 (c))] =
 (go k spec_l01In [(.int .i64 (c)), (.int .i64 ((1 : Int))), (.int .i64 ((10000000 : Int)))]).bind fun r0 =>
 cond (!bit (nth r0 0))
 (some [(.int .i64 (0 : Int))])
 ((go k spec_l01In [(.int .i64 (b)), (.int .i64 (0 : Int)), (.int .i64 (c))]).bind fun r1 =>
 cond (!bit (nth r1 0))
 (some [(.int .i64 (0 : Int))])
 ((go k spec_l01In [(.int .i64 (a)), (.int .i64 (0 : Int)), (.int .i64 (IntKind.wrap .i64 ((1000 : Int) * c)))]).bind fun r2 =>
 cond (!bit (nth r2 0))
 (some [(.int .i64 (0 : Int))])
 (cond (!decide (c = (0 : Int)))
 (some [(.int .i64 (IntKind.wrap .i64 (Int.tdiv (IntKind.wrap .i64 (a * b)) c)))])
 (none)))) := by kernel_rfl
theorem qgg (k : Nat) (a b : Int) : go (k + 1) spec_DivTrunc [(.int .i64 (a)), (.int .i64 (b))] =
 cond (decide (b ≤ (0 : Int)))
 (some [(.int .i64 (0 : Int))])
 (cond (!decide (b = (0 : Int)))
 (some [(.int .i64 (IntKind.wrap .i64 (Int.tdiv a b)))])
 (none)) := by kernel_rfl
def qn7 (x0 : Int) (z1 : Bool) (l2 : List (Int × Int × Int)) (z3 : Bool) (l4 : List Int) (z5 : Bool) (l6 : List Int) (z7 : Bool) (l8 : List Int) (x9 : Int) (z10 : Bool) (l11 : List (Int × Int × Int)) (z12 : Bool) (l13 : List Int) (z14 : Bool) (l15 : List Int) (z16 : Bool) (l17 : List Int) (x18 : Int) (z19 : Bool) (l20 : List (Int × Int × Int)) (z21 : Bool) (l22 : List Int) (z23 : Bool) (l24 : List Int) (z25 : Bool) (l26 : List Int) (x27 : Int) (z28 : Bool) (l29 : List Int) : St := ⟨fill 151 [(2, (.ptr 4 (0) (0))), (4, (.ptr 9 (0) (0))), (5, (.ptr 14 (0) (0))), (6, (.sl 15 none)), (8, (.int .i64 (x0)))], [], [(.arr false (z1) (.r3 (l2))), (.arr false (z3) (.ints .i64 (l4))), (.arr false (z5) (.ints .i64 (l6))), (.arr false (z7) (.ints .i64 (l8))), (.box true [(.int .i64 (x9)), (.sl 0 none), (.sl 1 none), (.sl 2 none), (.sl 3 none)]), (.arr true (z10) (.r3 (l11))), (.arr true (z12) (.ints .i64 (l13))), (.arr true (z14) (.ints .i64 (l15))), (.arr true (z16) (.ints .i64 (l17))), (.box true [(.int .i64 (x18)), (.sl 5 none), (.sl 6 none), (.sl 7 none), (.sl 8 none)]), (.arr true (z19) (.r3 (l20))), (.arr true (z21) (.ints .i64 (l22))), (.arr true (z23) (.ints .i64 (l24))), (.arr true (z25) (.ints .i64 (l26))), (.box true [(.int .i64 (x27)), (.sl 10 none), (.sl 11 none), (.sl 12 none), (.sl 13 none)]), (.arr true (z28) (.ints .i64 (l29)))]⟩
def qn8 (x0 x1 : Int) (z2 : Bool) (l3 : List (Int × Int × Int)) (z4 : Bool) (l5 : List Int) (z6 : Bool) (l7 : List Int) (z8 : Bool) (l9 : List Int) (x10 : Int) (z11 : Bool) (l12 : List (Int × Int × Int)) (z13 : Bool) (l14 : List Int) (z15 : Bool) (l16 : List Int) (z17 : Bool) (l18 : List Int) (x19 : Int) (z20 : Bool) (l21 : List (Int × Int × Int)) (z22 : Bool) (l23 : List Int) (z24 : Bool) (l25 : List Int) (z26 : Bool) (l27 : List Int) (x28 : Int) (z29 : Bool) (l30 : List Int) : St := ⟨fill 151 [(1, (.int .i64 (x0))), (2, (.ptr 4 (0) (0))), (4, (.ptr 9 (0) (0))), (5, (.ptr 14 (0) (0))), (6, (.sl 15 none)), (7, (.int .i64 (x1)))], [], [(.arr false (z2) (.r3 (l3))), (.arr false (z4) (.ints .i64 (l5))), (.arr false (z6) (.ints .i64 (l7))), (.arr false (z8) (.ints .i64 (l9))), (.box true [(.int .i64 (x10)), (.sl 0 none), (.sl 1 none), (.sl 2 none), (.sl 3 none)]), (.arr true (z11) (.r3 (l12))), (.arr true (z13) (.ints .i64 (l14))), (.arr true (z15) (.ints .i64 (l16))), (.arr true (z17) (.ints .i64 (l18))), (.box true [(.int .i64 (x19)), (.sl 5 none), (.sl 6 none), (.sl 7 none), (.sl 8 none)]), (.arr true (z20) (.r3 (l21))), (.arr true (z22) (.ints .i64 (l23))), (.arr true (z24) (.ints .i64 (l25))), (.arr true (z26) (.ints .i64 (l27))), (.box true [(.int .i64 (x28)), (.sl 10 none), (.sl 11 none), (.sl 12 none), (.sl 13 none)]), (.arr true (z29) (.ints .i64 (l30)))]⟩
theorem qht (k : Nat) (a0 : Int) (a1z : Bool) (a1 : List (Int × Int × Int)) (a2z : Bool) (a2 : List Int) (a3z : Bool) (a3 : List Int) (a4z : Bool) (a4 : List Int) (b : Int) : go (k + 1) spec_l11Step [(.agg [(.int .i64 (a0)), (.arr false (a1z) (.r3 (a1))), (.arr false (a2z) (.ints .i64 (a2))), (.arr false (a3z) (.ints .i64 (a3))), (.arr false (a4z) (.ints .i64 (a4)))]), (.int .i64 (b))] =
 (go k spec_l07Copy [(.agg [(.int .i64 (a0)), (.arr false (a1z) (.r3 (a1))), (.arr false (a2z) (.ints .i64 (a2))), (.arr false (a3z) (.ints .i64 (a3))), (.arr false (a4z) (.ints .i64 (a4)))])]).bind fun r0 =>
 cond (decide ((0 : Int) ≤ nI (List.length a2)) && decide (nI (List.length a2) ≤ nI (List.length a2)) && decide (nI (List.length a2) ≤ nI bigLen))
 (lp k spec_l11Step [] [] 4 k (qn8 b (0 : Int) a1z a1 a2z a2 a3z a3 a4z a4 a0 true ([]) true ([]) true ([]) true ([]) (0 : Int) (D.nil (D.cell 1 (nth r0 0))) (D.r3 (D.cell 1 (nth r0 0))) (D.nil (D.cell 2 (nth r0 0))) (D.ints (D.cell 2 (nth r0 0))) (D.nil (D.cell 3 (nth r0 0))) (D.ints (D.cell 3 (nth r0 0))) (D.nil (D.cell 4 (nth r0 0))) (D.ints (D.cell 4 (nth r0 0))) (D.toInt (D.cell 0 (nth r0 0))) false (List.replicate (Int.toNat (nI (List.length a2))) (0 : Int))))
 (none) := by kernel_rfl
theorem qj0 (k n : Nat) (fu : List (Nat × Nat)) (x0 : Int) (z1 : Bool) (l2 : List (Int × Int × Int)) (z3 : Bool) (l4 : List Int) (z5 : Bool) (l6 : List Int) (z7 : Bool) (l8 : List Int) (x9 : Int) (z10 : Bool) (l11 : List (Int × Int × Int)) (z12 : Bool) (l13 : List Int) (z14 : Bool) (l15 : List Int) (z16 : Bool) (l17 : List Int) (x18 : Int) (z19 : Bool) (l20 : List (Int × Int × Int)) (z21 : Bool) (l22 : List Int) (z23 : Bool) (l24 : List Int) (z25 : Bool) (l26 : List Int) (x27 : Int) (z28 : Bool) (l29 : List Int) : lp k spec_l11Step [] fu 11 (n + 1) (qn7 x0 z1 l2 z3 l4 z5 l6 z7 l8 x9 z10 l11 z12 l13 z14 l15 z16 l17 x18 z19 l20 z21 l22 z23 l24 z25 l26 x27 z28 l29) =
 cond (decide (x0 < nI (List.length l4)))
 (cond (decide ((0 : Int) ≤ x0) && decide (x0 < nI (List.length l29)))
 (cond (decide ((0 : Int) < x0))
 (cond (decide ((0 : Int) ≤ IntKind.wrap .i64 (x0 - (1 : Int))) && decide (IntKind.wrap .i64 (x0 - (1 : Int)) < nI (List.length l29)))
 (cond (decide ((0 : Int) ≤ x0) && decide (x0 < nI (List.length l6)))
 (cond (decide ((0 : Int) ≤ x0) && decide (x0 < nI (List.length l4)))
 ((go k spec_LeafOut [(.int .i64 (List.getD l6 (Int.toNat x0) (0 : Int))), (.int .i64 (List.getD l4 (Int.toNat x0) (0 : Int))), (.int .i64 (if (0 : Int) > List.getD l29 (Int.toNat x0) (0 : Int) then (0 : Int) else List.getD l29 (Int.toNat x0) (0 : Int))), (.int .i64 (if (0 : Int) > IntKind.wrap .i64 ((0 : Int) - List.getD l29 (Int.toNat (IntKind.wrap .i64 (x0 - (1 : Int)))) (0 : Int)) then (0 : Int) else IntKind.wrap .i64 ((0 : Int) - List.getD l29 (Int.toNat (IntKind.wrap .i64 (x0 - (1 : Int)))) (0 : Int))))]).bind fun r0 =>
 cond (decide ((0 : Int) ≤ x0) && decide (x0 < nI (List.length l24)))
 (cond (decide ((0 : Int) ≤ x0) && decide (x0 < nI (List.length l24)))
 (cond (decide ((0 : Int) < if (0 : Int) > List.getD l29 (Int.toNat x0) (0 : Int) then (0 : Int) else List.getD l29 (Int.toNat x0) (0 : Int)))
 (cond (decide ((0 : Int) ≤ IntKind.wrap .i64 (x0 + (1 : Int))) && decide (IntKind.wrap .i64 (x0 + (1 : Int)) < nI (List.length (List.set l24 (Int.toNat x0) (IntKind.wrap .i64 (IntKind.wrap .i64 (List.getD l24 (Int.toNat x0) (0 : Int) - D.toInt (nth r0 0)) - D.toInt (nth r0 1)))))))
 (cond (decide ((0 : Int) ≤ IntKind.wrap .i64 (x0 + (1 : Int))) && decide (IntKind.wrap .i64 (x0 + (1 : Int)) < nI (List.length (List.set l24 (Int.toNat x0) (IntKind.wrap .i64 (IntKind.wrap .i64 (List.getD l24 (Int.toNat x0) (0 : Int) - D.toInt (nth r0 0)) - D.toInt (nth r0 1)))))))
 (cond (decide ((0 : Int) < if (0 : Int) > IntKind.wrap .i64 ((0 : Int) - List.getD l29 (Int.toNat (IntKind.wrap .i64 (x0 - (1 : Int)))) (0 : Int)) then (0 : Int) else IntKind.wrap .i64 ((0 : Int) - List.getD l29 (Int.toNat (IntKind.wrap .i64 (x0 - (1 : Int)))) (0 : Int))))
 (cond (decide ((0 : Int) ≤ IntKind.wrap .i64 (x0 - (1 : Int))) && decide (IntKind.wrap .i64 (x0 - (1 : Int)) < nI (List.length (List.set (List.set l24 (Int.toNat x0) (IntKind.wrap .i64 (IntKind.wrap .i64 (List.getD l24 (Int.toNat x0) (0 : Int) - D.toInt (nth r0 0)) - D.toInt (nth r0 1)))) (Int.toNat (IntKind.wrap .i64 (x0 + (1 : Int)))) (IntKind.wrap .i64 (List.getD (List.set l24 (Int.toNat x0) (IntKind.wrap .i64 (IntKind.wrap .i64 (List.getD l24 (Int.toNat x0) (0 : Int) - D.toInt (nth r0 0)) - D.toInt (nth r0 1)))) (Int.toNat (IntKind.wrap .i64 (x0 + (1 : Int)))) (0 : Int) + D.toInt (nth r0 0)))))))
 (cond (decide ((0 : Int) ≤ IntKind.wrap .i64 (x0 - (1 : Int))) && decide (IntKind.wrap .i64 (x0 - (1 : Int)) < nI (List.length (List.set (List.set l24 (Int.toNat x0) (IntKind.wrap .i64 (IntKind.wrap .i64 (List.getD l24 (Int.toNat x0) (0 : Int) - D.toInt (nth r0 0)) - D.toInt (nth r0 1)))) (Int.toNat (IntKind.wrap .i64 (x0 + (1 : Int)))) (IntKind.wrap .i64 (List.getD (List.set l24 (Int.toNat x0) (IntKind.wrap .i64 (IntKind.wrap .i64 (List.getD l24 (Int.toNat x0) (0 : Int) - D.toInt (nth r0 0)) - D.toInt (nth r0 1)))) (Int.toNat (IntKind.wrap .i64 (x0 + (1 : Int)))) (0 : Int) + D.toInt (nth r0 0)))))))
 (lp k spec_l11Step [] fu 11 n (qn7 (IntKind.wrap .i64 (x0 + (1 : Int))) z1 l2 z3 l4 z5 l6 z7 l8 x9 z10 l11 z12 l13 z14 l15 z16 l17 x18 z19 l20 z21 l22 z23 (List.set (List.set (List.set l24 (Int.toNat x0) (IntKind.wrap .i64 (IntKind.wrap .i64 (List.getD l24 (Int.toNat x0) (0 : Int) - D.toInt (nth r0 0)) - D.toInt (nth r0 1)))) (Int.toNat (IntKind.wrap .i64 (x0 + (1 : Int)))) (IntKind.wrap .i64 (List.getD (List.set l24 (Int.toNat x0) (IntKind.wrap .i64 (IntKind.wrap .i64 (List.getD l24 (Int.toNat x0) (0 : Int) - D.toInt (nth r0 0)) - D.toInt (nth r0 1)))) (Int.toNat (IntKind.wrap .i64 (x0 + (1 : Int)))) (0 : Int) + D.toInt (nth r0 0)))) (Int.toNat (IntKind.wrap .i64 (x0 - (1 : Int)))) (IntKind.wrap .i64 (List.getD (List.set (List.set l24 (Int.toNat x0) (IntKind.wrap .i64 (IntKind.wrap .i64 (List.getD l24 (Int.toNat x0) (0 : Int) - D.toInt (nth r0 0)) - D.toInt (nth r0 1)))) (Int.toNat (IntKind.wrap .i64 (x0 + (1 : Int)))) (IntKind.wrap .i64 (List.getD (List.set l24 (Int.toNat x0) (IntKind.wrap .i64 (IntKind.wrap .i64 (List.getD l24 (Int.toNat x0) (0 : Int) - D.toInt (nth r0 0)) - D.toInt (nth r0 1)))) (Int.toNat (IntKind.wrap .i64 (x0 + (1 : Int)))) (0 : Int) + D.toInt (nth r0 0)))) (Int.toNat (IntKind.wrap .i64 (x0 - (1 : Int)))) (0 : Int) + D.toInt (nth r0 1)))) z25 l26 x27 z28 l29))
 (none))
 (none))
 (lp k spec_l11Step [] fu 11 n (qn7 (IntKind.wrap .i64 (x0 + (1 : Int))) z1 l2 z3 l4 z5 l6 z7 l8 x9 z10 l11 z12 l13 z14 l15 z16 l17 x18 z19 l20 z21 l22 z23 (List.set (List.set l24 (Int.toNat x0) (IntKind.wrap .i64 (IntKind.wrap .i64 (List.getD l24 (Int.toNat x0) (0 : Int) - D.toInt (nth r0 0)) - D.toInt (nth r0 1)))) (Int.toNat (IntKind.wrap .i64 (x0 + (1 : Int)))) (IntKind.wrap .i64 (List.getD (List.set l24 (Int.toNat x0) (IntKind.wrap .i64 (IntKind.wrap .i64 (List.getD l24 (Int.toNat x0) (0 : Int) - D.toInt (nth r0 0)) - D.toInt (nth r0 1)))) (Int.toNat (IntKind.wrap .i64 (x0 + (1 : Int)))) (0 : Int) + D.toInt (nth r0 0)))) z25 l26 x27 z28 l29)))
 (none))
 (none))
 (cond (decide ((0 : Int) < if (0 : Int) > IntKind.wrap .i64 ((0 : Int) - List.getD l29 (Int.toNat (IntKind.wrap .i64 (x0 - (1 : Int)))) (0 : Int)) then (0 : Int) else IntKind.wrap .i64 ((0 : Int) - List.getD l29 (Int.toNat (IntKind.wrap .i64 (x0 - (1 : Int)))) (0 : Int))))
 (cond (decide ((0 : Int) ≤ IntKind.wrap .i64 (x0 - (1 : Int))) && decide (IntKind.wrap .i64 (x0 - (1 : Int)) < nI (List.length (List.set l24 (Int.toNat x0) (IntKind.wrap .i64 (IntKind.wrap .i64 (List.getD l24 (Int.toNat x0) (0 : Int) - D.toInt (nth r0 0)) - D.toInt (nth r0 1)))))))
 (cond (decide ((0 : Int) ≤ IntKind.wrap .i64 (x0 - (1 : Int))) && decide (IntKind.wrap .i64 (x0 - (1 : Int)) < nI (List.length (List.set l24 (Int.toNat x0) (IntKind.wrap .i64 (IntKind.wrap .i64 (List.getD l24 (Int.toNat x0) (0 : Int) - D.toInt (nth r0 0)) - D.toInt (nth r0 1)))))))
 (lp k spec_l11Step [] fu 11 n (qn7 (IntKind.wrap .i64 (x0 + (1 : Int))) z1 l2 z3 l4 z5 l6 z7 l8 x9 z10 l11 z12 l13 z14 l15 z16 l17 x18 z19 l20 z21 l22 z23 (List.set (List.set l24 (Int.toNat x0) (IntKind.wrap .i64 (IntKind.wrap .i64 (List.getD l24 (Int.toNat x0) (0 : Int) - D.toInt (nth r0 0)) - D.toInt (nth r0 1)))) (Int.toNat (IntKind.wrap .i64 (x0 - (1 : Int)))) (IntKind.wrap .i64 (List.getD (List.set l24 (Int.toNat x0) (IntKind.wrap .i64 (IntKind.wrap .i64 (List.getD l24 (Int.toNat x0) (0 : Int) - D.toInt (nth r0 0)) - D.toInt (nth r0 1)))) (Int.toNat (IntKind.wrap .i64 (x0 - (1 : Int)))) (0 : Int) + D.toInt (nth r0 1)))) z25 l26 x27 z28 l29))
 (none))
 (none))
 (lp k spec_l11Step [] fu 11 n (qn7 (IntKind.wrap .i64 (x0 + (1 : Int))) z1 l2 z3 l4 z5 l6 z7 l8 x9 z10 l11 z12 l13 z14 l15 z16 l17 x18 z19 l20 z21 l22 z23 (List.set l24 (Int.toNat x0) (IntKind.wrap .i64 (IntKind.wrap .i64 (List.getD l24 (Int.toNat x0) (0 : Int) - D.toInt (nth r0 0)) - D.toInt (nth r0 1)))) z25 l26 x27 z28 l29))))
 (none))
 (none))
 (none))
 (none))
 (none))
 (cond (decide ((0 : Int) ≤ x0) && decide (x0 < nI (List.length l6)))
 (cond (decide ((0 : Int) ≤ x0) && decide (x0 < nI (List.length l4)))
 ((go k spec_LeafOut [(.int .i64 (List.getD l6 (Int.toNat x0) (0 : Int))), (.int .i64 (List.getD l4 (Int.toNat x0) (0 : Int))), (.int .i64 (if (0 : Int) > List.getD l29 (Int.toNat x0) (0 : Int) then (0 : Int) else List.getD l29 (Int.toNat x0) (0 : Int))), (.int .i64 (0 : Int))]).bind fun r1 =>
 cond (decide ((0 : Int) ≤ x0) && decide (x0 < nI (List.length l24)))
 (cond (decide ((0 : Int) ≤ x0) && decide (x0 < nI (List.length l24)))
 (cond (decide ((0 : Int) < if (0 : Int) > List.getD l29 (Int.toNat x0) (0 : Int) then (0 : Int) else List.getD l29 (Int.toNat x0) (0 : Int)))
 (cond (decide ((0 : Int) ≤ IntKind.wrap .i64 (x0 + (1 : Int))) && decide (IntKind.wrap .i64 (x0 + (1 : Int)) < nI (List.length (List.set l24 (Int.toNat x0) (IntKind.wrap .i64 (IntKind.wrap .i64 (List.getD l24 (Int.toNat x0) (0 : Int) - D.toInt (nth r1 0)) - D.toInt (nth r1 1)))))))
 (cond (decide ((0 : Int) ≤ IntKind.wrap .i64 (x0 + (1 : Int))) && decide (IntKind.wrap .i64 (x0 + (1 : Int)) < nI (List.length (List.set l24 (Int.toNat x0) (IntKind.wrap .i64 (IntKind.wrap .i64 (List.getD l24 (Int.toNat x0) (0 : Int) - D.toInt (nth r1 0)) - D.toInt (nth r1 1)))))))
 (lp k spec_l11Step [] fu 11 n (qn7 (IntKind.wrap .i64 (x0 + (1 : Int))) z1 l2 z3 l4 z5 l6 z7 l8 x9 z10 l11 z12 l13 z14 l15 z16 l17 x18 z19 l20 z21 l22 z23 (List.set (List.set l24 (Int.toNat x0) (IntKind.wrap .i64 (IntKind.wrap .i64 (List.getD l24 (Int.toNat x0) (0 : Int) - D.toInt (nth r1 0)) - D.toInt (nth r1 1)))) (Int.toNat (IntKind.wrap .i64 (x0 + (1 : Int)))) (IntKind.wrap .i64 (List.getD (List.set l24 (Int.toNat x0) (IntKind.wrap .i64 (IntKind.wrap .i64 (List.getD l24 (Int.toNat x0) (0 : Int) - D.toInt (nth r1 0)) - D.toInt (nth r1 1)))) (Int.toNat (IntKind.wrap .i64 (x0 + (1 : Int)))) (0 : Int) + D.toInt (nth r1 0)))) z25 l26 x27 z28 l29))
 (none))
 (none))
 (lp k spec_l11Step [] fu 11 n (qn7 (IntKind.wrap .i64 (x0 + (1 : Int))) z1 l2 z3 l4 z5 l6 z7 l8 x9 z10 l11 z12 l13 z14 l15 z16 l17 x18 z19 l20 z21 l22 z23 (List.set l24 (Int.toNat x0) (IntKind.wrap .i64 (IntKind.wrap .i64 (List.getD l24 (Int.toNat x0) (0 : Int) - D.toInt (nth r1 0)) - D.toInt (nth r1 1)))) z25 l26 x27 z28 l29)))
 (none))
 (none))
 (none))
 (none)))
 (none))
 (some [(.agg [(.int .i64 (x27)), (.arr true (z19) (.r3 (l20))), (.arr true (z21) (.ints .i64 (l22))), (.arr true (z23) (.ints .i64 (l24))), (.arr true (z25) (.ints .i64 (l26)))])]) := by kernel_rfl
theorem qj1 (k n : Nat) (fu : List (Nat × Nat)) (x0 x1 : Int) (z2 : Bool) (l3 : List (Int × Int × Int)) (z4 : Bool) (l5 : List Int) (z6 : Bool) (l7 : List Int) (z8 : Bool) (l9 : List Int) (x10 : Int) (z11 : Bool) (l12 : List (Int × Int × Int)) (z13 : Bool) (l14 : List Int) (z15 : Bool) (l16 : List Int) (z17 : Bool) (l18 : List Int) (x19 : Int) (z20 : Bool) (l21 : List (Int × Int × Int)) (z22 : Bool) (l23 : List Int) (z24 : Bool) (l25 : List Int) (z26 : Bool) (l27 : List Int) (x28 : Int) (z29 : Bool) (l30 : List Int) : lp k spec_l11Step [] fu 4 (n + 1) (qn8 x0 x1 z2 l3 z4 l5 z6 l7 z8 l9 x10 z11 l12 z13 l14 z15 l16 z17 l18 x19 z20 l21 z22 l23 z24 l25 z26 l27 x28 z29 l30) =
 cond (decide (IntKind.wrap .i64 (x1 + (1 : Int)) < nI (List.length l5)))
 ((go k spec_l05Face [(.agg [(.int .i64 (x10)), (.arr false (z2) (.r3 (l3)))]), (.int .i64 (x1))]).bind fun r0 =>
 (go k spec_IsActive [(.int .i64 (x0)), (.int .i64 (D.toInt (nth r0 0)))]).bind fun r1 =>
 cond (!bit (nth r1 0))
 (lp k spec_l11Step [] fu 4 n (qn8 x0 (IntKind.wrap .i64 (x1 + (1 : Int))) z2 l3 z4 l5 z6 l7 z8 l9 x10 z11 l12 z13 l14 z15 l16 z17 l18 x19 z20 l21 z22 l23 z24 l25 z26 l27 x28 z29 l30))
 ((go k spec_l09Flux [(.agg [(.int .i64 (x10)), (.arr false (z2) (.r3 (l3))), (.arr false (z4) (.ints .i64 (l5))), (.arr false (z6) (.ints .i64 (l7))), (.arr false (z8) (.ints .i64 (l9)))]), (.int .i64 (x1))]).bind fun r2 =>
 cond (decide ((0 : Int) ≤ x1) && decide (x1 < nI (List.length l30)))
 (cond (decide ((0 : Int) ≤ x1) && decide (x1 < nI (List.length l23)))
 (cond (decide ((0 : Int) ≤ x1) && decide (x1 < nI (List.length (List.set l30 (Int.toNat x1) (D.toInt (nth r2 0))))))
 (cond (decide ((0 : Int) ≤ x1) && decide (x1 < nI (List.length l23)))
 (cond (decide ((0 : Int) ≤ IntKind.wrap .i64 (x1 + (1 : Int))) && decide (IntKind.wrap .i64 (x1 + (1 : Int)) < nI (List.length (List.set l23 (Int.toNat x1) (IntKind.wrap .i64 (List.getD l23 (Int.toNat x1) (0 : Int) - List.getD (List.set l30 (Int.toNat x1) (D.toInt (nth r2 0))) (Int.toNat x1) (0 : Int)))))))
 (cond (decide ((0 : Int) ≤ x1) && decide (x1 < nI (List.length (List.set l30 (Int.toNat x1) (D.toInt (nth r2 0))))))
 (cond (decide ((0 : Int) ≤ IntKind.wrap .i64 (x1 + (1 : Int))) && decide (IntKind.wrap .i64 (x1 + (1 : Int)) < nI (List.length (List.set l23 (Int.toNat x1) (IntKind.wrap .i64 (List.getD l23 (Int.toNat x1) (0 : Int) - List.getD (List.set l30 (Int.toNat x1) (D.toInt (nth r2 0))) (Int.toNat x1) (0 : Int)))))))
 (lp k spec_l11Step [] fu 4 n (qn8 x0 (IntKind.wrap .i64 (x1 + (1 : Int))) z2 l3 z4 l5 z6 l7 z8 l9 x10 z11 l12 z13 l14 z15 l16 z17 l18 x19 z20 l21 z22 (List.set (List.set l23 (Int.toNat x1) (IntKind.wrap .i64 (List.getD l23 (Int.toNat x1) (0 : Int) - List.getD (List.set l30 (Int.toNat x1) (D.toInt (nth r2 0))) (Int.toNat x1) (0 : Int)))) (Int.toNat (IntKind.wrap .i64 (x1 + (1 : Int)))) (IntKind.wrap .i64 (List.getD (List.set l23 (Int.toNat x1) (IntKind.wrap .i64 (List.getD l23 (Int.toNat x1) (0 : Int) - List.getD (List.set l30 (Int.toNat x1) (D.toInt (nth r2 0))) (Int.toNat x1) (0 : Int)))) (Int.toNat (IntKind.wrap .i64 (x1 + (1 : Int)))) (0 : Int) + List.getD (List.set l30 (Int.toNat x1) (D.toInt (nth r2 0))) (Int.toNat x1) (0 : Int)))) z24 l25 z26 l27 x28 z29 (List.set l30 (Int.toNat x1) (D.toInt (nth r2 0)))))
 (none))
 (none))
 (none))
 (none))
 (none))
 (none))
 (none)))
 (lp k spec_l11Step [] fu 11 k (qn7 (0 : Int) z2 l3 z4 l5 z6 l7 z8 l9 x10 z11 l12 z13 l14 z15 l16 z17 l18 x19 z20 l21 z22 l23 z24 l25 z26 l27 x28 z29 l30)) := by kernel_rfl

end Go.Proofs.YtjfjniebmdafeaaGreatDoor
end
section
namespace Go.Proofs.YtjfjniebmdafeaaGreatDoor
open Go.Ev
theorem qc2 (k : Nat) (hk : 2000000 ≤ k) (a0 : Int) (a1z : Bool) (a1 : List (Int × Int × Int)) (h1 : (a1.length : Int) ≤ 1048576) : go (k + 1) spec_l04Copy [(.agg [(.int .i64 (a0)), (.arr false (a1z) (.r3 (a1)))])] = some [.agg [.int .i64 a0, .arr true false (.r3 a1)]] := by
  rw [qg8]
  simp (disch := omega) only [qax, nth0, nth1, nth2, nth3, bit, qd5, qd6, qeh, qem, qen, qeo, qep, qeq, qer, qes, qd7, qd8, qd9, qea, qeb, qec, qed, qee, qef, qeg, qei, qej, qek, qel, qp7, qp6, qp8, qmi, qm3, qm4, qiw, qa3, qph, nI, qe1, qez, Bool.not_true, Bool.not_false, Bool.and_true, Bool.true_and, Bool.and_false, Bool.false_and, Bool.or_true, Bool.true_or, Bool.or_false, Bool.false_or, beq_self_eq_true, dTT, dFF, dT, dF, bigI, big0, qmh, qqv, qqw, List.length_set, List.length_replicate, Int.toNat_natCast, qd3, qd4, imax, imin]
theorem qdd (k : Nat) (hk : 2000000 ≤ k) (a0 : Int) (a1z : Bool) (a1 : List (Int × Int × Int)) (a2z : Bool) (a2 : List Int) (a3z : Bool) (a3 : List Int) (a4z : Bool) (a4 : List Int) (h1 : (a1.length : Int) ≤ 1048576) (h2 : (a2.length : Int) ≤ 1048576) (h3 : (a3.length : Int) ≤ 1048576) (h4 : (a4.length : Int) ≤ 1048576) : go (k + 2) spec_l07Copy [(.agg [(.int .i64 (a0)), (.arr false (a1z) (.r3 (a1))), (.arr false (a2z) (.ints .i64 (a2))), (.arr false (a3z) (.ints .i64 (a3))), (.arr false (a4z) (.ints .i64 (a4)))])] = some [.agg [.int .i64 a0, .arr true false (.r3 a1), .arr true false (.ints .i64 a2), .arr true false (.ints .i64 a3), .arr true false (.ints .i64 a4)]] := by
  rw [qhj]
  simp (disch := omega) only [qax, nth0, nth1, nth2, nth3, bit, qd5, qd6, qeh, qem, qen, qeo, qep, qeq, qer, qes, qd7, qd8, qd9, qea, qeb, qec, qed, qee, qef, qeg, qei, qej, qek, qel, qp7, qp6, qp8, qmi, qm3, qm4, qiw, qa3, qph, nI, qe1, qez, Bool.not_true, Bool.not_false, Bool.and_true, Bool.true_and, Bool.and_false, Bool.false_and, Bool.or_true, Bool.true_or, Bool.or_false, Bool.false_or, beq_self_eq_true, dTT, dFF, dT, dF, bigI, big0, qmh, qqv, qqw, List.length_set, List.length_replicate, Int.toNat_natCast, qd3, qd4, imax, imin, qc2]
end Go.Proofs.YtjfjniebmdafeaaGreatDoor
end
section
namespace Go.Proofs.YtjfjniebmdafeaaGreatDoor
open Go.Ev
theorem qcl (k : Nat) (hk : 2000000 ≤ k) (a : Int) (b : Int) (c : Int) : go (k + 2) spec_ShareOut [(.int .i64 (a)), (.int .i64 (b)), (.int .i64 (c))] = some [.int .i64 (qoj a b c)] := by
  rw [qgv]
  unfold qoj
  cases hm : inR c 1 10000000
  · simp (disch := omega) only [qax, nth0, nth1, nth2, nth3, bit, qd5, qd6, qeh, qem, qen, qeo, qep, qeq, qer, qes, qd7, qd8, qd9, qea, qeb, qec, qed, qee, qef, qeg, qei, qej, qek, qel, qp7, qp6, qp8, qmi, qm3, qm4, qiw, qa3, qph, nI, qe1, qez, Bool.not_true, Bool.not_false, Bool.and_true, Bool.true_and, Bool.and_false, Bool.false_and, Bool.or_true, Bool.true_or, Bool.or_false, Bool.false_or, beq_self_eq_true, dTT, dFF, dT, dF, bigI, big0, qmh, qqv, qqw, List.length_set, List.length_replicate, Int.toNat_natCast, qd3, qd4, imax, imin, qc0, hm]
  cases hp : inR b 0 c
  · simp (disch := omega) only [qax, nth0, nth1, nth2, nth3, bit, qd5, qd6, qeh, qem, qen, qeo, qep, qeq, qer, qes, qd7, qd8, qd9, qea, qeb, qec, qed, qee, qef, qeg, qei, qej, qek, qel, qp7, qp6, qp8, qmi, qm3, qm4, qiw, qa3, qph, nI, qe1, qez, Bool.not_true, Bool.not_false, Bool.and_true, Bool.true_and, Bool.and_false, Bool.false_and, Bool.or_true, Bool.true_or, Bool.or_false, Bool.false_or, beq_self_eq_true, dTT, dFF, dT, dF, bigI, big0, qmh, qqv, qqw, List.length_set, List.length_replicate, Int.toNat_natCast, qd3, qd4, imax, imin, qc0, hm, hp]
  have hm' := qiu.1 hm
  cases ht : inR a 0 (1000 * c)
  · simp (disch := omega) only [qax, nth0, nth1, nth2, nth3, bit, qd5, qd6, qeh, qem, qen, qeo, qep, qeq, qer, qes, qd7, qd8, qd9, qea, qeb, qec, qed, qee, qef, qeg, qei, qej, qek, qel, qp7, qp6, qp8, qmi, qm3, qm4, qiw, qa3, qph, nI, qe1, qez, Bool.not_true, Bool.not_false, Bool.and_true, Bool.true_and, Bool.and_false, Bool.false_and, Bool.or_true, Bool.true_or, Bool.or_false, Bool.false_or, beq_self_eq_true, dTT, dFF, dT, dF, bigI, big0, qmh, qqv, qqw, List.length_set, List.length_replicate, Int.toNat_natCast, qd3, qd4, imax, imin, qc0, hm, hp, ht]
  have q := qon hm hp ht
  have q2 : 0 ≤ Int.tdiv (a * b) c ∧ Int.tdiv (a * b) c ≤ 100000000000000000 := by
    have := qp0 (x := a * b) (y := c) (B := 100000000000000000) (by omega) (by omega) (by omega)
    rw [Int.tdiv_eq_ediv_of_nonneg q.1] at *
    exact ⟨Int.ediv_nonneg q.1 (by omega), this.2⟩
  simp (disch := omega) only [qax, nth0, nth1, nth2, nth3, bit, qd5, qd6, qeh, qem, qen, qeo, qep, qeq, qer, qes, qd7, qd8, qd9, qea, qeb, qec, qed, qee, qef, qeg, qei, qej, qek, qel, qp7, qp6, qp8, qmi, qm3, qm4, qiw, qa3, qph, nI, qe1, qez, Bool.not_true, Bool.not_false, Bool.and_true, Bool.true_and, Bool.and_false, Bool.false_and, Bool.or_true, Bool.true_or, Bool.or_false, Bool.false_or, beq_self_eq_true, dTT, dFF, dT, dF, bigI, big0, qmh, qqv, qqw, List.length_set, List.length_replicate, Int.toNat_natCast, qd3, qd4, imax, imin, qc0, hm, hp, ht]
theorem qcg (k : Nat) (hk : 2000000 ≤ k) (a : Int) (b : Int) (c : Int) (d : Int) : go (k + 3) spec_LeafOut [(.int .i64 (a)), (.int .i64 (b)), (.int .i64 (c)), (.int .i64 (d))] = some [.int .i64 (loA a b c d), .int .i64 (loB a b c d)] := by
  rw [qgq]
  unfold loA loB loOk
  cases hm : inR b 1 10000000
  · simp (disch := omega) only [qax, nth0, nth1, nth2, nth3, bit, qd5, qd6, qeh, qem, qen, qeo, qep, qeq, qer, qes, qd7, qd8, qd9, qea, qeb, qec, qed, qee, qef, qeg, qei, qej, qek, qel, qp7, qp6, qp8, qmi, qm3, qm4, qiw, qa3, qph, nI, qe1, qez, Bool.not_true, Bool.not_false, Bool.and_true, Bool.true_and, Bool.and_false, Bool.false_and, Bool.or_true, Bool.true_or, Bool.or_false, Bool.false_or, beq_self_eq_true, dTT, dFF, dT, dF, bigI, big0, qmh, qqv, qqw, List.length_set, List.length_replicate, Int.toNat_natCast, qd3, qd4, imax, imin, qc0, hm]
  have hm' := qiu.1 hm
  cases ht : inR a 0 (1000 * b)
  · simp (disch := omega) only [qax, nth0, nth1, nth2, nth3, bit, qd5, qd6, qeh, qem, qen, qeo, qep, qeq, qer, qes, qd7, qd8, qd9, qea, qeb, qec, qed, qee, qef, qeg, qei, qej, qek, qel, qp7, qp6, qp8, qmi, qm3, qm4, qiw, qa3, qph, nI, qe1, qez, Bool.not_true, Bool.not_false, Bool.and_true, Bool.true_and, Bool.and_false, Bool.false_and, Bool.or_true, Bool.true_or, Bool.or_false, Bool.false_or, beq_self_eq_true, dTT, dFF, dT, dF, bigI, big0, qmh, qqv, qqw, List.length_set, List.length_replicate, Int.toNat_natCast, qd3, qd4, imax, imin, qc0, hm, ht]
  cases hr : inR c 0 b
  · simp (disch := omega) only [qax, nth0, nth1, nth2, nth3, bit, qd5, qd6, qeh, qem, qen, qeo, qep, qeq, qer, qes, qd7, qd8, qd9, qea, qeb, qec, qed, qee, qef, qeg, qei, qej, qek, qel, qp7, qp6, qp8, qmi, qm3, qm4, qiw, qa3, qph, nI, qe1, qez, Bool.not_true, Bool.not_false, Bool.and_true, Bool.true_and, Bool.and_false, Bool.false_and, Bool.or_true, Bool.true_or, Bool.or_false, Bool.false_or, beq_self_eq_true, dTT, dFF, dT, dF, bigI, big0, qmh, qqv, qqw, List.length_set, List.length_replicate, Int.toNat_natCast, qd3, qd4, imax, imin, qc0, hm, ht, hr]
  have hr' := qiu.1 hr
  cases hl : inR d 0 (b - c)
  · simp (disch := omega) only [qax, nth0, nth1, nth2, nth3, bit, qd5, qd6, qeh, qem, qen, qeo, qep, qeq, qer, qes, qd7, qd8, qd9, qea, qeb, qec, qed, qee, qef, qeg, qei, qej, qek, qel, qp7, qp6, qp8, qmi, qm3, qm4, qiw, qa3, qph, nI, qe1, qez, Bool.not_true, Bool.not_false, Bool.and_true, Bool.true_and, Bool.and_false, Bool.false_and, Bool.or_true, Bool.true_or, Bool.or_false, Bool.false_or, beq_self_eq_true, dTT, dFF, dT, dF, bigI, big0, qmh, qqv, qqw, List.length_set, List.length_replicate, Int.toNat_natCast, qd3, qd4, imax, imin, qc0, hm, ht, hr, hl]
  have hl' := qiu.1 hl
  have s1 := qol a c b; have s2 := qol a (c + d) b
  simp (disch := omega) only [qax, nth0, nth1, nth2, nth3, bit, qd5, qd6, qeh, qem, qen, qeo, qep, qeq, qer, qes, qd7, qd8, qd9, qea, qeb, qec, qed, qee, qef, qeg, qei, qej, qek, qel, qp7, qp6, qp8, qmi, qm3, qm4, qiw, qa3, qph, nI, qe1, qez, Bool.not_true, Bool.not_false, Bool.and_true, Bool.true_and, Bool.and_false, Bool.false_and, Bool.or_true, Bool.true_or, Bool.or_false, Bool.false_or, beq_self_eq_true, dTT, dFF, dT, dF, bigI, big0, qmh, qqv, qqw, List.length_set, List.length_replicate, Int.toNat_natCast, qd3, qd4, imax, imin, qc0, hm, ht, hr, hl, qcl]
theorem qb4 (k : Nat) (hk : 2000000 ≤ k) (a b : Int) (hb : 0 < b) (ha : -1000000000000 ≤ a) (ha' : a ≤ 1000000000000) : go (k + 1) spec_DivTrunc [.int .i64 a, .int .i64 b] = some [.int .i64 (Int.tdiv a b)] := by
  rw [qgg]
  have := qp0 hb ha ha'
  simp (disch := omega) only [qax, nth0, nth1, nth2, nth3, bit, qd5, qd6, qeh, qem, qen, qeo, qep, qeq, qer, qes, qd7, qd8, qd9, qea, qeb, qec, qed, qee, qef, qeg, qei, qej, qek, qel, qp7, qp6, qp8, qmi, qm3, qm4, qiw, qa3, qph, nI, qe1, qez, Bool.not_true, Bool.not_false, Bool.and_true, Bool.true_and, Bool.and_false, Bool.false_and, Bool.or_true, Bool.true_or, Bool.or_false, Bool.false_or, beq_self_eq_true, dTT, dFF, dT, dF, bigI, big0, qmh, qqv, qqw, List.length_set, List.length_replicate, Int.toNat_natCast, qd3, qd4, imax, imin]
theorem qdk (k : Nat) (hk : 2000000 ≤ k) (a : Int) (b : Int) (c : Int) (d : Int) (e : Int) (f : Int) (ha : 0 ≤ a ∧ a ≤ 161000000) (hb : 0 ≤ b ∧ b ≤ 161000000) (hc : 0 ≤ c ∧ c ≤ 10000000) (hd : 0 ≤ d ∧ d ≤ 10000000) (he : inR e 0 4 = true) (hf : inR f 0 4 = true) : go (k + 3) spec_l09Pair [(.int .i64 (a)), (.int .i64 (b)), (.int .i64 (c)), (.int .i64 (d)), (.int .i64 (e)), (.int .i64 (f))] = some [.int .i64 (qms a b c d e f)] := by
  rw [qhr]
  have w1 := qqo he; have w2 := qqo hf; have w3 := qqp (max f e)
  have p := qmd (x := a - b) (w := qqn (max f e)) (A := 161000000) (by omega) (by omega) w3.1 w3.2
  have t := qp0 (x := (a - b) * qqn (max f e)) (y := 32 * (qqn e + qqn f)) (B := 2576000000) (by omega) (by omega) (by omega)
  have t1 : Int.tdiv c 4 = c / 4 := Int.tdiv_eq_ediv_of_nonneg (by omega)
  have t2 : Int.tdiv d 4 = d / 4 := Int.tdiv_eq_ediv_of_nonneg (by omega)
  simp (disch := omega) only [qax, nth0, nth1, nth2, nth3, bit, qd5, qd6, qeh, qem, qen, qeo, qep, qeq, qer, qes, qd7, qd8, qd9, qea, qeb, qec, qed, qee, qef, qeg, qei, qej, qek, qel, qp7, qp6, qp8, qmi, qm3, qm4, qiw, qa3, qph, nI, qe1, qez, Bool.not_true, Bool.not_false, Bool.and_true, Bool.true_and, Bool.and_false, Bool.false_and, Bool.or_true, Bool.true_or, Bool.or_false, Bool.false_or, beq_self_eq_true, dTT, dFF, dT, dF, bigI, big0, qmh, qqv, qqw, List.length_set, List.length_replicate, Int.toNat_natCast, qd3, qd4, imax, imin, qcq, qb4, t1, t2]
  rfl
theorem qdi (k : Nat) (hk : 2000000 ≤ k) (r : Int) (z1 z2 z3 z4 : Bool) (l : List Cell) (m t b : List Int) (F : StF r l m t b) (i : Nat) (hi : i + 1 < l.length) :
    go (k + 4) spec_l09Flux [.agg [.int .i64 r, .arr false z1 (.r3 l), .arr false z2 (.ints .i64 m), .arr false z3 (.ints .i64 t), .arr false z4 (.ints .i64 b)], .int .i64 (i : Int)] = some [.int .i64 (fl l m b i)] := by
  rw [qhp]
  have hl := F.len; have hm := F.ml
  have h1 := F.at i; have h2 := F.at (i + 1); have s1 := qpo F i; have s2 := qpo F (i + 1)
  have v1 := F.lev i; have v2 := F.lev (i + 1)
  have e1 := qdl (k + 3 - 1) (by omega) r z1 z2 z3 z4 l m t b F i (by omega)
  have e2 := qdl (k + 3 - 1) (by omega) r z1 z2 z3 z4 l m t b F (i + 1) hi
  rw [show k + 3 - 1 + 1 = k + 3 by omega] at e1 e2
  have e3 := qdk (k + 3 - 3) (by omega) (surf l m b i) (surf l m b (i + 1)) (m.getD i 0) (m.getD (i + 1) 0) (l.getD i zz3).2.1 (l.getD (i + 1) zz3).2.1 s1 s2 ⟨h1.1, h1.2.1⟩ ⟨h2.1, h2.2.1⟩ v1 v2
  rw [show k + 3 - 3 + 3 = k + 3 by omega] at e3
  simp (disch := omega) only [qax, nth0, nth1, nth2, nth3, bit, qd5, qd6, qeh, qem, qen, qeo, qep, qeq, qer, qes, qd7, qd8, qd9, qea, qeb, qec, qed, qee, qef, qeg, qei, qej, qek, qel, qp7, qp6, qp8, qmi, qm3, qm4, qiw, qa3, qph, nI, qe1, qez, Bool.not_true, Bool.not_false, Bool.and_true, Bool.true_and, Bool.and_false, Bool.false_and, Bool.or_true, Bool.true_or, Bool.or_false, Bool.false_or, beq_self_eq_true, dTT, dFF, dT, dF, bigI, big0, qmh, qqv, qqw, List.length_set, List.length_replicate, Int.toNat_natCast, qd3, qd4, imax, imin, e1, e2, e3]
  rfl
def Fk (tk : Int) (l : List Cell) (m b : List Int) (k j : Nat) : Int := if j < k then ff tk l m b j else 0
def Mk (tk : Int) (l : List Cell) (m b : List Int) (k j : Nat) : Int := m.getD j 0 - (if j < k then ff tk l m b j else 0) + (if 1 ≤ j ∧ j ≤ k then ff tk l m b (j - 1) else 0)
theorem qld (k : Nat) (hk : 2000000 ≤ k) (fu : List (Nat × Nat)) (r tk : Int) (z1 z2 z3 z4 y1 y2 y3 y4 x1 x2 x3 x4 : Bool) (c1 : List Cell) (c2 c3 c4 : List Int) (c0 : Int) (l : List Cell) (m t b tr bd : List Int) (ld : List Cell) (r' : Int) (F : StF r l m t b) : ∀ (n i : Nat), i < l.length → l.length - i < n →
    lp (k + 4) spec_l11Step [] fu 4 (n) (qn8 tk (i : Int) z1 l z2 m z3 t z4 b r y1 c1 y2 c2 y3 c3 y4 c4 c0 x1 ld x2 (tab l.length (Mk tk l m b i)) x3 tr x4 bd r' false (tab l.length (Fk tk l m b i))) = lp (k + 4) spec_l11Step [] fu 11 (k + 4) (qn7 0 z1 l z2 m z3 t z4 b r y1 c1 y2 c2 y3 c3 y4 c4 c0 x1 ld x2 (tab l.length (stM tk l m b)) x3 tr x4 bd r' false (tab l.length (ff tk l m b)))
  | 0, i, hi, hn => by omega
  | n + 1, i, hi, hn => by
    have hl := F.len; have hm := F.ml
    rw [qj1]
    by_cases h : i + 1 < l.length
    · have IH := qld k hk fu r tk z1 z2 z3 z4 y1 y2 y3 y4 x1 x2 x3 x4 c1 c2 c3 c4 c0 l m t b tr bd ld r' F n (i + 1) h (by omega)
      have b0 := qig F i; have b1 := qif F tk (i - 1); have a0 := F.at i; have a1 := F.at (i + 1); have a2 := F.at (i - 1)
      have eF := qdi (k + 4 - 4) (by omega) r z1 z2 z3 z4 l m t b F i h
      rw [show k + 4 - 4 + 4 = k + 4 by omega] at eF
      cases ha : qix tk (qid l i)
      · have hz : ff tk l m b i = 0 := by unfold ff qah; rw [ha]; simp
        simp (disch := omega) only [qax, nth0, nth1, nth2, nth3, bit, qd5, qd6, qeh, qem, qen, qeo, qep, qeq, qer, qes, qd7, qd8, qd9, qea, qeb, qec, qed, qee, qef, qeg, qei, qej, qek, qel, qp7, qp6, qp8, qmi, qm3, qm4, qiw, qa3, qph, nI, qe1, qez, Bool.not_true, Bool.not_false, Bool.and_true, Bool.true_and, Bool.and_false, Bool.false_and, Bool.or_true, Bool.true_or, Bool.or_false, Bool.false_or, beq_self_eq_true, dTT, dFF, dT, dF, bigI, big0, qmh, qqv, qqw, List.length_set, List.length_replicate, Int.toNat_natCast, qd3, qd4, imax, imin, qc7, qcb, ha]
        rw [← IH]
        have q1 : tab l.length (Mk tk l m b i) = tab l.length (Mk tk l m b (i + 1)) := qpp fun j hj => by
          unfold Mk
          by_cases g1 : j = i
          · subst g1
            by_cases g2 : 1 ≤ j
            · simp (disch := omega) only [itT, itF, if_pos, if_neg, hz]
            · simp (disch := omega) only [itT, itF, if_pos, if_neg, hz]
          · by_cases g2 : j = i + 1
            · subst g2; simp (disch := omega) only [itT, itF, if_pos, if_neg, Nat.add_sub_cancel, hz]
            · have e1 : (j < i) = (j < i + 1) := by rw [eq_iff_iff]; omega
              have e2 : (1 ≤ j ∧ j ≤ i) = (1 ≤ j ∧ j ≤ i + 1) := by rw [eq_iff_iff]; omega
              simp only [e1, e2]
        have q2 : tab l.length (Fk tk l m b i) = tab l.length (Fk tk l m b (i + 1)) := qpp fun j hj => by
          unfold Fk
          by_cases g1 : j = i
          · subst g1; rw [if_neg (by omega), if_pos (by omega), hz]
          · have e1 : (j < i) = (j < i + 1) := by rw [eq_iff_iff]; omega
            simp only [e1]
        rw [q1, q2]
      · have hz : ff tk l m b i = fl l m b i := by unfold ff qah; rw [ha, dT h]; rfl
        have v1 : Mk tk l m b i i = m.getD i 0 + (if 1 ≤ i then ff tk l m b (i - 1) else 0) := by
          unfold Mk; rw [if_neg (by omega)]
          by_cases g2 : 1 ≤ i
          · rw [if_pos (by omega), if_pos g2]; omega
          · rw [if_neg (by omega), if_neg g2]; omega
        have v2 : Mk tk l m b i (i + 1) = m.getD (i + 1) 0 := by
          unfold Mk; rw [if_neg (by omega), if_neg (by omega)]; omega
        have bb : -5000000 ≤ (if 1 ≤ i then ff tk l m b (i - 1) else 0) ∧ (if 1 ≤ i then ff tk l m b (i - 1) else 0) ≤ 5000000 := by
          by_cases g2 : 1 ≤ i
          · rw [if_pos g2]; rw [show i - 1 + 1 = i by omega] at b1; omega
          · rw [if_neg g2]; omega
        have w1 : -20000000 ≤ Mk tk l m b i i ∧ Mk tk l m b i i ≤ 20000000 := by rw [v1]; omega
        have w2 : -20000000 ≤ Mk tk l m b i (i + 1) ∧ Mk tk l m b i (i + 1) ≤ 20000000 := by rw [v2]; omega
        simp (disch := omega) only [qax, nth0, nth1, nth2, nth3, bit, qd5, qd6, qeh, qem, qen, qeo, qep, qeq, qer, qes, qd7, qd8, qd9, qea, qeb, qec, qed, qee, qef, qeg, qei, qej, qek, qel, qp7, qp6, qp8, qmi, qm3, qm4, qiw, qa3, qph, nI, qe1, qez, Bool.not_true, Bool.not_false, Bool.and_true, Bool.true_and, Bool.and_false, Bool.false_and, Bool.or_true, Bool.true_or, Bool.or_false, Bool.false_or, beq_self_eq_true, dTT, dFF, dT, dF, bigI, big0, qmh, qqv, qqw, List.length_set, List.length_replicate, Int.toNat_natCast, qd3, qd4, imax, imin, qc7, qcb, ha, eF, qpr, qpt, qpq, itT, itF, if_pos, if_neg]
        rw [v1, v2]
        rw [← IH]
        have q1 : tab l.length (fun j => if j = i + 1 then m.getD (i + 1) 0 + fl l m b i else if j = i then m.getD i 0 + (if 1 ≤ i then ff tk l m b (i - 1) else 0) - fl l m b i else Mk tk l m b i j) = tab l.length (Mk tk l m b (i + 1)) := qpp fun j hj => by
          by_cases g2 : j = i + 1
          · subst g2; unfold Mk; simp (disch := omega) only [itT, itF, if_pos, if_neg, Nat.add_sub_cancel, hz]; omega
          · by_cases g1 : j = i
            · subst g1; unfold Mk
              by_cases g3 : 1 ≤ j
              · simp (disch := omega) only [itT, itF, if_pos, if_neg, hz]; omega
              · simp (disch := omega) only [itT, itF, if_pos, if_neg, hz]; omega
            · rw [if_neg g2, if_neg g1]
              have e1 : (j < i) = (j < i + 1) := by rw [eq_iff_iff]; omega
              have e2 : (1 ≤ j ∧ j ≤ i) = (1 ≤ j ∧ j ≤ i + 1) := by rw [eq_iff_iff]; omega
              unfold Mk
              simp only [e1, e2]
        have q2 : tab l.length (fun j => if j = i then fl l m b i else Fk tk l m b i j) = tab l.length (Fk tk l m b (i + 1)) := qpp fun j hj => by
          by_cases g1 : j = i
          · subst g1; unfold Fk; rw [if_pos rfl, if_pos (by omega), hz]
          · rw [if_neg g1]
            have e1 : (j < i) = (j < i + 1) := by rw [eq_iff_iff]; omega
            unfold Fk
            simp only [e1]
        rw [q1, q2]
    · simp (disch := omega) only [qax, nth0, nth1, nth2, nth3, bit, qd5, qd6, qeh, qem, qen, qeo, qep, qeq, qer, qes, qd7, qd8, qd9, qea, qeb, qec, qed, qee, qef, qeg, qei, qej, qek, qel, qp7, qp6, qp8, qmi, qm3, qm4, qiw, qa3, qph, nI, qe1, qez, Bool.not_true, Bool.not_false, Bool.and_true, Bool.true_and, Bool.and_false, Bool.false_and, Bool.or_true, Bool.true_or, Bool.or_false, Bool.false_or, beq_self_eq_true, dTT, dFF, dT, dF, bigI, big0, qmh, qqv, qqw, List.length_set, List.length_replicate, Int.toNat_natCast, qd3, qd4, imax, imin]
      have q1 : tab l.length (Mk tk l m b i) = tab l.length (stM tk l m b) := qpp fun j hj => by
        unfold Mk stM
        by_cases g1 : j = i
        · subst g1; rw [if_neg (by omega), qie (i := j) (show l.length ≤ j + 1 by omega)]
          by_cases g3 : 1 ≤ j
          · rw [if_pos g3, if_pos (by omega)]
          · rw [if_neg g3, if_neg (by omega)]
        · rw [if_pos (by omega)]
          by_cases g3 : 1 ≤ j
          · rw [if_pos g3, if_pos (by omega)]
          · rw [if_neg g3, if_neg (by omega)]
      have q2 : tab l.length (Fk tk l m b i) = tab l.length (ff tk l m b) := qpp fun j hj => by
        unfold Fk
        by_cases g1 : j = i
        · subst g1; rw [if_neg (by omega), qie (i := j) (show l.length ≤ j + 1 by omega)]
        · rw [if_pos (by omega)]
      rw [q1, q2]
set_option maxHeartbeats 2000000 in
theorem qlc (k : Nat) (hk : 2000000 ≤ k) (fu : List (Nat × Nat)) (r tk : Int) (z1 z2 z3 z4 y1 y2 y3 y4 : Bool) (c1 : List Cell) (c2 c3 c4 : List Int) (c0 : Int) (l : List Cell) (m t b mm bd : List Int) (ld : List Cell) (r' : Int) (F : StF r l m t b) : ∀ (n i : Nat), i ≤ l.length → l.length - i < n →
    lp (k + 4) spec_l11Step [] fu 11 (n) (qn7 (i : Int) z1 l z2 m z3 t z4 b r y1 c1 y2 c2 y3 c3 y4 c4 c0 false ld false mm false (tab l.length (Tk tk l m t b i)) false bd r' false (tab l.length (ff tk l m b))) = some [.agg [.int .i64 r', .arr true false (.r3 ld), .arr true false (.ints .i64 mm), .arr true false (.ints .i64 (tab l.length (stT tk l m t b))), .arr true false (.ints .i64 bd)]]
  | 0, i, hi, hn => by omega
  | n + 1, i, hi, hn => by
    have hl := F.len; have hm := F.ml; have ht := F.tl
    rw [qj0]
    by_cases h : i < l.length
    · have IH := qlc k hk fu r tk z1 z2 z3 z4 y1 y2 y3 y4 c1 c2 c3 c4 c0 l m t b mm bd ld r' F n (i + 1) (by omega) (by omega)
      rw [← qaf tk l m t b i h] at IH
      have f1 := qif F tk i; have f2 := qif F tk (i - 1); have a0 := F.at i; have a1 := F.at (i + 1); have a2 := F.at (i - 1)
      have A := qmm tk l m t b i; have B := qmo tk l m t b i
      have A' := qmm tk l m t b (i - 1); have B' := qmo tk l m t b (i - 1); have A'' := qmm tk l m t b (i - 1 - 1)
      have v1 : Tk tk l m t b i i = t.getD i 0 + (if 1 ≤ i then outA tk l m t b (i - 1) else 0) := by
        unfold Tk; rw [if_neg (by omega), if_neg (show ¬ (i + 1 < i) by omega)]
        by_cases g2 : 1 ≤ i
        · rw [if_pos (by omega), if_pos g2]; omega
        · rw [if_neg (by omega), if_neg g2]; omega
      have w1 : 0 ≤ Tk tk l m t b i i ∧ Tk tk l m t b i i ≤ 200000000000000000 := by
        rw [v1]
        by_cases g2 : 1 ≤ i
        · rw [if_pos g2]; omega
        · rw [if_neg g2]; omega
      have w2 : 0 ≤ Tk tk l m t b i (i + 1) ∧ Tk tk l m t b i (i + 1) ≤ 200000000000000000 := by
        unfold Tk; rw [if_neg (by omega), if_neg (by omega), if_neg (by omega)]; omega
      have hA : loA (t.getD i 0) (m.getD i 0) (max 0 (ff tk l m b i)) (lft tk l m b i) = outA tk l m t b i := rfl
      have hB : loB (t.getD i 0) (m.getD i 0) (max 0 (ff tk l m b i)) (lft tk l m b i) = outB tk l m t b i := rfl
      have hi1 : 0 < ff tk l m b i → i + 1 < l.length := fun g4 => by
        rcases Nat.lt_or_ge (i + 1) l.length with q | q
        · exact q
        · rw [qie q] at g4; omega
      have zA : ¬ 0 < ff tk l m b i → outA tk l m t b i = 0 := fun g4 => qmn (by unfold rgt; omega)
      by_cases g1 : 1 ≤ i
      · have hL : max 0 (0 - ff tk l m b (i - 1)) = lft tk l m b i := by unfold lft; rw [if_pos g1]
        have hL0 : 0 ≤ lft tk l m b i := by rw [← hL]; omega
        rw [show i - 1 + 1 = i by omega] at f2
        have w3 : -300000000000000000 ≤ Tk tk l m t b i (i - 1) ∧ Tk tk l m t b i (i - 1) ≤ 300000000000000000 := by
          unfold Tk; rw [if_pos (by omega), if_neg (show ¬ (i - 1 + 1 < i) by omega)]
          by_cases g3 : 1 ≤ i - 1
          · rw [if_pos (show 1 ≤ i - 1 ∧ i - 1 ≤ i by omega)]; omega
          · rw [if_neg (show ¬ (1 ≤ i - 1 ∧ i - 1 ≤ i) by omega)]; omega
        by_cases g4 : 0 < ff tk l m b i
        · have := hi1 g4
          by_cases g5 : 0 < lft tk l m b i
          · rw [← qqg g1] at IH
            simp (disch := omega) only [qax, nth0, nth1, nth2, nth3, bit, qd5, qd6, qeh, qem, qen, qeo, qep, qeq, qer, qes, qd7, qd8, qd9, qea, qeb, qec, qed, qee, qef, qeg, qei, qej, qek, qel, qp7, qp6, qp8, qmi, qm3, qm4, qiw, qa3, qph, nI, qe1, qez, Bool.not_true, Bool.not_false, Bool.and_true, Bool.true_and, Bool.and_false, Bool.false_and, Bool.or_true, Bool.true_or, Bool.or_false, Bool.false_or, beq_self_eq_true, dTT, dFF, dT, dF, bigI, big0, qmh, qqv, qqw, List.length_set, List.length_replicate, Int.toNat_natCast, qd3, qd4, imax, imin, qd2, qpr, qpq, qpt, hL, qcg, hA, hB, itT, niF]
            exact IH
          · rw [← qqf (qmp (by omega))] at IH
            simp (disch := omega) only [qax, nth0, nth1, nth2, nth3, bit, qd5, qd6, qeh, qem, qen, qeo, qep, qeq, qer, qes, qd7, qd8, qd9, qea, qeb, qec, qed, qee, qef, qeg, qei, qej, qek, qel, qp7, qp6, qp8, qmi, qm3, qm4, qiw, qa3, qph, nI, qe1, qez, Bool.not_true, Bool.not_false, Bool.and_true, Bool.true_and, Bool.and_false, Bool.false_and, Bool.or_true, Bool.true_or, Bool.or_false, Bool.false_or, beq_self_eq_true, dTT, dFF, dT, dF, bigI, big0, qmh, qqv, qqw, List.length_set, List.length_replicate, Int.toNat_natCast, qd3, qd4, imax, imin, qd2, qpr, qpq, qpt, hL, qcg, hA, hB, itT, niF]
            exact IH
        · by_cases g5 : 0 < lft tk l m b i
          · rw [← qqe g1 (zA g4)] at IH
            simp (disch := omega) only [qax, nth0, nth1, nth2, nth3, bit, qd5, qd6, qeh, qem, qen, qeo, qep, qeq, qer, qes, qd7, qd8, qd9, qea, qeb, qec, qed, qee, qef, qeg, qei, qej, qek, qel, qp7, qp6, qp8, qmi, qm3, qm4, qiw, qa3, qph, nI, qe1, qez, Bool.not_true, Bool.not_false, Bool.and_true, Bool.true_and, Bool.and_false, Bool.false_and, Bool.or_true, Bool.true_or, Bool.or_false, Bool.false_or, beq_self_eq_true, dTT, dFF, dT, dF, bigI, big0, qmh, qqv, qqw, List.length_set, List.length_replicate, Int.toNat_natCast, qd3, qd4, imax, imin, qd2, qpr, qpq, qpt, hL, qcg, hA, hB, itT, niF]
            exact IH
          · rw [← qqd (zA g4) (qmp (by omega))] at IH
            simp (disch := omega) only [qax, nth0, nth1, nth2, nth3, bit, qd5, qd6, qeh, qem, qen, qeo, qep, qeq, qer, qes, qd7, qd8, qd9, qea, qeb, qec, qed, qee, qef, qeg, qei, qej, qek, qel, qp7, qp6, qp8, qmi, qm3, qm4, qiw, qa3, qph, nI, qe1, qez, Bool.not_true, Bool.not_false, Bool.and_true, Bool.true_and, Bool.and_false, Bool.false_and, Bool.or_true, Bool.true_or, Bool.or_false, Bool.false_or, beq_self_eq_true, dTT, dFF, dT, dF, bigI, big0, qmh, qqv, qqw, List.length_set, List.length_replicate, Int.toNat_natCast, qd3, qd4, imax, imin, qd2, qpr, qpq, qpt, hL, qcg, hA, hB, itT, niF]
            exact IH
      · have hL : (0 : Int) = lft tk l m b i := by unfold lft; rw [if_neg g1]
        have zB : outB tk l m t b i = 0 := qmp hL.symm
        have hA' : loA (t.getD i 0) (m.getD i 0) (max 0 (ff tk l m b i)) 0 = outA tk l m t b i := by unfold outA rgt; rw [← hL]
        have hB' : loB (t.getD i 0) (m.getD i 0) (max 0 (ff tk l m b i)) 0 = outB tk l m t b i := by unfold outB rgt; rw [← hL]
        by_cases g4 : 0 < ff tk l m b i
        · have := hi1 g4
          rw [← qqf zB] at IH
          simp (disch := omega) only [qax, nth0, nth1, nth2, nth3, bit, qd5, qd6, qeh, qem, qen, qeo, qep, qeq, qer, qes, qd7, qd8, qd9, qea, qeb, qec, qed, qee, qef, qeg, qei, qej, qek, qel, qp7, qp6, qp8, qmi, qm3, qm4, qiw, qa3, qph, nI, qe1, qez, Bool.not_true, Bool.not_false, Bool.and_true, Bool.true_and, Bool.and_false, Bool.false_and, Bool.or_true, Bool.true_or, Bool.or_false, Bool.false_or, beq_self_eq_true, dTT, dFF, dT, dF, bigI, big0, qmh, qqv, qqw, List.length_set, List.length_replicate, Int.toNat_natCast, qd3, qd4, imax, imin, qd2, qpr, qpq, qpt, hA', hB', qcg, hA, hB, itT, niF]
          exact IH
        · rw [← qqd (zA g4) zB] at IH
          simp (disch := omega) only [qax, nth0, nth1, nth2, nth3, bit, qd5, qd6, qeh, qem, qen, qeo, qep, qeq, qer, qes, qd7, qd8, qd9, qea, qeb, qec, qed, qee, qef, qeg, qei, qej, qek, qel, qp7, qp6, qp8, qmi, qm3, qm4, qiw, qa3, qph, nI, qe1, qez, Bool.not_true, Bool.not_false, Bool.and_true, Bool.true_and, Bool.and_false, Bool.false_and, Bool.or_true, Bool.true_or, Bool.or_false, Bool.false_or, beq_self_eq_true, dTT, dFF, dT, dF, bigI, big0, qmh, qqv, qqw, List.length_set, List.length_replicate, Int.toNat_natCast, qd3, qd4, imax, imin, qd2, qpr, qpq, qpt, hA', hB', qcg, hA, hB, itT, niF]
          exact IH
    · simp (disch := omega) only [qax, nth0, nth1, nth2, nth3, bit, qd5, qd6, qeh, qem, qen, qeo, qep, qeq, qer, qes, qd7, qd8, qd9, qea, qeb, qec, qed, qee, qef, qeg, qei, qej, qek, qel, qp7, qp6, qp8, qmi, qm3, qm4, qiw, qa3, qph, nI, qe1, qez, Bool.not_true, Bool.not_false, Bool.and_true, Bool.true_and, Bool.and_false, Bool.false_and, Bool.or_true, Bool.true_or, Bool.or_false, Bool.false_or, beq_self_eq_true, dTT, dFF, dT, dF, bigI, big0, qmh, qqv, qqw, List.length_set, List.length_replicate, Int.toNat_natCast, qd3, qd4, imax, imin]
      rw [show i = l.length by omega, qae tk l m t b hm]
theorem qac (tk : Int) (l : List Cell) (m b : List Int) (hm : m.length = l.length) : m = tab l.length (Mk tk l m b 0) := by
  have h := qps m
  rw [hm] at h
  refine h.trans (qpp fun j hj => ?_)
  unfold Mk
  rw [if_neg (by omega), if_neg (by omega)]; omega
theorem qaa (tk : Int) (l : List Cell) (m b : List Int) : List.replicate l.length (0 : Int) = tab l.length (Fk tk l m b 0) := by
  rw [qpv]
  refine qpp fun j hj => ?_
  unfold Fk
  rw [if_neg (by omega)]
theorem qdm (k : Nat) (hk : 2000000 ≤ k) (r : Int) (z1 z2 z3 z4 : Bool) (l : List Cell) (m t b : List Int) (F : StF r l m t b) (tk : Int) :
    go (k + 5) spec_l11Step [.agg [.int .i64 r, .arr false z1 (.r3 l), .arr false z2 (.ints .i64 m), .arr false z3 (.ints .i64 t), .arr false z4 (.ints .i64 b)], .int .i64 tk] = some [.agg [.int .i64 r, .arr true false (.r3 l), .arr true false (.ints .i64 (tab l.length (stM tk l m b))), .arr true false (.ints .i64 (tab l.length (stT tk l m t b))), .arr true false (.ints .i64 b)]] := by
  rw [qht]
  have hl := F.len; have hm := F.ml; have ht := F.tl; have hb := F.bl; have hr := F.rr
  simp (disch := omega) only [qax, nth0, nth1, nth2, nth3, bit, qd5, qd6, qeh, qem, qen, qeo, qep, qeq, qer, qes, qd7, qd8, qd9, qea, qeb, qec, qed, qee, qef, qeg, qei, qej, qek, qel, qp7, qp6, qp8, qmi, qm3, qm4, qiw, qa3, qph, nI, qe1, qez, Bool.not_true, Bool.not_false, Bool.and_true, Bool.true_and, Bool.and_false, Bool.false_and, Bool.or_true, Bool.true_or, Bool.or_false, Bool.false_or, beq_self_eq_true, dTT, dFF, dT, dF, bigI, big0, qmh, qqv, qqw, List.length_set, List.length_replicate, Int.toNat_natCast, qd3, qd4, imax, imin, qdd]
  rw [show List.replicate m.length (0 : Int) = tab l.length (Fk tk l m b 0) by rw [hm]; exact qaa tk l m b]
  have e1 := qld k hk [] r tk z1 z2 z3 z4 true true true true false false false false [] [] [] [] 0 l m t b t b l r F (k + 4) 0 (by omega) (by omega)
  have e2 := qlc k hk [] r tk z1 z2 z3 z4 true true true true [] [] [] [] 0 l m t b (tab l.length (stM tk l m b)) b l r F (k + 4) 0 (by omega) (by omega)
  rw [← qac tk l m b hm] at e1
  rw [← qag tk l m t b ht] at e2
  exact e1.trans e2
end Go.Proofs.YtjfjniebmdafeaaGreatDoor
end
section
namespace Go.Proofs.YtjfjniebmdafeaaGreatDoor
open Go.Ev
theorem qg4 (k : Nat) (v0 : Bool) (v1 : List Int) (v2 v3 : Int) : go (k + 1) spec_l01Byte [(.ptr true [(.arr false (v0) (.ints IntKind.u8 (v1))), (.int .i64 (v2)), (.int .i64 (v3))])] =
 cond (decide (v2 < nI (List.length v1)))
 (cond (decide ((0 : Int) ≤ v2) && decide (v2 < nI (List.length v1)))
 (some [(.int .i64 (bitN BinOp.and .i64 (IntKind.wrap .i64 (bitN BinOp.and .i64 (bitN BinOp.xor .i64 (Int.fdiv (IntKind.wrap .i64 (IntKind.wrap .i64 (v3 * (6364136223846793005 : Int)) + (1442695040888963407 : Int))) ((2 : Int) ^ shiftN .i64 (33 : Int))) (Int.fdiv (IntKind.wrap .i64 (IntKind.wrap .i64 (v3 * (6364136223846793005 : Int)) + (1442695040888963407 : Int))) ((2 : Int) ^ shiftN .i64 (45 : Int)))) (255 : Int) + IntKind.wrap .i64 (List.getD v1 (Int.toNat v2) (0 : Int)))) (255 : Int))), (.ptr true [(.arr false (v0) (.ints IntKind.u8 (v1))), (.int .i64 (IntKind.wrap .i64 (v2 + (1 : Int)))), (.int .i64 (IntKind.wrap .i64 (IntKind.wrap .i64 (v3 * (6364136223846793005 : Int)) + (1442695040888963407 : Int))))])])
 (none))
 (some [(.int .i64 (bitN BinOp.and .i64 (bitN BinOp.xor .i64 (Int.fdiv (IntKind.wrap .i64 (IntKind.wrap .i64 (v3 * (6364136223846793005 : Int)) + (1442695040888963407 : Int))) ((2 : Int) ^ shiftN .i64 (33 : Int))) (Int.fdiv (IntKind.wrap .i64 (IntKind.wrap .i64 (v3 * (6364136223846793005 : Int)) + (1442695040888963407 : Int))) ((2 : Int) ^ shiftN .i64 (45 : Int)))) (255 : Int))), (.ptr true [(.arr false (v0) (.ints IntKind.u8 (v1))), (.int .i64 (v2)), (.int .i64 (IntKind.wrap .i64 (IntKind.wrap .i64 (v3 * (6364136223846793005 : Int)) + (1442695040888963407 : Int))))])]) := by kernel_rfl
theorem qg3 (k : Nat) (v0 : Bool) (v1 : List Int) (v2 v3 v4 : Int) : go (k + 1) spec_l01Below [(.ptr true [(.arr false (v0) (.ints IntKind.u8 (v1))), (.int .i64 (v2)), (.int .i64 (v3))]), (.int .i64 (v4))] =
 cond (decide (v4 ≤ (0 : Int)))
 (some [(.int .i64 (0 : Int)), (.ptr true [(.arr false (v0) (.ints IntKind.u8 (v1))), (.int .i64 (v2)), (.int .i64 (v3))])])
 (cond (decide (v4 ≤ (256 : Int)))
 ((go k spec_l01Byte [(.ptr true [(.arr false (v0) (.ints IntKind.u8 (v1))), (.int .i64 (v2)), (.int .i64 (v3))])]).bind fun r0 =>
 cond (!decide (v4 = (0 : Int)))
 (some [(.int .i64 (Int.tmod (D.toInt (nth r0 0)) v4)), (.ptr true [(.arr false (v0) (.ints IntKind.u8 (v1))), (.int .i64 (D.toInt (D.cell 1 (nth r0 1)))), (.int .i64 (D.toInt (D.cell 2 (nth r0 1))))])])
 (none))
 ((go k spec_l01Byte [(.ptr true [(.arr false (v0) (.ints IntKind.u8 (v1))), (.int .i64 (v2)), (.int .i64 (v3))])]).bind fun r1 =>
 (go k spec_l01Byte [(.ptr true [(.arr false (v0) (.ints IntKind.u8 (v1))), (.int .i64 (D.toInt (D.cell 1 (nth r1 1)))), (.int .i64 (D.toInt (D.cell 2 (nth r1 1))))])]).bind fun r2 =>
 (go k spec_l01Byte [(.ptr true [(.arr false (v0) (.ints IntKind.u8 (v1))), (.int .i64 (D.toInt (D.cell 1 (nth r2 1)))), (.int .i64 (D.toInt (D.cell 2 (nth r2 1))))])]).bind fun r3 =>
 (go k spec_l01Byte [(.ptr true [(.arr false (v0) (.ints IntKind.u8 (v1))), (.int .i64 (D.toInt (D.cell 1 (nth r3 1)))), (.int .i64 (D.toInt (D.cell 2 (nth r3 1))))])]).bind fun r4 =>
 cond (!decide (v4 = (0 : Int)))
 (some [(.int .i64 (Int.tmod (IntKind.wrap .i64 (IntKind.wrap .i64 (IntKind.wrap .i64 (IntKind.wrap .i64 (D.toInt (nth r1 0) * (16777216 : Int)) + IntKind.wrap .i64 (D.toInt (nth r2 0) * (65536 : Int))) + IntKind.wrap .i64 (D.toInt (nth r3 0) * (256 : Int))) + D.toInt (nth r4 0))) v4)), (.ptr true [(.arr false (v0) (.ints IntKind.u8 (v1))), (.int .i64 (D.toInt (D.cell 1 (nth r4 1)))), (.int .i64 (D.toInt (D.cell 2 (nth r4 1))))])])
 (none))) := by kernel_rfl
theorem qg7 (k : Nat) (v0 : Bool) (v1 : List Int) (v2 v3 v4 : Int) : go (k + 1) spec_l01Once [(.ptr true [(.arr false (v0) (.ints IntKind.u8 (v1))), (.int .i64 (v2)), (.int .i64 (v3))]), (.int .i64 (v4))] =
 (go k spec_l01Below [(.ptr true [(.arr false (v0) (.ints IntKind.u8 (v1))), (.int .i64 (v2)), (.int .i64 (v3))]), (.int .i64 (v4))]).bind fun r0 =>
 some [(.bool (decide (D.toInt (nth r0 0) = (0 : Int)))), (.ptr true [(.arr false (v0) (.ints IntKind.u8 (v1))), (.int .i64 (D.toInt (D.cell 1 (nth r0 1)))), (.int .i64 (D.toInt (D.cell 2 (nth r0 1))))])] := by kernel_rfl
theorem qgf (k : Nat) (a0 a1 a2 b : Int) : go (k + 1) spec_ChildOf [(.agg [(.int .i64 (a0)), (.int .i64 (a1)), (.int .i64 (a2))]), (.int .i64 (b))] =
 (go k spec_IdOk [(.agg [(.int .i64 (a0)), (.int .i64 (a1)), (.int .i64 (a2))])]).bind fun r0 =>
 cond (!bit (nth r0 0))
 (some [(.agg [(.int .i64 (0 : Int)), (.int .i64 (0 : Int)), (.int .i64 (0 : Int))]), (.bool (false))])
 (cond (decide (a1 = (4 : Int)))
 (some [(.agg [(.int .i64 (0 : Int)), (.int .i64 (0 : Int)), (.int .i64 (0 : Int))]), (.bool (false))])
 ((go k spec_l01In [(.int .i64 (b)), (.int .i64 (0 : Int)), (.int .i64 ((1 : Int)))]).bind fun r1 =>
 cond (!bit (nth r1 0))
 (some [(.agg [(.int .i64 (0 : Int)), (.int .i64 (0 : Int)), (.int .i64 (0 : Int))]), (.bool (false))])
 (some [(.agg [(.int .i64 (a0)), (.int .i64 (IntKind.wrap .i64 (a1 + (1 : Int)))), (.int .i64 (IntKind.wrap .i64 (IntKind.wrap .i64 ((2 : Int) * a2) + b)))]), (.bool (true))]))) := by kernel_rfl
def qn1 (x0 x1 : Int) (z2 : Bool) (l3 : List Int) (x4 x5 : Int) (z6 : Bool) (l7 : List (Int × Int × Int)) (x8 x9 x10 : Int) : St := ⟨fill 44 [(0, (.ptr 1 (0) (0))), (2, (.int .i64 (x0))), (3, (.ptr 3 (0) (0))), (5, (.ptr 4 (0) (0))), (8, (.int .i64 (x1)))], [(.ptr 1 (0) (0)), (.ptr 3 (0) (0)), (.sl 0 none)], [(.arr false (z2) (.ints IntKind.u8 (l3))), (.box true [(.sl 0 none), (.int .i64 (x4)), (.int .i64 (x5))]), (.arr true (z6) (.r3 (l7))), (.box true [(.sl 2 none)]), (.box true [(.int .i64 (x8)), (.int .i64 (x9)), (.int .i64 (x10))])]⟩
theorem qhb (k : Nat) (v0 : Bool) (v1 : List Int) (v2 v3 v4 v5 v6 v7 : Int) (v8 : Bool) (v9 : List (Int × Int × Int)) : go (k + 1) spec_l04Root [(.ptr true [(.arr false (v0) (.ints IntKind.u8 (v1))), (.int .i64 (v2)), (.int .i64 (v3))]), (.agg [(.int .i64 (v4)), (.int .i64 (v5)), (.int .i64 (v6))]), (.int .i64 (v7)), (.ptr true [(.arr true (v8) (.r3 (v9)))])] =
 cond (decide (v5 = (4 : Int)))
 (cond (decide (List.length (v9 ++ [(v4, v5, v6)]) ≤ bigLen))
 (some [(.ptr true [(.arr false (v0) (.ints IntKind.u8 (v1))), (.int .i64 (v2)), (.int .i64 (v3))]), (.ptr true [(.arr true (v8 && decide (List.length (v9 ++ [(v4, v5, v6)]) = 0)) (.r3 (v9 ++ [(v4, v5, v6)])))])])
 (none))
 ((go k spec_l01Once [(.ptr true [(.arr false (v0) (.ints IntKind.u8 (v1))), (.int .i64 (v2)), (.int .i64 (v3))]), (.int .i64 (v7))]).bind fun r0 =>
 cond (!bit (nth r0 0))
 (cond (decide (List.length (v9 ++ [(v4, v5, v6)]) ≤ bigLen))
 (some [(.ptr true [(.arr false (v0) (.ints IntKind.u8 (v1))), (.int .i64 (D.toInt (D.cell 1 (nth r0 1)))), (.int .i64 (D.toInt (D.cell 2 (nth r0 1))))]), (.ptr true [(.arr true (v8 && decide (List.length (v9 ++ [(v4, v5, v6)]) = 0)) (.r3 (v9 ++ [(v4, v5, v6)])))])])
 (none))
 (lp k spec_l04Root [(.ptr true [(.arr false (v0) (.ints IntKind.u8 (v1))), (.int .i64 (v2)), (.int .i64 (v3))]), (.ptr true [(.arr true (v8) (.r3 (v9)))])] [] 4 k (qn1 v7 (0 : Int) v0 v1 (D.toInt (D.cell 1 (nth r0 1))) (D.toInt (D.cell 2 (nth r0 1))) v8 v9 v4 v5 v6))) := by kernel_rfl
theorem qju (k n : Nat) (fu : List (Nat × Nat)) (v0 : Bool) (v1 : List Int) (v2 v3 : Int) (v8 : Bool) (v9 : List (Int × Int × Int)) (x0 x1 : Int) (z2 : Bool) (l3 : List Int) (x4 x5 : Int) (z6 : Bool) (l7 : List (Int × Int × Int)) (x8 x9 x10 : Int) : lp k spec_l04Root [(.ptr true [(.arr false (v0) (.ints IntKind.u8 (v1))), (.int .i64 (v2)), (.int .i64 (v3))]), (.ptr true [(.arr true (v8) (.r3 (v9)))])] fu 4 (n + 1) (qn1 x0 x1 z2 l3 x4 x5 z6 l7 x8 x9 x10) =
 cond (decide (x1 < (2 : Int)))
 ((go k spec_ChildOf [(.agg [(.int .i64 (x8)), (.int .i64 (x9)), (.int .i64 (x10))]), (.int .i64 (x1))]).bind fun r0 =>
 (go k spec_l04Root [(.ptr true [(.arr false (z2) (.ints IntKind.u8 (l3))), (.int .i64 (x4)), (.int .i64 (x5))]), (.agg [(.int .i64 (D.toInt (D.cell 0 (nth r0 0)))), (.int .i64 (D.toInt (D.cell 1 (nth r0 0)))), (.int .i64 (D.toInt (D.cell 2 (nth r0 0))))]), (.int .i64 (IntKind.wrap .i64 (x0 + (1 : Int)))), (.ptr true [(.arr true (z6) (.r3 (l7)))])]).bind fun r1 =>
 lp k spec_l04Root [(.ptr true [(.arr false (v0) (.ints IntKind.u8 (v1))), (.int .i64 (v2)), (.int .i64 (v3))]), (.ptr true [(.arr true (v8) (.r3 (v9)))])] fu 4 n (qn1 x0 (IntKind.wrap .i64 (x1 + (1 : Int))) z2 l3 (D.toInt (D.cell 1 (nth r1 0))) (D.toInt (D.cell 2 (nth r1 0))) (D.nil (D.cell 0 (nth r1 1))) (D.r3 (D.cell 0 (nth r1 1))) x8 x9 x10))
 (some [(.ptr true [(.arr false (z2) (.ints IntKind.u8 (l3))), (.int .i64 (x4)), (.int .i64 (x5))]), (.ptr true [(.arr true (z6) (.r3 (l7)))])]) := by kernel_rfl
def qn0 (x0 : Int) (z1 : Bool) (l2 : List Int) (x3 x4 : Int) (z5 : Bool) (l6 : List (Int × Int × Int)) (x7 : Int) (z8 : Bool) (l9 : List (Int × Int × Int)) (x10 : Int) : St := ⟨fill 24 [(0, (.ptr 1 (0) (0))), (2, (.ptr 3 (0) (0))), (3, (.ptr 5 (0) (0))), (4, (.int .i64 (x0)))], [(.ptr 1 (0) (0)), (.sl 0 none)], [(.arr false (z1) (.ints IntKind.u8 (l2))), (.box true [(.sl 0 none), (.int .i64 (x3)), (.int .i64 (x4))]), (.arr true (z5) (.r3 (l6))), (.box true [(.int .i64 (x7)), (.sl 2 none)]), (.arr true (z8) (.r3 (l9))), (.box true [(.int .i64 (x10)), (.sl 4 none)])]⟩
theorem qha (k : Nat) (v0 : Bool) (v1 : List Int) (v2 v3 : Int) : go (k + 1) spec_l04Mesh [(.ptr true [(.arr false (v0) (.ints IntKind.u8 (v1))), (.int .i64 (v2)), (.int .i64 (v3))])] =
 (go k spec_l01Below [(.ptr true [(.arr false (v0) (.ints IntKind.u8 (v1))), (.int .i64 (v2)), (.int .i64 (v3))]), (.int .i64 ((3 : Int)))]).bind fun r0 =>
 lp k spec_l04Mesh [(.ptr true [(.arr false (v0) (.ints IntKind.u8 (v1))), (.int .i64 (v2)), (.int .i64 (v3))])] [] 3 k (qn0 (0 : Int) v0 v1 (D.toInt (D.cell 1 (nth r0 1))) (D.toInt (D.cell 2 (nth r0 1))) true ([]) (0 : Int) true ([]) (IntKind.wrap .i64 ((1 : Int) + D.toInt (nth r0 0)))) := by kernel_rfl
theorem qjt (k n : Nat) (fu : List (Nat × Nat)) (v0 : Bool) (v1 : List Int) (v2 v3 x0 : Int) (z1 : Bool) (l2 : List Int) (x3 x4 : Int) (z5 : Bool) (l6 : List (Int × Int × Int)) (x7 : Int) (z8 : Bool) (l9 : List (Int × Int × Int)) (x10 : Int) : lp k spec_l04Mesh [(.ptr true [(.arr false (v0) (.ints IntKind.u8 (v1))), (.int .i64 (v2)), (.int .i64 (v3))])] fu 3 (n + 1) (qn0 x0 z1 l2 x3 x4 z5 l6 x7 z8 l9 x10) =
 cond (decide (x0 < x10))
 ((go k spec_l01Below [(.ptr true [(.arr false (z1) (.ints IntKind.u8 (l2))), (.int .i64 (x3)), (.int .i64 (x4))]), (.int .i64 ((2 : Int)))]).bind fun r0 =>
 (go k spec_l04Root [(.ptr true [(.arr false (z1) (.ints IntKind.u8 (l2))), (.int .i64 (D.toInt (D.cell 1 (nth r0 1)))), (.int .i64 (D.toInt (D.cell 2 (nth r0 1))))]), (.agg [(.int .i64 (x0)), (.int .i64 (0 : Int)), (.int .i64 (0 : Int))]), (.int .i64 (IntKind.wrap .i64 ((1 : Int) + D.toInt (nth r0 0)))), (.ptr true [(.arr true (z8) (.r3 (l9)))])]).bind fun r1 =>
 lp k spec_l04Mesh [(.ptr true [(.arr false (v0) (.ints IntKind.u8 (v1))), (.int .i64 (v2)), (.int .i64 (v3))])] fu 3 n (qn0 (IntKind.wrap .i64 (x0 + (1 : Int))) z1 l2 (D.toInt (D.cell 1 (nth r1 0))) (D.toInt (D.cell 2 (nth r1 0))) z5 l6 x7 (D.nil (D.cell 0 (nth r1 1))) (D.r3 (D.cell 0 (nth r1 1))) x10))
 (some [(.agg [(.int .i64 (x10)), (.arr true (z8) (.r3 (l9)))]), (.ptr true [(.arr false (z1) (.ints IntKind.u8 (l2))), (.int .i64 (x3)), (.int .i64 (x4))])]) := by kernel_rfl
def qns (x0 : Int) (z1 : Bool) (l2 : List (Int × Int × Int)) (x3 : Int) (z4 : Bool) (l5 : List (Int × Int × Int)) (x6 : Int) : St := ⟨fill 23 [(2, (.ptr 1 (0) (0))), (3, (.ptr 3 (0) (0))), (4, (.int .i64 (x0)))], [], [(.arr true (z1) (.r3 (l2))), (.box true [(.int .i64 (x3)), (.sl 0 none)]), (.arr true (z4) (.r3 (l5))), (.box true [(.int .i64 (x6)), (.sl 2 none)])]⟩
theorem qgd (k : Nat) (a0 : Int) (a1z : Bool) (a1 : List (Int × Int × Int)) : go (k + 1) spec_Balance [(.agg [(.int .i64 (a0)), (.arr false (a1z) (.r3 (a1)))])] =
 (go k spec_l04Copy [(.agg [(.int .i64 (a0)), (.arr false (a1z) (.r3 (a1)))])]).bind fun r0 =>
 (go k spec_MeshOk [(.agg [(.int .i64 (a0)), (.arr false (a1z) (.r3 (a1)))])]).bind fun r1 =>
 cond (!bit (nth r1 0))
 (some [(.agg [(.int .i64 (D.toInt (D.cell 0 (nth r0 0)))), (.arr true (D.nil (D.cell 1 (nth r0 0))) (.r3 (D.r3 (D.cell 1 (nth r0 0)))))])])
 ((go k spec_l05First [(.agg [(.int .i64 (D.toInt (D.cell 0 (nth r0 0)))), (.arr false (D.nil (D.cell 1 (nth r0 0))) (.r3 (D.r3 (D.cell 1 (nth r0 0)))))])]).bind fun r2 =>
 lp k spec_Balance [] [] 5 k (qns (D.toInt (nth r2 0)) true ([]) (0 : Int) (D.nil (D.cell 1 (nth r0 0))) (D.r3 (D.cell 1 (nth r0 0))) (D.toInt (D.cell 0 (nth r0 0))))) := by kernel_rfl
theorem qjl (k n : Nat) (fu : List (Nat × Nat)) (x0 : Int) (z1 : Bool) (l2 : List (Int × Int × Int)) (x3 : Int) (z4 : Bool) (l5 : List (Int × Int × Int)) (x6 : Int) : lp k spec_Balance [] fu 5 (n + 1) (qns x0 z1 l2 x3 z4 l5 x6) =
 cond (decide ((0 : Int) ≤ x0))
 ((go k spec_l05Coarser [(.agg [(.int .i64 (x6)), (.arr false (z4) (.r3 (l5)))]), (.int .i64 (x0))]).bind fun r0 =>
 (go k spec_l05Split [(.agg [(.int .i64 (x6)), (.arr false (z4) (.r3 (l5)))]), (.int .i64 (D.toInt (nth r0 0)))]).bind fun r1 =>
 (go k spec_l05First [(.agg [(.int .i64 (D.toInt (D.cell 0 (nth r1 0)))), (.arr false (D.nil (D.cell 1 (nth r1 0))) (.r3 (D.r3 (D.cell 1 (nth r1 0)))))])]).bind fun r2 =>
 lp k spec_Balance [] fu 5 n (qns (D.toInt (nth r2 0)) z1 l2 x3 (D.nil (D.cell 1 (nth r1 0))) (D.r3 (D.cell 1 (nth r1 0))) (D.toInt (D.cell 0 (nth r1 0)))))
 (some [(.agg [(.int .i64 (x6)), (.arr true (z4) (.r3 (l5)))])]) := by kernel_rfl
theorem qhc (k : Nat) (a0 : Int) (a1z : Bool) (a1 : List (Int × Int × Int)) (b : Int) : go (k + 1) spec_l05Coarser [(.agg [(.int .i64 (a0)), (.arr false (a1z) (.r3 (a1)))]), (.int .i64 (b))] =
 cond (decide ((0 : Int) ≤ b) && decide (b < nI (List.length a1)))
 (cond (decide ((0 : Int) ≤ IntKind.wrap .i64 (b + (1 : Int))) && decide (IntKind.wrap .i64 (b + (1 : Int)) < nI (List.length a1)))
 (cond (decide (Prod.fst (Prod.snd (List.getD a1 (Int.toNat (IntKind.wrap .i64 (b + (1 : Int)))) zz3)) < Prod.fst (Prod.snd (List.getD a1 (Int.toNat b) zz3))))
 (some [(.int .i64 (IntKind.wrap .i64 (b + (1 : Int))))])
 (some [(.int .i64 (b))]))
 (none))
 (none) := by kernel_rfl
theorem qhg (k : Nat) (a0 : Int) (a1z : Bool) (a1 : List (Int × Int × Int)) (b : Int) : go (k + 1) spec_l05Split [(.agg [(.int .i64 (a0)), (.arr false (a1z) (.r3 (a1)))]), (.int .i64 (b))] =
 cond (decide ((0 : Int) ≤ b) && decide (b < nI (List.length a1)))
 ((go k spec_ChildOf [(.agg [(.int .i64 (Prod.fst (List.getD a1 (Int.toNat b) zz3))), (.int .i64 (Prod.fst (Prod.snd (List.getD a1 (Int.toNat b) zz3)))), (.int .i64 (Prod.snd (Prod.snd (List.getD a1 (Int.toNat b) zz3))))]), (.int .i64 (0 : Int))]).bind fun r0 =>
 cond (decide ((0 : Int) ≤ b) && decide (b < nI (List.length a1)))
 ((go k spec_ChildOf [(.agg [(.int .i64 (Prod.fst (List.getD a1 (Int.toNat b) zz3))), (.int .i64 (Prod.fst (Prod.snd (List.getD a1 (Int.toNat b) zz3)))), (.int .i64 (Prod.snd (Prod.snd (List.getD a1 (Int.toNat b) zz3))))]), (.int .i64 ((1 : Int)))]).bind fun r1 =>
 cond (decide ((0 : Int) ≤ (0 : Int)) && decide ((0 : Int) ≤ b) && decide (b ≤ nI (List.length a1)))
 (cond (decide (List.length ([] ++ List.take (Int.toNat b - Int.toNat (0 : Int)) (List.drop (0 + Int.toNat (0 : Int)) a1)) ≤ bigLen))
 (cond (decide (List.length ([] ++ List.take (Int.toNat b - Int.toNat (0 : Int)) (List.drop (0 + Int.toNat (0 : Int)) a1) ++ [(D.toInt (D.cell 0 (nth r0 0)), D.toInt (D.cell 1 (nth r0 0)), D.toInt (D.cell 2 (nth r0 0))), (D.toInt (D.cell 0 (nth r1 0)), D.toInt (D.cell 1 (nth r1 0)), D.toInt (D.cell 2 (nth r1 0)))]) ≤ bigLen))
 (cond (decide ((0 : Int) ≤ IntKind.wrap .i64 (b + (1 : Int))) && decide (IntKind.wrap .i64 (b + (1 : Int)) ≤ nI (List.length a1)) && decide (nI (List.length a1) ≤ nI (List.length a1)))
 (cond (decide (List.length ([] ++ List.take (Int.toNat b - Int.toNat (0 : Int)) (List.drop (0 + Int.toNat (0 : Int)) a1) ++ [(D.toInt (D.cell 0 (nth r0 0)), D.toInt (D.cell 1 (nth r0 0)), D.toInt (D.cell 2 (nth r0 0))), (D.toInt (D.cell 0 (nth r1 0)), D.toInt (D.cell 1 (nth r1 0)), D.toInt (D.cell 2 (nth r1 0)))] ++ List.take (Int.toNat (nI (List.length a1)) - Int.toNat (IntKind.wrap .i64 (b + (1 : Int)))) (List.drop (0 + Int.toNat (IntKind.wrap .i64 (b + (1 : Int)))) a1)) ≤ bigLen))
 (some [(.agg [(.int .i64 (a0)), (.arr true (false && decide (List.length ([] ++ List.take (Int.toNat b - Int.toNat (0 : Int)) (List.drop (0 + Int.toNat (0 : Int)) a1)) = 0) && decide (List.length ([] ++ List.take (Int.toNat b - Int.toNat (0 : Int)) (List.drop (0 + Int.toNat (0 : Int)) a1) ++ [(D.toInt (D.cell 0 (nth r0 0)), D.toInt (D.cell 1 (nth r0 0)), D.toInt (D.cell 2 (nth r0 0))), (D.toInt (D.cell 0 (nth r1 0)), D.toInt (D.cell 1 (nth r1 0)), D.toInt (D.cell 2 (nth r1 0)))]) = 0) && decide (List.length ([] ++ List.take (Int.toNat b - Int.toNat (0 : Int)) (List.drop (0 + Int.toNat (0 : Int)) a1) ++ [(D.toInt (D.cell 0 (nth r0 0)), D.toInt (D.cell 1 (nth r0 0)), D.toInt (D.cell 2 (nth r0 0))), (D.toInt (D.cell 0 (nth r1 0)), D.toInt (D.cell 1 (nth r1 0)), D.toInt (D.cell 2 (nth r1 0)))] ++ List.take (Int.toNat (nI (List.length a1)) - Int.toNat (IntKind.wrap .i64 (b + (1 : Int)))) (List.drop (0 + Int.toNat (IntKind.wrap .i64 (b + (1 : Int)))) a1)) = 0)) (.r3 ([] ++ List.take (Int.toNat b - Int.toNat (0 : Int)) (List.drop (0 + Int.toNat (0 : Int)) a1) ++ [(D.toInt (D.cell 0 (nth r0 0)), D.toInt (D.cell 1 (nth r0 0)), D.toInt (D.cell 2 (nth r0 0))), (D.toInt (D.cell 0 (nth r1 0)), D.toInt (D.cell 1 (nth r1 0)), D.toInt (D.cell 2 (nth r1 0)))] ++ List.take (Int.toNat (nI (List.length a1)) - Int.toNat (IntKind.wrap .i64 (b + (1 : Int)))) (List.drop (0 + Int.toNat (IntKind.wrap .i64 (b + (1 : Int)))) a1))))])])
 (none))
 (none))
 (none))
 (none))
 (none))
 (none))
 (none) := by kernel_rfl
theorem qhf (k : Nat) (v0 : Bool) (v1 : List Int) (v2 v3 : Int) : go (k + 1) spec_l05Mesh [(.ptr true [(.arr false (v0) (.ints IntKind.u8 (v1))), (.int .i64 (v2)), (.int .i64 (v3))])] =
 (go k spec_l04Mesh [(.ptr true [(.arr false (v0) (.ints IntKind.u8 (v1))), (.int .i64 (v2)), (.int .i64 (v3))])]).bind fun r0 =>
 (go k spec_Balance [(.agg [(.int .i64 (D.toInt (D.cell 0 (nth r0 0)))), (.arr false (D.nil (D.cell 1 (nth r0 0))) (.r3 (D.r3 (D.cell 1 (nth r0 0)))))])]).bind fun r1 =>
 some [(.agg [(.int .i64 (D.toInt (D.cell 0 (nth r1 0)))), (.arr true (D.nil (D.cell 1 (nth r1 0))) (.r3 (D.r3 (D.cell 1 (nth r1 0)))))]), (.ptr true [(.arr false (v0) (.ints IntKind.u8 (v1))), (.int .i64 (D.toInt (D.cell 1 (nth r0 1)))), (.int .i64 (D.toInt (D.cell 2 (nth r0 1))))])] := by kernel_rfl
def qn3 (x0 : Int) (z1 : Bool) (l2 : List Int) (x3 x4 : Int) (z5 : Bool) (l6 : List (Int × Int × Int)) (z7 : Bool) (l8 : List Int) (z9 : Bool) (l10 : List Int) (z11 : Bool) (l12 : List Int) (x13 : Int) (z14 : Bool) (l15 : List (Int × Int × Int)) (x16 : Int) (z17 : Bool) (l18 : List Int) (z19 : Bool) (l20 : List Int) (z21 : Bool) (l22 : List Int) (x23 : Int) : St := ⟨fill 67 [(0, (.ptr 1 (0) (0))), (2, (.ptr 6 (0) (0))), (3, (.ptr 8 (0) (0))), (4, (.ptr 12 (0) (0))), (5, (.int .i64 (x0)))], [(.ptr 1 (0) (0)), (.sl 0 none)], [(.arr false (z1) (.ints IntKind.u8 (l2))), (.box true [(.sl 0 none), (.int .i64 (x3)), (.int .i64 (x4))]), (.arr true (z5) (.r3 (l6))), (.arr true (z7) (.ints .i64 (l8))), (.arr true (z9) (.ints .i64 (l10))), (.arr true (z11) (.ints .i64 (l12))), (.box true [(.int .i64 (x13)), (.sl 2 none), (.sl 3 none), (.sl 4 none), (.sl 5 none)]), (.arr true (z14) (.r3 (l15))), (.box true [(.int .i64 (x16)), (.sl 7 none)]), (.arr true (z17) (.ints .i64 (l18))), (.arr true (z19) (.ints .i64 (l20))), (.arr true (z21) (.ints .i64 (l22))), (.box true [(.int .i64 (x23)), (.sl 7 none), (.sl 9 none), (.sl 10 none), (.sl 11 none)])]⟩
def qn4 (x0 x1 : Int) (z2 : Bool) (l3 : List Int) (x4 x5 : Int) (z6 : Bool) (l7 : List (Int × Int × Int)) (z8 : Bool) (l9 : List Int) (z10 : Bool) (l11 : List Int) (z12 : Bool) (l13 : List Int) (x14 : Int) (z15 : Bool) (l16 : List (Int × Int × Int)) (x17 : Int) (z18 : Bool) (l19 : List Int) (z20 : Bool) (l21 : List Int) (z22 : Bool) (l23 : List Int) (x24 : Int) : St := ⟨fill 67 [(0, (.ptr 1 (0) (0))), (2, (.ptr 6 (0) (0))), (3, (.ptr 8 (0) (0))), (4, (.ptr 12 (0) (0))), (6, (.int .i64 (x0))), (7, (.int .i64 (x1)))], [(.ptr 1 (0) (0)), (.sl 0 none)], [(.arr false (z2) (.ints IntKind.u8 (l3))), (.box true [(.sl 0 none), (.int .i64 (x4)), (.int .i64 (x5))]), (.arr true (z6) (.r3 (l7))), (.arr true (z8) (.ints .i64 (l9))), (.arr true (z10) (.ints .i64 (l11))), (.arr true (z12) (.ints .i64 (l13))), (.box true [(.int .i64 (x14)), (.sl 2 none), (.sl 3 none), (.sl 4 none), (.sl 5 none)]), (.arr true (z15) (.r3 (l16))), (.box true [(.int .i64 (x17)), (.sl 7 none)]), (.arr true (z18) (.ints .i64 (l19))), (.arr true (z20) (.ints .i64 (l21))), (.arr true (z22) (.ints .i64 (l23))), (.box true [(.int .i64 (x24)), (.sl 7 none), (.sl 9 none), (.sl 10 none), (.sl 11 none)])]⟩
theorem qhk (k : Nat) (v0 : Bool) (v1 : List Int) (v2 v3 : Int) : go (k + 1) spec_l07State [(.ptr true [(.arr false (v0) (.ints IntKind.u8 (v1))), (.int .i64 (v2)), (.int .i64 (v3))])] =
 (go k spec_l05Mesh [(.ptr true [(.arr false (v0) (.ints IntKind.u8 (v1))), (.int .i64 (v2)), (.int .i64 (v3))])]).bind fun r0 =>
 lp k spec_l07State [(.ptr true [(.arr false (v0) (.ints IntKind.u8 (v1))), (.int .i64 (v2)), (.int .i64 (v3))])] [] 4 k (qn3 (0 : Int) v0 v1 (D.toInt (D.cell 1 (nth r0 1))) (D.toInt (D.cell 2 (nth r0 1))) true ([]) true ([]) true ([]) true ([]) (0 : Int) (D.nil (D.cell 1 (nth r0 0))) (D.r3 (D.cell 1 (nth r0 0))) (D.toInt (D.cell 0 (nth r0 0))) true ([]) true ([]) true ([]) (D.toInt (D.cell 0 (nth r0 0)))) := by kernel_rfl
theorem qjw (k n : Nat) (fu : List (Nat × Nat)) (v0 : Bool) (v1 : List Int) (v2 v3 x0 : Int) (z1 : Bool) (l2 : List Int) (x3 x4 : Int) (z5 : Bool) (l6 : List (Int × Int × Int)) (z7 : Bool) (l8 : List Int) (z9 : Bool) (l10 : List Int) (z11 : Bool) (l12 : List Int) (x13 : Int) (z14 : Bool) (l15 : List (Int × Int × Int)) (x16 : Int) (z17 : Bool) (l18 : List Int) (z19 : Bool) (l20 : List Int) (z21 : Bool) (l22 : List Int) (x23 : Int) : lp k spec_l07State [(.ptr true [(.arr false (v0) (.ints IntKind.u8 (v1))), (.int .i64 (v2)), (.int .i64 (v3))])] fu 4 (n + 1) (qn3 x0 z1 l2 x3 x4 z5 l6 z7 l8 z9 l10 z11 l12 x13 z14 l15 x16 z17 l18 z19 l20 z21 l22 x23) =
 cond (decide (x0 < x16))
 ((go k spec_l01Below [(.ptr true [(.arr false (z1) (.ints IntKind.u8 (l2))), (.int .i64 (x3)), (.int .i64 (x4))]), (.int .i64 ((4 : Int)))]).bind fun r0 =>
 (go k spec_l01Below [(.ptr true [(.arr false (z1) (.ints IntKind.u8 (l2))), (.int .i64 (D.toInt (D.cell 1 (nth r0 1)))), (.int .i64 (D.toInt (D.cell 2 (nth r0 1))))]), (.int .i64 ((5000 : Int)))]).bind fun r1 =>
 cond (decide (List.length (l22 ++ [IntKind.wrap .i64 (D.toInt (nth r0 0) * D.toInt (nth r1 0))]) ≤ bigLen))
 (lp k spec_l07State [(.ptr true [(.arr false (v0) (.ints IntKind.u8 (v1))), (.int .i64 (v2)), (.int .i64 (v3))])] fu 4 n (qn3 (IntKind.wrap .i64 (x0 + (1 : Int))) z1 l2 (D.toInt (D.cell 1 (nth r1 1))) (D.toInt (D.cell 2 (nth r1 1))) z5 l6 z7 l8 z9 l10 z11 l12 x13 z14 l15 x16 z17 l18 z19 l20 (z21 && decide (List.length (l22 ++ [IntKind.wrap .i64 (D.toInt (nth r0 0) * D.toInt (nth r1 0))]) = 0)) (l22 ++ [IntKind.wrap .i64 (D.toInt (nth r0 0) * D.toInt (nth r1 0))]) x23))
 (none))
 ((go k spec_l01Below [(.ptr true [(.arr false (z1) (.ints IntKind.u8 (l2))), (.int .i64 (x3)), (.int .i64 (x4))]), (.int .i64 ((20000 : Int)))]).bind fun r2 =>
 lp k spec_l07State [(.ptr true [(.arr false (v0) (.ints IntKind.u8 (v1))), (.int .i64 (v2)), (.int .i64 (v3))])] fu 9 k (qn4 (IntKind.wrap .i64 ((1 : Int) + D.toInt (nth r2 0))) (0 : Int) z1 l2 (D.toInt (D.cell 1 (nth r2 1))) (D.toInt (D.cell 2 (nth r2 1))) z5 l6 z7 l8 z9 l10 z11 l12 x13 z14 l15 x16 z17 l18 z19 l20 z21 l22 x23)) := by kernel_rfl
theorem qjx (k n : Nat) (fu : List (Nat × Nat)) (v0 : Bool) (v1 : List Int) (v2 v3 x0 x1 : Int) (z2 : Bool) (l3 : List Int) (x4 x5 : Int) (z6 : Bool) (l7 : List (Int × Int × Int)) (z8 : Bool) (l9 : List Int) (z10 : Bool) (l11 : List Int) (z12 : Bool) (l13 : List Int) (x14 : Int) (z15 : Bool) (l16 : List (Int × Int × Int)) (x17 : Int) (z18 : Bool) (l19 : List Int) (z20 : Bool) (l21 : List Int) (z22 : Bool) (l23 : List Int) (x24 : Int) : lp k spec_l07State [(.ptr true [(.arr false (v0) (.ints IntKind.u8 (v1))), (.int .i64 (v2)), (.int .i64 (v3))])] fu 9 (n + 1) (qn4 x0 x1 z2 l3 x4 x5 z6 l7 z8 l9 z10 l11 z12 l13 x14 z15 l16 x17 z18 l19 z20 l21 z22 l23 x24) =
 cond (decide (x1 < nI (List.length l16)))
 ((go k spec_l01Below [(.ptr true [(.arr false (z2) (.ints IntKind.u8 (l3))), (.int .i64 (x4)), (.int .i64 (x5))]), (.int .i64 (x0))]).bind fun r0 =>
 (go k spec_l01Once [(.ptr true [(.arr false (z2) (.ints IntKind.u8 (l3))), (.int .i64 (D.toInt (D.cell 1 (nth r0 1)))), (.int .i64 (D.toInt (D.cell 2 (nth r0 1))))]), (.int .i64 ((6 : Int)))]).bind fun r1 =>
 cond (bit (nth r1 0))
 ((go k spec_l01Below [(.ptr true [(.arr false (z2) (.ints IntKind.u8 (l3))), (.int .i64 (D.toInt (D.cell 1 (nth r1 1)))), (.int .i64 (D.toInt (D.cell 2 (nth r1 1))))]), (.int .i64 ((3 : Int)))]).bind fun r2 =>
 cond (decide (List.length (l19 ++ [D.toInt (nth r2 0)]) ≤ bigLen))
 ((go k spec_l01Below [(.ptr true [(.arr false (z2) (.ints IntKind.u8 (l3))), (.int .i64 (D.toInt (D.cell 1 (nth r2 1)))), (.int .i64 (D.toInt (D.cell 2 (nth r2 1))))]), (.int .i64 ((200 : Int)))]).bind fun r3 =>
 (go k spec_l01Below [(.ptr true [(.arr false (z2) (.ints IntKind.u8 (l3))), (.int .i64 (D.toInt (D.cell 1 (nth r3 1)))), (.int .i64 (D.toInt (D.cell 2 (nth r3 1))))]), (.int .i64 (IntKind.wrap .i64 (D.toInt (nth r2 0) + (1 : Int))))]).bind fun r4 =>
 cond (decide (List.length (l21 ++ [IntKind.wrap .i64 (IntKind.wrap .i64 (D.toInt (nth r2 0) * D.toInt (nth r3 0)) + D.toInt (nth r4 0))]) ≤ bigLen))
 (lp k spec_l07State [(.ptr true [(.arr false (v0) (.ints IntKind.u8 (v1))), (.int .i64 (v2)), (.int .i64 (v3))])] fu 9 n (qn4 x0 (IntKind.wrap .i64 (x1 + (1 : Int))) z2 l3 (D.toInt (D.cell 1 (nth r4 1))) (D.toInt (D.cell 2 (nth r4 1))) z6 l7 z8 l9 z10 l11 z12 l13 x14 z15 l16 x17 (z18 && decide (List.length (l19 ++ [D.toInt (nth r2 0)]) = 0)) (l19 ++ [D.toInt (nth r2 0)]) (z20 && decide (List.length (l21 ++ [IntKind.wrap .i64 (IntKind.wrap .i64 (D.toInt (nth r2 0) * D.toInt (nth r3 0)) + D.toInt (nth r4 0))]) = 0)) (l21 ++ [IntKind.wrap .i64 (IntKind.wrap .i64 (D.toInt (nth r2 0) * D.toInt (nth r3 0)) + D.toInt (nth r4 0))]) z22 l23 x24))
 (none))
 (none))
 (cond (decide (List.length (l19 ++ [D.toInt (nth r0 0)]) ≤ bigLen))
 ((go k spec_l01Below [(.ptr true [(.arr false (z2) (.ints IntKind.u8 (l3))), (.int .i64 (D.toInt (D.cell 1 (nth r1 1)))), (.int .i64 (D.toInt (D.cell 2 (nth r1 1))))]), (.int .i64 ((200 : Int)))]).bind fun r5 =>
 (go k spec_l01Below [(.ptr true [(.arr false (z2) (.ints IntKind.u8 (l3))), (.int .i64 (D.toInt (D.cell 1 (nth r5 1)))), (.int .i64 (D.toInt (D.cell 2 (nth r5 1))))]), (.int .i64 (IntKind.wrap .i64 (D.toInt (nth r0 0) + (1 : Int))))]).bind fun r6 =>
 cond (decide (List.length (l21 ++ [IntKind.wrap .i64 (IntKind.wrap .i64 (D.toInt (nth r0 0) * D.toInt (nth r5 0)) + D.toInt (nth r6 0))]) ≤ bigLen))
 (lp k spec_l07State [(.ptr true [(.arr false (v0) (.ints IntKind.u8 (v1))), (.int .i64 (v2)), (.int .i64 (v3))])] fu 9 n (qn4 x0 (IntKind.wrap .i64 (x1 + (1 : Int))) z2 l3 (D.toInt (D.cell 1 (nth r6 1))) (D.toInt (D.cell 2 (nth r6 1))) z6 l7 z8 l9 z10 l11 z12 l13 x14 z15 l16 x17 (z18 && decide (List.length (l19 ++ [D.toInt (nth r0 0)]) = 0)) (l19 ++ [D.toInt (nth r0 0)]) (z20 && decide (List.length (l21 ++ [IntKind.wrap .i64 (IntKind.wrap .i64 (D.toInt (nth r0 0) * D.toInt (nth r5 0)) + D.toInt (nth r6 0))]) = 0)) (l21 ++ [IntKind.wrap .i64 (IntKind.wrap .i64 (D.toInt (nth r0 0) * D.toInt (nth r5 0)) + D.toInt (nth r6 0))]) z22 l23 x24))
 (none))
 (none)))
 (some [(.agg [(.int .i64 (x24)), (.arr true (z15) (.r3 (l16))), (.arr true (z18) (.ints .i64 (l19))), (.arr true (z20) (.ints .i64 (l21))), (.arr true (z22) (.ints .i64 (l23)))]), (.ptr true [(.arr false (z2) (.ints IntKind.u8 (l3))), (.int .i64 (x4)), (.int .i64 (x5))])]) := by kernel_rfl

end Go.Proofs.YtjfjniebmdafeaaGreatDoor
end
section
namespace Go.Proofs.YtjfjniebmdafeaaGreatDoor
open Go.Ev
set_option maxRecDepth 20000
theorem qm0 (o : Bool) (d0 : D) (l : List D) : (D.ptr o (d0 :: l)).cell 0 = d0 := Eq.trans rfl rfl
theorem qm1 (o : Bool) (d0 d1 : D) (l : List D) : (D.ptr o (d0 :: d1 :: l)).cell 1 = d1 := Eq.trans rfl rfl
theorem qm2 (o : Bool) (d0 d1 d2 : D) (l : List D) : (D.ptr o (d0 :: d1 :: d2 :: l)).cell 2 = d2 := Eq.trans rfl rfl
theorem qay (x : Int) : 0 ≤ bitN .and .i64 x 255 ∧ bitN .and .i64 x 255 ≤ 255 := by
  have h : (BitVec.ofInt IntKind.i64.bits x &&& BitVec.ofInt IntKind.i64.bits 255).toNat ≤ 255 := by
    rw [BitVec.toNat_and]; exact Nat.le_trans Nat.and_le_right (by decide)
  show 0 ≤ IntKind.wrap .i64 _ ∧ IntKind.wrap .i64 _ ≤ 255
  rw [qqv (by omega) (by omega)]; omega
theorem qcz (k : Nat) (hk : 2000000 ≤ k) (z : Bool) (l : List Int) (i h : Int) (hl : (l.length : Int) ≤ 1048576) (h0 : 0 ≤ i) (h1 : i ≤ l.length) : ∃ v i' h' : Int, go (k + 1) spec_l01Byte [.ptr true [.arr false (z) (.ints .u8 (l)), .int .i64 (i), .int .i64 (h)]] = some [.int .i64 v, .ptr true [.arr false (z) (.ints .u8 (l)), .int .i64 (i'), .int .i64 (h')]] ∧ (0 ≤ v ∧ v ≤ 255) ∧ 0 ≤ i' ∧ i' ≤ l.length := by
  have e := qg4 (k + 0) z l i h
  by_cases g : i < l.length
  · simp (disch := omega) only [qax, nth0, nth1, nth2, nth3, bit, qd5, qd6, qeh, qem, qen, qeo, qep, qeq, qer, qes, qd7, qd8, qd9, qea, qeb, qec, qed, qee, qef, qeg, qei, qej, qek, qel, qp7, qp6, qp8, qmi, qm3, qm4, qiw, qa3, qph, nI, qe1, qez, Bool.not_true, Bool.not_false, Bool.and_true, Bool.true_and, Bool.and_false, Bool.false_and, Bool.or_true, Bool.true_or, Bool.or_false, Bool.false_or, beq_self_eq_true, dTT, dFF, dT, dF, bigI, big0, qmh, qqv, qqw, List.length_set, List.length_replicate, Int.toNat_natCast, qd3, qd4, imax, imin] at e; exact ⟨_, _, _, e, qay _, by omega, by omega⟩
  · simp (disch := omega) only [qax, nth0, nth1, nth2, nth3, bit, qd5, qd6, qeh, qem, qen, qeo, qep, qeq, qer, qes, qd7, qd8, qd9, qea, qeb, qec, qed, qee, qef, qeg, qei, qej, qek, qel, qp7, qp6, qp8, qmi, qm3, qm4, qiw, qa3, qph, nI, qe1, qez, Bool.not_true, Bool.not_false, Bool.and_true, Bool.true_and, Bool.and_false, Bool.false_and, Bool.or_true, Bool.true_or, Bool.or_false, Bool.false_or, beq_self_eq_true, dTT, dFF, dT, dF, bigI, big0, qmh, qqv, qqw, List.length_set, List.length_replicate, Int.toNat_natCast, qd3, qd4, imax, imin] at e; exact ⟨_, _, _, e, qay _, by omega, by omega⟩
theorem qp4 {v b : Int} (h : 0 ≤ v) (hb : 1 ≤ b) : 0 ≤ Int.tmod v b ∧ Int.tmod v b < b := ⟨Int.tmod_nonneg b h, Int.tmod_lt_of_pos v (by omega)⟩
theorem qcy (k : Nat) (hk : 2000000 ≤ k) (z : Bool) (l : List Int) (i h b : Int) (hl : (l.length : Int) ≤ 1048576) (h0 : 0 ≤ i) (h1 : i ≤ l.length) (hb : 1 ≤ b) (hb' : b ≤ 1000000) : ∃ v i' h' : Int, go (k + 2) spec_l01Below [.ptr true [.arr false (z) (.ints .u8 (l)), .int .i64 (i), .int .i64 (h)], .int .i64 b] = some [.int .i64 v, .ptr true [.arr false (z) (.ints .u8 (l)), .int .i64 (i'), .int .i64 (h')]] ∧ (0 ≤ v ∧ v < b) ∧ 0 ≤ i' ∧ i' ≤ l.length := by
  have e := qg3 (k + 1) z l i h b
  obtain ⟨v1, i1, k1, e1, b1, q1, r1⟩ := qcz k (by omega) z l i h hl h0 h1
  by_cases g : b ≤ 256
  · simp (disch := omega) only [qax, nth0, nth1, nth2, nth3, bit, qd5, qd6, qeh, qem, qen, qeo, qep, qeq, qer, qes, qd7, qd8, qd9, qea, qeb, qec, qed, qee, qef, qeg, qei, qej, qek, qel, qp7, qp6, qp8, qmi, qm3, qm4, qiw, qa3, qph, nI, qe1, qez, Bool.not_true, Bool.not_false, Bool.and_true, Bool.true_and, Bool.and_false, Bool.false_and, Bool.or_true, Bool.true_or, Bool.or_false, Bool.false_or, beq_self_eq_true, dTT, dFF, dT, dF, bigI, big0, qmh, qqv, qqw, List.length_set, List.length_replicate, Int.toNat_natCast, qd3, qd4, imax, imin, e1, qm1, qm2] at e
    exact ⟨_, _, _, e, qp4 b1.1 hb, q1, r1⟩
  · obtain ⟨v2, i2, k2, e2, b2, q2, r2⟩ := qcz k (by omega) z l i1 k1 hl q1 r1
    obtain ⟨v3, i3, k3, e3, b3, q3, r3⟩ := qcz k (by omega) z l i2 k2 hl q2 r2
    obtain ⟨v4, i4, k4, e4, b4, q4, r4⟩ := qcz k (by omega) z l i3 k3 hl q3 r3
    simp (disch := omega) only [qax, nth0, nth1, nth2, nth3, bit, qd5, qd6, qeh, qem, qen, qeo, qep, qeq, qer, qes, qd7, qd8, qd9, qea, qeb, qec, qed, qee, qef, qeg, qei, qej, qek, qel, qp7, qp6, qp8, qmi, qm3, qm4, qiw, qa3, qph, nI, qe1, qez, Bool.not_true, Bool.not_false, Bool.and_true, Bool.true_and, Bool.and_false, Bool.false_and, Bool.or_true, Bool.true_or, Bool.or_false, Bool.false_or, beq_self_eq_true, dTT, dFF, dT, dF, bigI, big0, qmh, qqv, qqw, List.length_set, List.length_replicate, Int.toNat_natCast, qd3, qd4, imax, imin, e1, e2, e3, e4, qm1, qm2] at e
    exact ⟨_, _, _, e, qp4 (by omega) hb, q4, r4⟩
theorem qc1 (k : Nat) (hk : 2000000 ≤ k) (z : Bool) (l : List Int) (i h b : Int) (hl : (l.length : Int) ≤ 1048576) (h0 : 0 ≤ i) (h1 : i ≤ l.length) (hb : 1 ≤ b) (hb' : b ≤ 1000000) : ∃ (v : Bool) (i' h' : Int), go (k + 3) spec_l01Once [.ptr true [.arr false (z) (.ints .u8 (l)), .int .i64 (i), .int .i64 (h)], .int .i64 b] = some [.bool v, .ptr true [.arr false (z) (.ints .u8 (l)), .int .i64 (i'), .int .i64 (h')]] ∧ 0 ≤ i' ∧ i' ≤ l.length := by
  have e := qg7 (k + 2) z l i h b
  obtain ⟨v1, i1, k1, e1, b1, q1, r1⟩ := qcy k (by omega) z l i h b hl h0 h1 hb hb'
  simp (disch := omega) only [qax, nth0, nth1, nth2, nth3, bit, qd5, qd6, qeh, qem, qen, qeo, qep, qeq, qer, qes, qd7, qd8, qd9, qea, qeb, qec, qed, qee, qef, qeg, qei, qej, qek, qel, qp7, qp6, qp8, qmi, qm3, qm4, qiw, qa3, qph, nI, qe1, qez, Bool.not_true, Bool.not_false, Bool.and_true, Bool.true_and, Bool.and_false, Bool.false_and, Bool.or_true, Bool.true_or, Bool.or_false, Bool.false_or, beq_self_eq_true, dTT, dFF, dT, dF, bigI, big0, qmh, qqv, qqw, List.length_set, List.length_replicate, Int.toNat_natCast, qd3, qd4, imax, imin, e1, qm1, qm2] at e
  exact ⟨_, _, _, e, q1, r1⟩
theorem qb3 (k : Nat) (hk : 2000000 ≤ k) (r v ix b : Int) (hid : idOk r v ix = true) (hv : v < 4) (hb : b = 0 ∨ b = 1) : go (k + 3) spec_ChildOf [.agg [.int .i64 r, .int .i64 v, .int .i64 ix], .int .i64 b] = some [.agg [.int .i64 r, .int .i64 (v + 1), .int .i64 (2 * ix + b)], .bool true] := by
  rw [qgf]
  have h := qiq.1 hid
  have hp : pow2 v ≤ 16 := by
    rcases lev (qiu.2 h.2.1) with rfl | rfl | rfl | rfl | rfl <;> decide
  have hi : inR b 0 1 = true := qiu.2 (by omega)
  simp (disch := omega) only [qax, nth0, nth1, nth2, nth3, bit, qd5, qd6, qeh, qem, qen, qeo, qep, qeq, qer, qes, qd7, qd8, qd9, qea, qeb, qec, qed, qee, qef, qeg, qei, qej, qek, qel, qp7, qp6, qp8, qmi, qm3, qm4, qiw, qa3, qph, nI, qe1, qez, Bool.not_true, Bool.not_false, Bool.and_true, Bool.true_and, Bool.and_false, Bool.false_and, Bool.or_true, Bool.true_or, Bool.or_false, Bool.false_or, beq_self_eq_true, dTT, dFF, dT, dF, bigI, big0, qmh, qqv, qqw, List.length_set, List.length_replicate, Int.toNat_natCast, qd3, qd4, imax, imin, qca, hid, qc0, hi]
def qad (K : Nat) (z : Bool) (l : List Int) (v : Int) (N : Nat) : Prop := ∀ (r ix c i h : Int) (q : Bool) (out : List Cell), idOk r v ix = true → 1 ≤ c → c ≤ 90 + v → 0 ≤ i → i ≤ l.length → out.length + N ≤ 4096 →
    ∃ (new : List Cell) (i' h' : Int), go K spec_l04Root [.ptr true [.arr false (z) (.ints .u8 (l)), .int .i64 (i), .int .i64 (h)], .agg [.int .i64 r, .int .i64 v, .int .i64 ix], .int .i64 c, .ptr true [.arr true q (.r3 out)]] = some [.ptr true [.arr false (z) (.ints .u8 (l)), .int .i64 (i'), .int .i64 (h')], .ptr true [.arr true false (.r3 (out ++ new))]] ∧ (0 ≤ i' ∧ i' ≤ l.length) ∧ (1 ≤ new.length ∧ new.length ≤ N) ∧ okp (qo7 r v ix) new = true ∧ endp (qo7 r v ix) new = qo7 r v ix + qqn v
theorem qnf {r v ix : Int} (hid : idOk r v ix = true) : okp (qo7 r v ix) [(r, v, ix)] = true ∧ endp (qo7 r v ix) [(r, v, ix)] = qo7 r v ix + qqn v :=
  ⟨qml.2 ⟨hid, rfl, rfl⟩, rfl⟩
theorem qne (k : Nat) (hk : 2000000 ≤ k) (z : Bool) (l : List Int) (hl : (l.length : Int) ≤ 1048576) : qad (k + 4) z l 4 1 := by
  intro r ix c i h q out hid hc hc' h0 h1 ho
  have e := qhb (k + 3) z l i h r 4 ix c q out
  have lo : (out ++ [(r, (4 : Int), ix)]).length = out.length + 1 := by simp
  simp (disch := omega) only [qax, nth0, nth1, nth2, nth3, bit, qd5, qd6, qeh, qem, qen, qeo, qep, qeq, qer, qes, qd7, qd8, qd9, qea, qeb, qec, qed, qee, qef, qeg, qei, qej, qek, qel, qp7, qp6, qp8, qmi, qm3, qm4, qiw, qa3, qph, nI, qe1, qez, Bool.not_true, Bool.not_false, Bool.and_true, Bool.true_and, Bool.and_false, Bool.false_and, Bool.or_true, Bool.true_or, Bool.or_false, Bool.false_or, beq_self_eq_true, dTT, dFF, dT, dF, bigI, big0, qmh, qqv, qqw, List.length_set, List.length_replicate, Int.toNat_natCast, qd3, qd4, imax, imin] at e
  exact ⟨[(r, 4, ix)], i, h, e, ⟨h0, h1⟩, by simp, qnf hid⟩
theorem qng (k : Nat) (hk : 2000000 ≤ k) (z : Bool) (l : List Int) (hl : (l.length : Int) ≤ 1048576) (v : Int) (h0v : 0 ≤ v) (hv : v < 4) (N : Nat) (hN : 1 ≤ N) (H : qad (k + 4) z l (v + 1) N) : qad (k + 4 + 1) z l v (2 * N) := by
  intro r ix c i h q out hid hc hc' h0 h1 ho
  have e := qhb (k + 4) z l i h r v ix c q out
  have lo : (out ++ [(r, v, ix)]).length = out.length + 1 := by simp
  obtain ⟨b, i1, k1, e1, q1, r1⟩ := qc1 (k + 1) (by omega) z l i h c hl h0 h1 hc (by omega)
  cases b
  · simp (disch := omega) only [qax, nth0, nth1, nth2, nth3, bit, qd5, qd6, qeh, qem, qen, qeo, qep, qeq, qer, qes, qd7, qd8, qd9, qea, qeb, qec, qed, qee, qef, qeg, qei, qej, qek, qel, qp7, qp6, qp8, qmi, qm3, qm4, qiw, qa3, qph, nI, qe1, qez, Bool.not_true, Bool.not_false, Bool.and_true, Bool.true_and, Bool.and_false, Bool.false_and, Bool.or_true, Bool.true_or, Bool.or_false, Bool.false_or, beq_self_eq_true, dTT, dFF, dT, dF, bigI, big0, qmh, qqv, qqw, List.length_set, List.length_replicate, Int.toNat_natCast, qd3, qd4, imax, imin, e1, qm1, qm2] at e
    exact ⟨[(r, v, ix)], i1, k1, e, ⟨q1, r1⟩, ⟨by simp, by simp; omega⟩, qnf hid⟩
  · simp (disch := omega) only [qax, nth0, nth1, nth2, nth3, bit, qd5, qd6, qeh, qem, qen, qeo, qep, qeq, qer, qes, qd7, qd8, qd9, qea, qeb, qec, qed, qee, qef, qeg, qei, qej, qek, qel, qp7, qp6, qp8, qmi, qm3, qm4, qiw, qa3, qph, nI, qe1, qez, Bool.not_true, Bool.not_false, Bool.and_true, Bool.true_and, Bool.and_false, Bool.false_and, Bool.or_true, Bool.true_or, Bool.or_false, Bool.false_or, beq_self_eq_true, dTT, dFF, dT, dF, bigI, big0, qmh, qqv, qqw, List.length_set, List.length_replicate, Int.toNat_natCast, qd3, qd4, imax, imin, e1, qm1, qm2] at e
    have ch := qet hid hv
    obtain ⟨n1, i2, k2, e2, p2, s2, o2, d2⟩ := H r (2 * ix) (c + 1) i1 k1 q out ch.1 (by omega) (by omega) q1 r1 (by omega)
    have l2 : (out ++ n1).length = out.length + n1.length := List.length_append ..
    obtain ⟨n2, i3, k3, e3, p3, s3, o3, d3⟩ := H r (2 * ix + 1) (c + 1) i2 k2 false (out ++ n1) ch.2.1 (by omega) (by omega) p2.1 p2.2 (by omega)
    have cA := qb3 (k + 1) (by omega) r v ix 0 hid hv (Or.inl rfl)
    have cB := qb3 (k + 1) (by omega) r v ix 1 hid hv (Or.inr rfl)
    rw [Int.add_zero] at cA
    have f0 := qju (k + 4) (k + 3) [] z l i h q out c 0 z l i1 k1 q out r v ix
    have f1 := qju (k + 4) (k + 2) [] z l i h q out c 1 z l i2 k2 false (out ++ n1) r v ix
    have f2 := qju (k + 4) (k + 1) [] z l i h q out c 2 z l i3 k3 false (out ++ n1 ++ n2) r v ix
    have w1 : IntKind.wrap .i64 (c + 1) = c + 1 := qqv (by omega) (by omega)
    have w2 : IntKind.wrap .i64 ((0 : Int) + 1) = 1 := by rw [qqv (by omega) (by omega)]; rfl
    have w3 : IntKind.wrap .i64 ((1 : Int) + 1) = 2 := by rw [qqv (by omega) (by omega)]; rfl
    simp (disch := omega) only [qax, nth0, nth1, nth2, nth3, bit, qd5, qd6, qeh, qem, qen, qeo, qep, qeq, qer, qes, qd7, qd8, qd9, qea, qeb, qec, qed, qee, qef, qeg, qei, qej, qek, qel, qp7, qp6, qp8, qmi, qm3, qm4, qiw, qa3, qph, nI, qe1, qez, Bool.not_true, Bool.not_false, Bool.and_true, Bool.true_and, Bool.and_false, Bool.false_and, Bool.or_true, Bool.true_or, Bool.or_false, Bool.false_or, beq_self_eq_true, dTT, dFF, dT, dF, bigI, big0, qmh, qqv, qqw, List.length_set, List.length_replicate, Int.toNat_natCast, qd3, qd4, imax, imin] at f2
    simp (disch := omega) only [qax, nth0, nth1, nth2, nth3, bit, qd5, qd6, qeh, qem, qen, qeo, qep, qeq, qer, qes, qd7, qd8, qd9, qea, qeb, qec, qed, qee, qef, qeg, qei, qej, qek, qel, qp7, qp6, qp8, qmi, qm3, qm4, qiw, qa3, qph, nI, qe1, qez, Bool.not_true, Bool.not_false, Bool.and_true, Bool.true_and, Bool.and_false, Bool.false_and, Bool.or_true, Bool.true_or, Bool.or_false, Bool.false_or, beq_self_eq_true, dTT, dFF, dT, dF, bigI, big0, qmh, qqv, qqw, List.length_set, List.length_replicate, Int.toNat_natCast, qd3, qd4, imax, imin, cB, w1, w3, e3, qm0, qm1, qm2, f2] at f1
    simp (disch := omega) only [qax, nth0, nth1, nth2, nth3, bit, qd5, qd6, qeh, qem, qen, qeo, qep, qeq, qer, qes, qd7, qd8, qd9, qea, qeb, qec, qed, qee, qef, qeg, qei, qej, qek, qel, qp7, qp6, qp8, qmi, qm3, qm4, qiw, qa3, qph, nI, qe1, qez, Bool.not_true, Bool.not_false, Bool.and_true, Bool.true_and, Bool.and_false, Bool.false_and, Bool.or_true, Bool.true_or, Bool.or_false, Bool.false_or, beq_self_eq_true, dTT, dFF, dT, dF, bigI, big0, qmh, qqv, qqw, List.length_set, List.length_replicate, Int.toNat_natCast, qd3, qd4, imax, imin, cA, w1, w2, e2, qm0, qm1, qm2, f1] at f0
    rw [f0, List.append_assoc] at e
    refine ⟨n1 ++ n2, i3, k3, e, p3, ?_, ?_, ?_⟩
    · rw [List.length_append]; omega
    · rw [qmk, Bool.and_eq_true]
      rw [ch.2.2.1] at o2 d2
      rw [ch.2.2.2.1] at o3
      exact ⟨o2, by rw [d2]; exact o3⟩
    · rw [qib]
      rw [ch.2.2.1] at d2
      rw [ch.2.2.2.1] at d3
      rw [d2, d3, Int.add_assoc, ch.2.2.2.2]
theorem qc5 (k : Nat) (hk : 2000000 ≤ k) (z : Bool) (l : List Int) (hl : (l.length : Int) ≤ 1048576) : qad (k + 8) z l 0 16 :=
  qng (k + 3) (by omega) z l hl 0 (by omega) (by omega) 8 (by omega) (qng (k + 2) (by omega) z l hl 1 (by omega) (by omega) 4 (by omega) (qng (k + 1) (by omega) z l hl 2 (by omega) (by omega) 2 (by omega) (qng k hk z l hl 3 (by omega) (by omega) 1 (by omega) (qne k hk z l hl))))
end Go.Proofs.YtjfjniebmdafeaaGreatDoor
end
section
namespace Go.Proofs.YtjfjniebmdafeaaGreatDoor
open Go.Ev
set_option maxRecDepth 20000
theorem qlg (k : Nat) (hk : 2000000 ≤ k) (fu : List (Nat × Nat)) (v0 : Bool) (v1 : List Int) (v2 v3 : Int) (z : Bool) (l : List Int) (hl : (l.length : Int) ≤ 1048576) (z5 : Bool) (l6 : List Cell) (x7 : Int) (R : Nat) (hR : 1 ≤ R) (hR' : R ≤ 3) : ∀ (n t : Nat) (i h : Int) (q : Bool) (out : List Cell), t ≤ R → R - t < n → 0 ≤ i → i ≤ l.length → (q = false ∨ t = 0) → out.length ≤ 16 * t → okp 0 out = true → endp 0 out = 16 * t →
    ∃ (out' : List Cell) (i' h' : Int), lp (k + 8) spec_l04Mesh [(.ptr true [(.arr false (v0) (.ints IntKind.u8 (v1))), (.int .i64 (v2)), (.int .i64 (v3))])] fu 3 (n) (qn0 (t : Int) z l i h z5 l6 x7 q out (R : Int)) = some [.agg [.int .i64 (R : Int), .arr true false (.r3 out')], .ptr true [.arr false (z) (.ints .u8 (l)), .int .i64 (i'), .int .i64 (h')]] ∧ (0 ≤ i' ∧ i' ≤ l.length) ∧ ql2 R 0 out' = true
  | 0, t, i, h, q, out, ht, hn, h0, h1, hq, ho, o, d => by omega
  | n + 1, t, i, h, q, out, ht, hn, h0, h1, hq, ho, o, d => by
    have e := qjt (k + 8) n fu v0 v1 v2 v3 (t : Int) z l i h z5 l6 x7 q out (R : Int)
    by_cases g : t < R
    · obtain ⟨v, i1, k1, e1, b1, q1, r1⟩ := qcy (k + 6) (by omega) z l i h 2 hl h0 h1 (by omega) (by omega)
      have id : idOk (t : Int) 0 0 = true := qiq.2 ⟨by omega, by omega, by omega, by decide⟩
      obtain ⟨n1, i2, k2, e2, p2, s2, o2, d2⟩ := qc5 k (by omega) z l hl (t : Int) 0 (1 + v) i1 k1 q out id (by omega) (by omega) q1 r1 (by omega)
      have st : qo7 (t : Int) 0 0 = 16 * t := by rw [qo9 id]; omega
      rw [st] at o2 d2
      have lo : (out ++ n1).length = out.length + n1.length := List.length_append ..
      obtain ⟨out', i', h', e3, p3, o3⟩ := qlg k hk fu v0 v1 v2 v3 z l hl z5 l6 x7 R hR hR' n (t + 1) i2 k2 false (out ++ n1) (by omega) (by omega) p2.1 p2.2 (Or.inl rfl) (by omega) (by rw [qmk, d, Bool.and_eq_true]; exact ⟨o, o2⟩) (by rw [qib, d, d2, w0]; omega)
      simp (disch := omega) only [qax, nth0, nth1, nth2, nth3, bit, qd5, qd6, qeh, qem, qen, qeo, qep, qeq, qer, qes, qd7, qd8, qd9, qea, qeb, qec, qed, qee, qef, qeg, qei, qej, qek, qel, qp7, qp6, qp8, qmi, qm3, qm4, qiw, qa3, qph, nI, qe1, qez, Bool.not_true, Bool.not_false, Bool.and_true, Bool.true_and, Bool.and_false, Bool.false_and, Bool.or_true, Bool.true_or, Bool.or_false, Bool.false_or, beq_self_eq_true, dTT, dFF, dT, dF, bigI, big0, qmh, qqv, qqw, List.length_set, List.length_replicate, Int.toNat_natCast, qd3, qd4, imax, imin, e1, qm0, qm1, qm2, e2, e3] at e
      exact ⟨out', i', h', e, p3, o3⟩
    · have : t = R := by omega
      subst this
      rcases hq with rfl | h
      · simp (disch := omega) only [qax, nth0, nth1, nth2, nth3, bit, qd5, qd6, qeh, qem, qen, qeo, qep, qeq, qer, qes, qd7, qd8, qd9, qea, qeb, qec, qed, qee, qef, qeg, qei, qej, qek, qel, qp7, qp6, qp8, qmi, qm3, qm4, qiw, qa3, qph, nI, qe1, qez, Bool.not_true, Bool.not_false, Bool.and_true, Bool.true_and, Bool.and_false, Bool.false_and, Bool.or_true, Bool.true_or, Bool.or_false, Bool.false_or, beq_self_eq_true, dTT, dFF, dT, dF, bigI, big0, qmh, qqv, qqw, List.length_set, List.length_replicate, Int.toNat_natCast, qd3, qd4, imax, imin] at e
        exact ⟨out, i, h, e, ⟨h0, h1⟩, ql4.2 ⟨o, by omega, by rw [d]; omega⟩⟩
      · omega
theorem qc4 (k : Nat) (hk : 2000000 ≤ k) (z : Bool) (l : List Int) (i h : Int) (hl : (l.length : Int) ≤ 1048576) (h0 : 0 ≤ i) (h1 : i ≤ l.length) :
    ∃ (r : Int) (out : List Cell) (i' h' : Int), go (k + 9) spec_l04Mesh [.ptr true [.arr false (z) (.ints .u8 (l)), .int .i64 (i), .int .i64 (h)]] = some [.agg [.int .i64 r, .arr true false (.r3 out)], .ptr true [.arr false (z) (.ints .u8 (l)), .int .i64 (i'), .int .i64 (h')]] ∧ (0 ≤ i' ∧ i' ≤ l.length) ∧ ql2 r 0 out = true ∧ r ≤ 3 := by
  have e := qha (k + 8) z l i h
  obtain ⟨v, i1, k1, e1, b1, q1, r1⟩ := qcy (k + 6) (by omega) z l i h 3 hl h0 h1 (by omega) (by omega)
  obtain ⟨w, rfl⟩ : ∃ w : Nat, v = (w : Int) := ⟨v.toNat, by omega⟩
  obtain ⟨out, i2, k2, e2, p2, o2⟩ := qlg k hk [] z l i h z l hl true [] 0 (1 + w) (by omega) (by omega) (k + 8) 0 i1 k1 true [] (by omega) (by omega) q1 r1 (Or.inr rfl) (by simp) rfl rfl
  rw [show ((1 + w : Nat) : Int) = 1 + (w : Int) by omega, show ((0 : Nat) : Int) = 0 from rfl] at e2
  rw [show ((1 + w : Nat) : Int) = 1 + (w : Int) by omega] at o2
  simp (disch := omega) only [qax, nth0, nth1, nth2, nth3, bit, qd5, qd6, qeh, qem, qen, qeo, qep, qeq, qer, qes, qd7, qd8, qd9, qea, qeb, qec, qed, qee, qef, qeg, qei, qej, qek, qel, qp7, qp6, qp8, qmi, qm3, qm4, qiw, qa3, qph, nI, qe1, qez, Bool.not_true, Bool.not_false, Bool.and_true, Bool.true_and, Bool.and_false, Bool.false_and, Bool.or_true, Bool.true_or, Bool.or_false, Bool.false_or, beq_self_eq_true, dTT, dFF, dT, dF, bigI, big0, qmh, qqv, qqw, List.length_set, List.length_replicate, Int.toNat_natCast, qd3, qd4, imax, imin, e1, qm0, qm1, qm2, e2] at e
  exact ⟨_, _, _, _, e, p2, o2, by omega⟩
theorem qc6 (k : Nat) (hk : 2000000 ≤ k) (a0 : Int) (a1z : Bool) (a1 : List Cell) (i : Nat) (hl : (a1.length : Int) ≤ 1048576) (hi : i + 1 < a1.length) : go (k + 1) spec_l05Coarser [.agg [.int .i64 a0, .arr false a1z (.r3 a1)], .int .i64 (i : Int)] = some [.int .i64 ((qew a1 i : Nat) : Int)] := by
  rw [qhc]
  unfold qew
  simp (disch := omega) only [qax, nth0, nth1, nth2, nth3, bit, qd5, qd6, qeh, qem, qen, qeo, qep, qeq, qer, qes, qd7, qd8, qd9, qea, qeb, qec, qed, qee, qef, qeg, qei, qej, qek, qel, qp7, qp6, qp8, qmi, qm3, qm4, qiw, qa3, qph, nI, qe1, qez, Bool.not_true, Bool.not_false, Bool.and_true, Bool.true_and, Bool.and_false, Bool.false_and, Bool.or_true, Bool.true_or, Bool.or_false, Bool.false_or, beq_self_eq_true, dTT, dFF, dT, dF, bigI, big0, qmh, qqv, qqw, List.length_set, List.length_replicate, Int.toNat_natCast, qd3, qd4, imax, imin]
  by_cases g : qkg a1 (i + 1) < qkg a1 i
  · rw [if_pos g]; simp only [qkg] at g; simp (disch := omega) only [qax, nth0, nth1, nth2, nth3, bit, qd5, qd6, qeh, qem, qen, qeo, qep, qeq, qer, qes, qd7, qd8, qd9, qea, qeb, qec, qed, qee, qef, qeg, qei, qej, qek, qel, qp7, qp6, qp8, qmi, qm3, qm4, qiw, qa3, qph, nI, qe1, qez, Bool.not_true, Bool.not_false, Bool.and_true, Bool.true_and, Bool.and_false, Bool.false_and, Bool.or_true, Bool.true_or, Bool.or_false, Bool.false_or, beq_self_eq_true, dTT, dFF, dT, dF, bigI, big0, qmh, qqv, qqw, List.length_set, List.length_replicate, Int.toNat_natCast, qd3, qd4, imax, imin]
  · rw [if_neg g]; simp only [qkg] at g; simp (disch := omega) only [qax, nth0, nth1, nth2, nth3, bit, qd5, qd6, qeh, qem, qen, qeo, qep, qeq, qer, qes, qd7, qd8, qd9, qea, qeb, qec, qed, qee, qef, qeg, qei, qej, qek, qel, qp7, qp6, qp8, qmi, qm3, qm4, qiw, qa3, qph, nI, qe1, qez, Bool.not_true, Bool.not_false, Bool.and_true, Bool.true_and, Bool.and_false, Bool.false_and, Bool.or_true, Bool.true_or, Bool.or_false, Bool.false_or, beq_self_eq_true, dTT, dFF, dT, dF, bigI, big0, qmh, qqv, qqw, List.length_set, List.length_replicate, Int.toNat_natCast, qd3, qd4, imax, imin]
theorem qpw {α : Type} (l : List α) (i : Nat) : List.take (l.length - i) (List.drop i l) = l.drop i := by
  apply List.take_of_length_le; rw [List.length_drop]; omega
theorem ton0 : Int.toNat 0 = 0 := Eq.trans rfl rfl
theorem qda (k : Nat) (hk : 2000000 ≤ k) (a0 : Int) (a1z : Bool) (a1 : List Cell) (i : Nat) (hl : (a1.length : Int) ≤ 1000000) (hi : i < a1.length) (hid : idOk (a1.getD i zz3).1 (a1.getD i zz3).2.1 (a1.getD i zz3).2.2 = true) (hv : (a1.getD i zz3).2.1 < 4) : go (k + 4) spec_l05Split [.agg [.int .i64 a0, .arr false a1z (.r3 a1)], .int .i64 (i : Int)] = some [.agg [.int .i64 a0, .arr true false (.r3 (qoy a1 i))]] := by
  rw [qhg]
  have cA := qb3 k (by omega) _ _ _ 0 hid hv (Or.inl rfl)
  have cB := qb3 k (by omega) _ _ _ 1 hid hv (Or.inr rfl)
  rw [Int.add_zero] at cA
  have l1 : (a1.take i).length = i := by rw [List.length_take]; omega
  have l2 : ∀ x y : Cell, (a1.take i ++ [x, y]).length = i + 2 := fun x y => by rw [List.length_append, l1]; rfl
  have l3 : ∀ x y : Cell, (a1.take i ++ [x, y] ++ a1.drop (i + 1)).length = a1.length + 1 := fun x y => by rw [List.length_append, l2, List.length_drop]; omega
  simp (disch := omega) only [qax, nth0, nth1, nth2, nth3, bit, qd5, qd6, qeh, qem, qen, qeo, qep, qeq, qer, qes, qd7, qd8, qd9, qea, qeb, qec, qed, qee, qef, qeg, qei, qej, qek, qel, qp7, qp6, qp8, qmi, qm3, qm4, qiw, qa3, qph, nI, qe1, qez, Bool.not_true, Bool.not_false, Bool.and_true, Bool.true_and, Bool.and_false, Bool.false_and, Bool.or_true, Bool.true_or, Bool.or_false, Bool.false_or, beq_self_eq_true, dTT, dFF, dT, dF, bigI, big0, qmh, qqv, qqw, List.length_set, List.length_replicate, Int.toNat_natCast, qd3, qd4, imax, imin, cA, cB, ton0, Nat.sub_zero, Nat.zero_add, List.drop_zero, qpw, l1, l2, l3]
  rw [List.append_assoc]; rfl
theorem qk4 (k : Nat) (hk : 2000000 ≤ k) (fu : List (Nat × Nat)) (z1 : Bool) (l2 : List Cell) (x3 r : Int) : ∀ (N n : Nat) (l : List Cell), N < n → ql2 r 0 l = true → 129 ≤ N + l.length →
    lp (k + 5) spec_Balance [] fu 5 (n) (qns (unb l) z1 l2 x3 false l r) = some [.agg [.int .i64 r, .arr true false (.r3 (balN N l))]]
  | N, 0, l, hn, h, hN => by omega
  | 0, n + 1, l, hn, h, hN => by have := ql7 h; omega
  | N + 1, n + 1, l, hn, h, hN => by
    have ml := ql7 h
    have e := qjl (k + 5) n fu (unb l) z1 l2 x3 false l r
    unfold balN
    by_cases g : unb l < 0
    · rw [if_pos g]; simp (disch := omega) only [qax, nth0, nth1, nth2, nth3, bit, qd5, qd6, qeh, qem, qen, qeo, qep, qeq, qer, qes, qd7, qd8, qd9, qea, qeb, qec, qed, qee, qef, qeg, qei, qej, qek, qel, qp7, qp6, qp8, qmi, qm3, qm4, qiw, qa3, qph, nI, qe1, qez, Bool.not_true, Bool.not_false, Bool.and_true, Bool.true_and, Bool.and_false, Bool.false_and, Bool.or_true, Bool.true_or, Bool.or_false, Bool.false_or, beq_self_eq_true, dTT, dFF, dT, dF, bigI, big0, qmh, qqv, qqw, List.length_set, List.length_replicate, Int.toNat_natCast, qd3, qd4, imax, imin] at e; exact e
    · rw [if_neg g]
      obtain ⟨j, ej, h1, h2⟩ := qqb (by omega : 0 ≤ unb l)
      have c := qex h h1 h2
      have sm := qo1 h c.1 c.2
      have sl := qoz c.1
      have id := ((ql6 _ _ _ h).2.2.2.1 _ c.1).2.2
      have IH := qk4 k hk fu z1 l2 x3 r N n _ (by omega) sm (by omega)
      rw [ej, Int.toNat_natCast]
      rw [ej] at e
      have mv := ql8 _ _ _ sm
      have mm := ql7 sm
      simp (disch := omega) only [qax, nth0, nth1, nth2, nth3, bit, qd5, qd6, qeh, qem, qen, qeo, qep, qeq, qer, qes, qd7, qd8, qd9, qea, qeb, qec, qed, qee, qef, qeg, qei, qej, qek, qel, qp7, qp6, qp8, qmi, qm3, qm4, qiw, qa3, qph, nI, qe1, qez, Bool.not_true, Bool.not_false, Bool.and_true, Bool.true_and, Bool.and_false, Bool.false_and, Bool.or_true, Bool.true_or, Bool.or_false, Bool.false_or, beq_self_eq_true, dTT, dFF, dT, dF, bigI, big0, qmh, qqv, qqw, List.length_set, List.length_replicate, Int.toNat_natCast, qd3, qd4, imax, imin, qc6] at e
      rw [qda (k + 1) (by omega) _ _ _ _ (by omega) c.1 id c.2] at e
      simp (disch := omega) only [qax, nth0, nth1, nth2, nth3, bit, qd5, qd6, qeh, qem, qen, qeo, qep, qeq, qer, qes, qd7, qd8, qd9, qea, qeb, qec, qed, qee, qef, qeg, qei, qej, qek, qel, qp7, qp6, qp8, qmi, qm3, qm4, qiw, qa3, qph, nI, qe1, qez, Bool.not_true, Bool.not_false, Bool.and_true, Bool.true_and, Bool.and_false, Bool.false_and, Bool.or_true, Bool.true_or, Bool.or_false, Bool.false_or, beq_self_eq_true, dTT, dFF, dT, dF, bigI, big0, qmh, qqv, qqw, List.length_set, List.length_replicate, Int.toNat_natCast, qd3, qd4, imax, imin] at e
      rw [qc8 (k + 4) (by omega) _ _ _ (by omega) mv] at e
      simp (disch := omega) only [qax, nth0, nth1, nth2, nth3, bit, qd5, qd6, qeh, qem, qen, qeo, qep, qeq, qer, qes, qd7, qd8, qd9, qea, qeb, qec, qed, qee, qef, qeg, qei, qej, qek, qel, qp7, qp6, qp8, qmi, qm3, qm4, qiw, qa3, qph, nI, qe1, qez, Bool.not_true, Bool.not_false, Bool.and_true, Bool.true_and, Bool.and_false, Bool.false_and, Bool.or_true, Bool.true_or, Bool.or_false, Bool.false_or, beq_self_eq_true, dTT, dFF, dT, dF, bigI, big0, qmh, qqv, qqw, List.length_set, List.length_replicate, Int.toNat_natCast, qd3, qd4, imax, imin, IH] at e
      exact e
theorem qb1 (k : Nat) (hk : 2000000 ≤ k) (a0 : Int) (a1z : Bool) (a1 : List Cell) (h : ql2 a0 0 a1 = true) : go (k + 6) spec_Balance [.agg [.int .i64 a0, .arr false a1z (.r3 a1)]] = some [.agg [.int .i64 a0, .arr true false (.r3 (bal a1))]] := by
  rw [qgd]
  have ml := ql7 h
  have mv := ql8 _ _ _ h
  simp (disch := omega) only [qax, nth0, nth1, nth2, nth3, bit, qd5, qd6, qeh, qem, qen, qeo, qep, qeq, qer, qes, qd7, qd8, qd9, qea, qeb, qec, qed, qee, qef, qeg, qei, qej, qek, qel, qp7, qp6, qp8, qmi, qm3, qm4, qiw, qa3, qph, nI, qe1, qez, Bool.not_true, Bool.not_false, Bool.and_true, Bool.true_and, Bool.and_false, Bool.false_and, Bool.or_true, Bool.true_or, Bool.or_false, Bool.false_or, beq_self_eq_true, dTT, dFF, dT, dF, bigI, big0, qmh, qqv, qqw, List.length_set, List.length_replicate, Int.toNat_natCast, qd3, qd4, imax, imin, qc2, qci, h]
  rw [qc8 (k + 4) (by omega) _ _ _ (by omega) mv]
  simp (disch := omega) only [qax, nth0, nth1, nth2, nth3, bit, qd5, qd6, qeh, qem, qen, qeo, qep, qeq, qer, qes, qd7, qd8, qd9, qea, qeb, qec, qed, qee, qef, qeg, qei, qej, qek, qel, qp7, qp6, qp8, qmi, qm3, qm4, qiw, qa3, qph, nI, qe1, qez, Bool.not_true, Bool.not_false, Bool.and_true, Bool.true_and, Bool.and_false, Bool.false_and, Bool.or_true, Bool.true_or, Bool.or_false, Bool.false_or, beq_self_eq_true, dTT, dFF, dT, dF, bigI, big0, qmh, qqv, qqw, List.length_set, List.length_replicate, Int.toNat_natCast, qd3, qd4, imax, imin]
  exact qk4 k hk [] true [] 0 a0 _ _ a1 (by omega) h (by omega)
theorem qc9 (k : Nat) (hk : 2000000 ≤ k) (z : Bool) (l : List Int) (i h : Int) (hl : (l.length : Int) ≤ 1048576) (h0 : 0 ≤ i) (h1 : i ≤ l.length) :
    ∃ (r : Int) (out : List Cell) (i' h' : Int), go (k + 10) spec_l05Mesh [.ptr true [.arr false (z) (.ints .u8 (l)), .int .i64 (i), .int .i64 (h)]] = some [.agg [.int .i64 r, .arr true false (.r3 out)], .ptr true [.arr false (z) (.ints .u8 (l)), .int .i64 (i'), .int .i64 (h')]] ∧ (0 ≤ i' ∧ i' ≤ l.length) ∧ ql2 r 0 out = true ∧ unb out < 0 ∧ r ≤ 3 := by
  have e := qhf (k + 9) z l i h
  obtain ⟨r, out, i1, k1, e1, q1, m1, r1⟩ := qc4 k (by omega) z l i h hl h0 h1
  have e2 := qb1 (k + 3) (by omega) r false out m1
  simp (disch := omega) only [qax, nth0, nth1, nth2, nth3, bit, qd5, qd6, qeh, qem, qen, qeo, qep, qeq, qer, qes, qd7, qd8, qd9, qea, qeb, qec, qed, qee, qef, qeg, qei, qej, qek, qel, qp7, qp6, qp8, qmi, qm3, qm4, qiw, qa3, qph, nI, qe1, qez, Bool.not_true, Bool.not_false, Bool.and_true, Bool.true_and, Bool.and_false, Bool.false_and, Bool.or_true, Bool.true_or, Bool.or_false, Bool.false_or, beq_self_eq_true, dTT, dFF, dT, dF, bigI, big0, qmh, qqv, qqw, List.length_set, List.length_replicate, Int.toNat_natCast, qd3, qd4, imax, imin, e1, e2, qm0, qm1, qm2] at e
  exact ⟨_, _, _, _, e, q1, (qas m1).1, (qas m1).2, r1⟩
end Go.Proofs.YtjfjniebmdafeaaGreatDoor
end
section
namespace Go.Proofs.YtjfjniebmdafeaaGreatDoor
open Go.Ev
set_option maxRecDepth 20000
theorem qcm (k : Nat) (hk : 2000000 ≤ k) (a : Int) (h : 0 ≤ a) (h' : a ≤ 1000000000) : go (k + 1) spec_SplitEven [(.int .i64 (a))] = some [.int .i64 (hA a), .int .i64 (hB a)] := by
  rw [qgw]
  have e : Int.tdiv a 2 = a / 2 := Int.tdiv_eq_ediv_of_nonneg h
  rw [e]
  simp (disch := omega) only [qax, nth0, nth1, nth2, nth3, bit, qd5, qd6, qeh, qem, qen, qeo, qep, qeq, qer, qes, qd7, qd8, qd9, qea, qeb, qec, qed, qee, qef, qeg, qei, qej, qek, qel, qp7, qp6, qp8, qmi, qm3, qm4, qiw, qa3, qph, nI, qe1, qez, Bool.not_true, Bool.not_false, Bool.and_true, Bool.true_and, Bool.and_false, Bool.false_and, Bool.or_true, Bool.true_or, Bool.or_false, Bool.false_or, beq_self_eq_true, dTT, dFF, dT, dF, bigI, big0, qmh, qqv, qqw, List.length_set, List.length_replicate, Int.toNat_natCast, qd3, qd4, imax, imin]
theorem qdh (k : Nat) (hk : 2000000 ≤ k) (r : Int) (s : S3) (b : List Int) (U : StU r s b) (i : Nat) (hi : i < s.1.length) (hv : qkg s.1 i < 4) :
    go (k + 5) spec_l08Split [.agg [.int .i64 (r), .arr false (false) (.r3 (s.1)), .arr false (false) (.ints .i64 (s.2.1)), .arr false (false) (.ints .i64 (s.2.2)), .arr false (false) (.ints .i64 (b))], .int .i64 (i : Int)] = some [.agg [.int .i64 (r), .arr true (false) (.r3 ((rfS s i).1)), .arr true (false) (.ints .i64 ((rfS s i).2.1)), .arr true (false) (.ints .i64 ((rfS s i).2.2)), .arr true (false) (.ints .i64 (b))]] := by
  obtain ⟨l, m, t⟩ := s
  simp only at hi hv ⊢
  rw [qho]
  have L := U.len; have ml : m.length = l.length := U.ml; have tl : t.length = l.length := U.tl; have bl := U.bl; have rr := U.rr
  have a : 0 ≤ m.getD i 0 ∧ m.getD i 0 ≤ 10000000 ∧ 0 ≤ t.getD i 0 ∧ t.getD i 0 ≤ 1000 * m.getD i 0 := U.at i
  simp only at L
  have q := hAB a.1
  have sh := qoq ⟨a.1, a.2.1⟩ ⟨a.2.2.1, a.2.2.2⟩
  simp only [shr] at sh
  have m1 : (m.take i).length = i := by rw [List.length_take]; omega
  have t1 : (t.take i).length = i := by rw [List.length_take]; omega
  have l2 : ∀ (x : List Int) (p q : Int), x.length = i → (x ++ [p, q]).length = i + 2 := fun x p q h => by rw [List.length_append, h]; rfl
  have m2 := fun p q => l2 (m.take i) p q m1
  have t2 := fun p q => l2 (t.take i) p q t1
  have m3 : ∀ p q : Int, (m.take i ++ [p, q] ++ m.drop (i + 1)).length = l.length + 1 := fun p q => by rw [List.length_append, m2, List.length_drop]; omega
  have t3 : ∀ p q : Int, (t.take i ++ [p, q] ++ t.drop (i + 1)).length = l.length + 1 := fun p q => by rw [List.length_append, t2, List.length_drop]; omega
  have cS := qda k (by omega) r false l i (by omega) hi (U.id hi) hv
  simp (disch := omega) only [qax, nth0, nth1, nth2, nth3, bit, qd5, qd6, qeh, qem, qen, qeo, qep, qeq, qer, qes, qd7, qd8, qd9, qea, qeb, qec, qed, qee, qef, qeg, qei, qej, qek, qel, qp7, qp6, qp8, qmi, qm3, qm4, qiw, qa3, qph, nI, qe1, qez, Bool.not_true, Bool.not_false, Bool.and_true, Bool.true_and, Bool.and_false, Bool.false_and, Bool.or_true, Bool.true_or, Bool.or_false, Bool.false_or, beq_self_eq_true, dTT, dFF, dT, dF, bigI, big0, qmh, qqv, qqw, List.length_set, List.length_replicate, Int.toNat_natCast, qd3, qd4, imax, imin, qcm, qcl, cS, ton0, Nat.sub_zero, Nat.zero_add, List.drop_zero, qpw, m1, t1, m2, t2, m3, t3]
  rw [List.append_assoc, List.append_assoc]
  rfl
theorem qcj {a : Cell} (hid : idOk a.1 a.2.1 a.2.2 = true) (hv : 1 ≤ a.2.1) (k : Nat) (hk : 2000000 ≤ k) : go (k + 3) spec_ParentOf [.agg [.int .i64 a.1, .int .i64 a.2.1, .int .i64 a.2.2]] = some [.agg [.int .i64 (par a).1, .int .i64 (par a).2.1, .int .i64 (par a).2.2], .bool true] := by
  have id := qiq.1 hid
  have hp : pow2 a.2.1 ≤ 16 := by
    rcases lev (qiu.2 id.2.1) with e | e | e | e | e <;> rw [e] <;> decide
  have e : Int.tdiv a.2.2 2 = a.2.2 / 2 := Int.tdiv_eq_ediv_of_nonneg id.2.2.1
  rw [qgt]; simp (disch := omega) only [qax, nth0, nth1, nth2, nth3, bit, qd5, qd6, qeh, qem, qen, qeo, qep, qeq, qer, qes, qd7, qd8, qd9, qea, qeb, qec, qed, qee, qef, qeg, qei, qej, qek, qel, qp7, qp6, qp8, qmi, qm3, qm4, qiw, qa3, qph, nI, qe1, qez, Bool.not_true, Bool.not_false, Bool.and_true, Bool.true_and, Bool.and_false, Bool.false_and, Bool.or_true, Bool.true_or, Bool.or_false, Bool.false_or, beq_self_eq_true, dTT, dFF, dT, dF, bigI, big0, qmh, qqv, qqw, List.length_set, List.length_replicate, Int.toNat_natCast, qd3, qd4, imax, imin, qca, hid, e]
theorem qdc (k : Nat) (hk : 2000000 ≤ k) (r : Int) (z : Bool) (l : List Cell) (h : ql2 r 0 l = true) (i : Nat) (hi : i + 1 < l.length) (hv : 1 ≤ qkg l i) :
    go (k + 4) spec_l06Merge [.agg [.int .i64 r, .arr false z (.r3 l)], .int .i64 (i : Int)] = some [.agg [.int .i64 r, .arr true false (.r3 (qly l i))]] := by
  rw [qhi]
  have L := ql7 h
  have eP := qcj ((ql6 _ _ _ h).2.2.2.1 _ (show i < l.length by omega)).2.2 hv k (by omega)
  have m1 : (l.take i).length = i := by rw [List.length_take]; omega
  have m2 : ∀ p : Cell, (l.take i ++ [p]).length = i + 1 := fun p => by rw [List.length_append, m1]; rfl
  have m3 : ∀ p : Cell, (l.take i ++ [p] ++ l.drop (i + 2)).length = l.length - 1 := fun p => by rw [List.length_append, m2, List.length_drop]; omega
  simp (disch := omega) only [qax, nth0, nth1, nth2, nth3, bit, qd5, qd6, qeh, qem, qen, qeo, qep, qeq, qer, qes, qd7, qd8, qd9, qea, qeb, qec, qed, qee, qef, qeg, qei, qej, qek, qel, qp7, qp6, qp8, qmi, qm3, qm4, qiw, qa3, qph, nI, qe1, qez, Bool.not_true, Bool.not_false, Bool.and_true, Bool.true_and, Bool.and_false, Bool.false_and, Bool.or_true, Bool.true_or, Bool.or_false, Bool.false_or, beq_self_eq_true, dTT, dFF, dT, dF, bigI, big0, qmh, qqv, qqw, List.length_set, List.length_replicate, Int.toNat_natCast, qd3, qd4, imax, imin, eP, ton0, Nat.sub_zero, Nat.zero_add, List.drop_zero, qpw, m1, m2, m3]
  rw [List.append_assoc]; rfl
theorem qdg (k : Nat) (hk : 2000000 ≤ k) (r : Int) (s : S3) (b : List Int) (U : StU r s b) (i : Nat) (hi : i + 1 < s.1.length) (hv : 1 ≤ qkg s.1 i) :
    go (k + 5) spec_l08Merge [.agg [.int .i64 (r), .arr false (false) (.r3 (s.1)), .arr false (false) (.ints .i64 (s.2.1)), .arr false (false) (.ints .i64 (s.2.2)), .arr false (false) (.ints .i64 (b))], .int .i64 (i : Int)] = some [.agg [.int .i64 (r), .arr true (false) (.r3 ((cmS s i).1)), .arr true (false) (.ints .i64 ((cmS s i).2.1)), .arr true (false) (.ints .i64 ((cmS s i).2.2)), .arr true (false) (.ints .i64 (b))]] := by
  obtain ⟨l, m, t⟩ := s
  simp only at hi hv ⊢
  rw [qhn]
  have L := U.len; have ml : m.length = l.length := U.ml; have tl : t.length = l.length := U.tl; have bl := U.bl; have rr := U.rr
  have a : 0 ≤ m.getD i 0 ∧ m.getD i 0 ≤ 10000000 ∧ 0 ≤ t.getD i 0 ∧ t.getD i 0 ≤ 1000 * m.getD i 0 := U.at i
  have a' : 0 ≤ m.getD (i + 1) 0 ∧ m.getD (i + 1) 0 ≤ 10000000 ∧ 0 ≤ t.getD (i + 1) 0 ∧ t.getD (i + 1) 0 ≤ 1000 * m.getD (i + 1) 0 := U.at (i + 1)
  simp only at L
  have eM := qdc k (by omega) r false l U.mesh i hi hv
  have m1 : (m.take i).length = i := by rw [List.length_take]; omega
  have t1 : (t.take i).length = i := by rw [List.length_take]; omega
  have m2 : ∀ p : Int, (m.take i ++ [p]).length = i + 1 := fun p => by rw [List.length_append, m1]; rfl
  have t2 : ∀ p : Int, (t.take i ++ [p]).length = i + 1 := fun p => by rw [List.length_append, t1]; rfl
  have m3 : (m.take i ++ [m.getD i 0 + m.getD (i + 1) 0] ++ m.drop (i + 2)).length + 1 = l.length := by rw [List.length_append, m2, List.length_drop]; omega
  have t3 : (t.take i ++ [t.getD i 0 + t.getD (i + 1) 0] ++ t.drop (i + 2)).length + 1 = l.length := by rw [List.length_append, t2, List.length_drop]; omega
  simp (disch := omega) only [qax, nth0, nth1, nth2, nth3, bit, qd5, qd6, qeh, qem, qen, qeo, qep, qeq, qer, qes, qd7, qd8, qd9, qea, qeb, qec, qed, qee, qef, qeg, qei, qej, qek, qel, qp7, qp6, qp8, qmi, qm3, qm4, qiw, qa3, qph, nI, qe1, qez, Bool.not_true, Bool.not_false, Bool.and_true, Bool.true_and, Bool.and_false, Bool.false_and, Bool.or_true, Bool.true_or, Bool.or_false, Bool.false_or, beq_self_eq_true, dTT, dFF, dT, dF, bigI, big0, qmh, qqv, qqw, List.length_set, List.length_replicate, Int.toNat_natCast, qd3, qd4, imax, imin, eM, ton0, Nat.sub_zero, Nat.zero_add, List.drop_zero, qpw, m1, m2, t1, t2]
  rw [List.append_assoc, List.append_assoc]
  rfl
end Go.Proofs.YtjfjniebmdafeaaGreatDoor
end
section
namespace Go.Proofs.YtjfjniebmdafeaaGreatDoor
open Go.Ev
set_option maxRecDepth 20000
theorem qcd {a b : Cell} (ha : idOk a.1 a.2.1 a.2.2 = true) (hb : idOk b.1 b.2.1 b.2.2 = true) (k : Nat) (hk : 2000000 ≤ k) : go (k + 3) spec_IsSibling [.agg [.int .i64 a.1, .int .i64 a.2.1, .int .i64 a.2.2], .agg [.int .i64 b.1, .int .i64 b.2.1, .int .i64 b.2.2]] = some [.bool (sib a b)] := by
  have ia := qiq.1 ha; have ib := qiq.1 hb
  have pa : pow2 a.2.1 ≤ 16 := by
    rcases lev (qiu.2 ia.2.1) with e | e | e | e | e <;> rw [e] <;> decide
  have ea : Int.tmod a.2.2 2 = a.2.2 % 2 := Int.tmod_eq_emod_of_nonneg ia.2.2.1
  have da : Int.tdiv a.2.2 2 = a.2.2 / 2 := Int.tdiv_eq_ediv_of_nonneg ia.2.2.1
  have db : Int.tdiv b.2.2 2 = b.2.2 / 2 := Int.tdiv_eq_ediv_of_nonneg ib.2.2.1
  have pb : pow2 b.2.1 ≤ 16 := by
    rcases lev (qiu.2 ib.2.1) with e | e | e | e | e <;> rw [e] <;> decide
  rw [qgn]
  simp (disch := omega) only [qax, nth0, nth1, nth2, nth3, bit, qd5, qd6, qeh, qem, qen, qeo, qep, qeq, qer, qes, qd7, qd8, qd9, qea, qeb, qec, qed, qee, qef, qeg, qei, qej, qek, qel, qp7, qp6, qp8, qmi, qm3, qm4, qiw, qa3, qph, nI, qe1, qez, Bool.not_true, Bool.not_false, Bool.and_true, Bool.true_and, Bool.and_false, Bool.false_and, Bool.or_true, Bool.true_or, Bool.or_false, Bool.false_or, beq_self_eq_true, dTT, dFF, dT, dF, bigI, big0, qmh, qqv, qqw, List.length_set, List.length_replicate, Int.toNat_natCast, qd3, qd4, imax, imin, qca, ha, hb, ea]
  unfold sib
  rw [ha, hb]
  by_cases h1 : a.1 = b.1
  · by_cases h2 : a.2.1 = b.2.1
    · by_cases h3 : a.2.2 % 2 = 0
      · simp (disch := omega) only [qax, nth0, nth1, nth2, nth3, bit, qd5, qd6, qeh, qem, qen, qeo, qep, qeq, qer, qes, qd7, qd8, qd9, qea, qeb, qec, qed, qee, qef, qeg, qei, qej, qek, qel, qp7, qp6, qp8, qmi, qm3, qm4, qiw, qa3, qph, nI, qe1, qez, Bool.not_true, Bool.not_false, Bool.and_true, Bool.true_and, Bool.and_false, Bool.false_and, Bool.or_true, Bool.true_or, Bool.or_false, Bool.false_or, beq_self_eq_true, dTT, dFF, dT, dF, bigI, big0, qmh, qqv, qqw, List.length_set, List.length_replicate, Int.toNat_natCast, qd3, qd4, imax, imin]
      · simp (disch := omega) only [qax, nth0, nth1, nth2, nth3, bit, qd5, qd6, qeh, qem, qen, qeo, qep, qeq, qer, qes, qd7, qd8, qd9, qea, qeb, qec, qed, qee, qef, qeg, qei, qej, qek, qel, qp7, qp6, qp8, qmi, qm3, qm4, qiw, qa3, qph, nI, qe1, qez, Bool.not_true, Bool.not_false, Bool.and_true, Bool.true_and, Bool.and_false, Bool.false_and, Bool.or_true, Bool.true_or, Bool.or_false, Bool.false_or, beq_self_eq_true, dTT, dFF, dT, dF, bigI, big0, qmh, qqv, qqw, List.length_set, List.length_replicate, Int.toNat_natCast, qd3, qd4, imax, imin]
    · simp (disch := omega) only [qax, nth0, nth1, nth2, nth3, bit, qd5, qd6, qeh, qem, qen, qeo, qep, qeq, qer, qes, qd7, qd8, qd9, qea, qeb, qec, qed, qee, qef, qeg, qei, qej, qek, qel, qp7, qp6, qp8, qmi, qm3, qm4, qiw, qa3, qph, nI, qe1, qez, Bool.not_true, Bool.not_false, Bool.and_true, Bool.true_and, Bool.and_false, Bool.false_and, Bool.or_true, Bool.true_or, Bool.or_false, Bool.false_or, beq_self_eq_true, dTT, dFF, dT, dF, bigI, big0, qmh, qqv, qqw, List.length_set, List.length_replicate, Int.toNat_natCast, qd3, qd4, imax, imin]
  · simp (disch := omega) only [qax, nth0, nth1, nth2, nth3, bit, qd5, qd6, qeh, qem, qen, qeo, qep, qeq, qer, qes, qd7, qd8, qd9, qea, qeb, qec, qed, qee, qef, qeg, qei, qej, qek, qel, qp7, qp6, qp8, qmi, qm3, qm4, qiw, qa3, qph, nI, qe1, qez, Bool.not_true, Bool.not_false, Bool.and_true, Bool.true_and, Bool.and_false, Bool.false_and, Bool.or_true, Bool.true_or, Bool.or_false, Bool.false_or, beq_self_eq_true, dTT, dFF, dT, dF, bigI, big0, qmh, qqv, qqw, List.length_set, List.length_replicate, Int.toNat_natCast, qd3, qd4, imax, imin]
theorem qdb (k : Nat) (hk : 2000000 ≤ k) (r : Int) (z : Bool) (l : List Cell) (h : ql2 r 0 l = true) (i : Nat) (hi : i + 1 < l.length) :
    go (k + 4) spec_l06May [.agg [.int .i64 r, .arr false z (.r3 l)], .int .i64 (i : Int)] = some [.bool (mayC l i)] := by
  rw [qhh]
  have L := ql7 h
  have id := fun j (hj : j < l.length) => ((ql6 _ _ _ h).2.2.2.1 _ hj).2.2
  have eS := qcd (id i (by omega)) (id (i + 1) hi) k (by omega)
  unfold mayC
  simp (disch := omega) only [qax, nth0, nth1, nth2, nth3, bit, qd5, qd6, qeh, qem, qen, qeo, qep, qeq, qer, qes, qd7, qd8, qd9, qea, qeb, qec, qed, qee, qef, qeg, qei, qej, qek, qel, qp7, qp6, qp8, qmi, qm3, qm4, qiw, qa3, qph, nI, qe1, qez, Bool.not_true, Bool.not_false, Bool.and_true, Bool.true_and, Bool.and_false, Bool.false_and, Bool.or_true, Bool.true_or, Bool.or_false, Bool.false_or, beq_self_eq_true, dTT, dFF, dT, dF, bigI, big0, qmh, qqv, qqw, List.length_set, List.length_replicate, Int.toNat_natCast, qd3, qd4, imax, imin, eS]
  cases sib (l.getD i zz3) (l.getD (i + 1) zz3)
  · simp (disch := omega) only [qax, nth0, nth1, nth2, nth3, bit, qd5, qd6, qeh, qem, qen, qeo, qep, qeq, qer, qes, qd7, qd8, qd9, qea, qeb, qec, qed, qee, qef, qeg, qei, qej, qek, qel, qp7, qp6, qp8, qmi, qm3, qm4, qiw, qa3, qph, nI, qe1, qez, Bool.not_true, Bool.not_false, Bool.and_true, Bool.true_and, Bool.and_false, Bool.false_and, Bool.or_true, Bool.true_or, Bool.or_false, Bool.false_or, beq_self_eq_true, dTT, dFF, dT, dF, bigI, big0, qmh, qqv, qqw, List.length_set, List.length_replicate, Int.toNat_natCast, qd3, qd4, imax, imin]
  by_cases h0 : i = 0
  · subst h0
    by_cases h1 : l.length ≤ 2
    · simp (disch := omega) only [qax, nth0, nth1, nth2, nth3, bit, qd5, qd6, qeh, qem, qen, qeo, qep, qeq, qer, qes, qd7, qd8, qd9, qea, qeb, qec, qed, qee, qef, qeg, qei, qej, qek, qel, qp7, qp6, qp8, qmi, qm3, qm4, qiw, qa3, qph, nI, qe1, qez, Bool.not_true, Bool.not_false, Bool.and_true, Bool.true_and, Bool.and_false, Bool.false_and, Bool.or_true, Bool.true_or, Bool.or_false, Bool.false_or, beq_self_eq_true, dTT, dFF, dT, dF, bigI, big0, qmh, qqv, qqw, List.length_set, List.length_replicate, Int.toNat_natCast, qd3, qd4, imax, imin]
    · simp only [qkg]
      simp (disch := omega) only [qax, nth0, nth1, nth2, nth3, bit, qd5, qd6, qeh, qem, qen, qeo, qep, qeq, qer, qes, qd7, qd8, qd9, qea, qeb, qec, qed, qee, qef, qeg, qei, qej, qek, qel, qp7, qp6, qp8, qmi, qm3, qm4, qiw, qa3, qph, nI, qe1, qez, Bool.not_true, Bool.not_false, Bool.and_true, Bool.true_and, Bool.and_false, Bool.false_and, Bool.or_true, Bool.true_or, Bool.or_false, Bool.false_or, beq_self_eq_true, dTT, dFF, dT, dF, bigI, big0, qmh, qqv, qqw, List.length_set, List.length_replicate, Int.toNat_natCast, qd3, qd4, imax, imin, Nat.zero_add]
  · by_cases h1 : l.length ≤ i + 2
    · simp only [qkg]
      by_cases h2 : (l.getD (i - 1) zz3).2.1 ≤ (l.getD i zz3).2.1
      · simp (disch := omega) only [qax, nth0, nth1, nth2, nth3, bit, qd5, qd6, qeh, qem, qen, qeo, qep, qeq, qer, qes, qd7, qd8, qd9, qea, qeb, qec, qed, qee, qef, qeg, qei, qej, qek, qel, qp7, qp6, qp8, qmi, qm3, qm4, qiw, qa3, qph, nI, qe1, qez, Bool.not_true, Bool.not_false, Bool.and_true, Bool.true_and, Bool.and_false, Bool.false_and, Bool.or_true, Bool.true_or, Bool.or_false, Bool.false_or, beq_self_eq_true, dTT, dFF, dT, dF, bigI, big0, qmh, qqv, qqw, List.length_set, List.length_replicate, Int.toNat_natCast, qd3, qd4, imax, imin, qd2]
      · simp (disch := omega) only [qax, nth0, nth1, nth2, nth3, bit, qd5, qd6, qeh, qem, qen, qeo, qep, qeq, qer, qes, qd7, qd8, qd9, qea, qeb, qec, qed, qee, qef, qeg, qei, qej, qek, qel, qp7, qp6, qp8, qmi, qm3, qm4, qiw, qa3, qph, nI, qe1, qez, Bool.not_true, Bool.not_false, Bool.and_true, Bool.true_and, Bool.and_false, Bool.false_and, Bool.or_true, Bool.true_or, Bool.or_false, Bool.false_or, beq_self_eq_true, dTT, dFF, dT, dF, bigI, big0, qmh, qqv, qqw, List.length_set, List.length_replicate, Int.toNat_natCast, qd3, qd4, imax, imin, qd2]
    · simp only [qkg]
      by_cases h2 : (l.getD (i - 1) zz3).2.1 ≤ (l.getD i zz3).2.1
      · simp (disch := omega) only [qax, nth0, nth1, nth2, nth3, bit, qd5, qd6, qeh, qem, qen, qeo, qep, qeq, qer, qes, qd7, qd8, qd9, qea, qeb, qec, qed, qee, qef, qeg, qei, qej, qek, qel, qp7, qp6, qp8, qmi, qm3, qm4, qiw, qa3, qph, nI, qe1, qez, Bool.not_true, Bool.not_false, Bool.and_true, Bool.true_and, Bool.and_false, Bool.false_and, Bool.or_true, Bool.true_or, Bool.or_false, Bool.false_or, beq_self_eq_true, dTT, dFF, dT, dF, bigI, big0, qmh, qqv, qqw, List.length_set, List.length_replicate, Int.toNat_natCast, qd3, qd4, imax, imin, qd2]
      · simp (disch := omega) only [qax, nth0, nth1, nth2, nth3, bit, qd5, qd6, qeh, qem, qen, qeo, qep, qeq, qer, qes, qd7, qd8, qd9, qea, qeb, qec, qed, qee, qef, qeg, qei, qej, qek, qel, qp7, qp6, qp8, qmi, qm3, qm4, qiw, qa3, qph, nI, qe1, qez, Bool.not_true, Bool.not_false, Bool.and_true, Bool.true_and, Bool.and_false, Bool.false_and, Bool.or_true, Bool.true_or, Bool.or_false, Bool.false_or, beq_self_eq_true, dTT, dFF, dT, dF, bigI, big0, qmh, qqv, qqw, List.length_set, List.length_replicate, Int.toNat_natCast, qd3, qd4, imax, imin, qd2]
theorem qlm (k : Nat) (hk : 2000000 ≤ k) (fu : List (Nat × Nat)) (z10 : Bool) (l11 : List Cell) (z12 : Bool) (l13 : List Int) (z14 : Bool) (l15 : List Int) (z16 : Bool) (l17 : List Int) (x18 : Int) (r : Int) (b : List Int) : ∀ (N n : Nat) (s : S3), N < n → StU r s b → 129 ≤ N + s.1.length →
    lp (k + 5) spec_l08Level [] fu 2 (n) (qn6 (unb s.1) false s.1 false s.2.1 false s.2.2 false b r z10 l11 z12 l13 z14 l15 z16 l17 x18) = some [.agg [.int .i64 (r), .arr true (false) (.r3 ((lvS N s).1)), .arr true (false) (.ints .i64 ((lvS N s).2.1)), .arr true (false) (.ints .i64 ((lvS N s).2.2)), .arr true (false) (.ints .i64 (b))]]
  | N, 0, s, hn, U, hN => by omega
  | 0, n + 1, s, hn, U, hN => by have := U.len; omega
  | N + 1, n + 1, s, hn, U, hN => by
    rw [qjz]
    have L := U.len
    unfold lvS
    by_cases g : unb s.1 < 0
    · rw [if_pos g]; simp (disch := omega) only [qax, nth0, nth1, nth2, nth3, bit, qd5, qd6, qeh, qem, qen, qeo, qep, qeq, qer, qes, qd7, qd8, qd9, qea, qeb, qec, qed, qee, qef, qeg, qei, qej, qek, qel, qp7, qp6, qp8, qmi, qm3, qm4, qiw, qa3, qph, nI, qe1, qez, Bool.not_true, Bool.not_false, Bool.and_true, Bool.true_and, Bool.and_false, Bool.false_and, Bool.or_true, Bool.true_or, Bool.or_false, Bool.false_or, beq_self_eq_true, dTT, dFF, dT, dF, bigI, big0, qmh, qqv, qqw, List.length_set, List.length_replicate, Int.toNat_natCast, qd3, qd4, imax, imin]
    · rw [if_neg g]
      obtain ⟨j, e, h1, h2⟩ := qqb (by omega : 0 ≤ unb s.1)
      have c := qex U.mesh h1 h2
      rw [e, Int.toNat_natCast]
      have U' := rf_U U c.1 c.2
      have L' := U'.len
      have IH := qlm k hk fu z10 l11 z12 l13 z14 l15 z16 l17 x18 r b N n _ (by omega) U' (by show 129 ≤ N + (qoy s.1 _).length; rw [qoz c.1]; omega)
      have eC := qc6 (k + 4) (by omega) r false s.1 j (by omega) h1
      have eR := qdh k (by omega) r s b U (qew s.1 j) c.1 c.2
      have eT := qc8 (k + 4) (by omega) r false (rfS s (qew s.1 j)).1 (by omega) (ql8 _ _ _ U'.mesh)
      simp (disch := omega) only [qax, nth0, nth1, nth2, nth3, bit, qd5, qd6, qeh, qem, qen, qeo, qep, qeq, qer, qes, qd7, qd8, qd9, qea, qeb, qec, qed, qee, qef, qeg, qei, qej, qek, qel, qp7, qp6, qp8, qmi, qm3, qm4, qiw, qa3, qph, nI, qe1, qez, Bool.not_true, Bool.not_false, Bool.and_true, Bool.true_and, Bool.and_false, Bool.false_and, Bool.or_true, Bool.true_or, Bool.or_false, Bool.false_or, beq_self_eq_true, dTT, dFF, dT, dF, bigI, big0, qmh, qqv, qqw, List.length_set, List.length_replicate, Int.toNat_natCast, qd3, qd4, imax, imin, eC, eR, eT, IH]
theorem qdx (k : Nat) (hk : 2000000 ≤ k) (r : Int) (s : S3) (b : List Int) (U : StU r s b) : go (k + 6) spec_l08Level [.agg [.int .i64 (r), .arr true (false) (.r3 (s.1)), .arr true (false) (.ints .i64 (s.2.1)), .arr true (false) (.ints .i64 (s.2.2)), .arr true (false) (.ints .i64 (b))]] = some [.agg [.int .i64 (r), .arr true (false) (.r3 ((lvS 128 s).1)), .arr true (false) (.ints .i64 ((lvS 128 s).2.1)), .arr true (false) (.ints .i64 ((lvS 128 s).2.2)), .arr true (false) (.ints .i64 (b))]] := by
  rw [qhm]
  have L := U.len
  have eT := qc8 (k + 4) (by omega) r false s.1 (by omega) (ql8 _ _ _ U.mesh)
  simp (disch := omega) only [qax, nth0, nth1, nth2, nth3, bit, qd5, qd6, qeh, qem, qen, qeo, qep, qeq, qer, qes, qd7, qd8, qd9, qea, qeb, qec, qed, qee, qef, qeg, qei, qej, qek, qel, qp7, qp6, qp8, qmi, qm3, qm4, qiw, qa3, qph, nI, qe1, qez, Bool.not_true, Bool.not_false, Bool.and_true, Bool.true_and, Bool.and_false, Bool.false_and, Bool.or_true, Bool.true_or, Bool.or_false, Bool.false_or, beq_self_eq_true, dTT, dFF, dT, dF, bigI, big0, qmh, qqv, qqw, List.length_set, List.length_replicate, Int.toNat_natCast, qd3, qd4, imax, imin, eT]
  exact qlm k hk [] _ _ _ _ _ _ _ _ _ r b 128 _ s (by omega) U (by omega)
end Go.Proofs.YtjfjniebmdafeaaGreatDoor
end
section
namespace Go.Proofs.YtjfjniebmdafeaaGreatDoor
open Go.Ev
set_option maxRecDepth 20000
def jmp (l : List Cell) (m b : List Int) (i : Nat) : Int := max (if 0 < i then gap (surf l m b i) (surf l m b (i - 1)) else 0) (if i + 1 < l.length then gap (surf l m b i) (surf l m b (i + 1)) else 0)
theorem qin (a b : Int) : 0 ≤ gap a b := by unfold gap; split <;> omega
theorem qdp (k : Nat) (hk : 2000000 ≤ k) (r : Int) (z1 z2 z3 z4 : Bool) (l : List Cell) (m t b : List Int) (F : StF r l m t b) (i : Nat) (hi : i < l.length) :
    go (k + 2) spec_l16Jump [.agg [.int .i64 (r), .arr false (z1) (.r3 (l)), .arr false (z2) (.ints .i64 (m)), .arr false (z3) (.ints .i64 (t)), .arr false (z4) (.ints .i64 (b))], .int .i64 (i : Int)] = some [.int .i64 (jmp l m b i)] := by
  rw [qh0]
  have L := F.len; have ml := F.ml
  have s0 := qpo F i; have s1 := qpo F (i - 1); have s2 := qpo F (i + 1)
  have g1 := qin (surf l m b i) (surf l m b (i - 1)); have g2 := qin (surf l m b i) (surf l m b (i + 1))
  have e0 := qdl k (by omega) r z1 z2 z3 z4 l m t b F i hi
  unfold jmp
  by_cases h0 : 0 < i
  · have ci : (i : Int) - 1 = ((i - 1 : Nat) : Int) := by omega
    have e1 := qdl k (by omega) r z1 z2 z3 z4 l m t b F (i - 1) (by omega)
    rw [if_pos h0]
    by_cases h1 : i + 1 < l.length
    · have e2 := qdl k (by omega) r z1 z2 z3 z4 l m t b F (i + 1) (by omega)
      rw [if_pos h1]
      simp (disch := omega) only [qax, nth0, nth1, nth2, nth3, bit, qd5, qd6, qeh, qem, qen, qeo, qep, qeq, qer, qes, qd7, qd8, qd9, qea, qeb, qec, qed, qee, qef, qeg, qei, qej, qek, qel, qp7, qp6, qp8, qmi, qm3, qm4, qiw, qa3, qph, nI, qe1, qez, Bool.not_true, Bool.not_false, Bool.and_true, Bool.true_and, Bool.and_false, Bool.false_and, Bool.or_true, Bool.true_or, Bool.or_false, Bool.false_or, beq_self_eq_true, dTT, dFF, dT, dF, bigI, big0, qmh, qqv, qqw, List.length_set, List.length_replicate, Int.toNat_natCast, qd3, qd4, imax, imin, e0, e1, e2, ci, qdj]
      rw [show ∀ x y : Int, max x y = max y x from fun x y => by omega]
    · rw [if_neg h1]
      simp (disch := omega) only [qax, nth0, nth1, nth2, nth3, bit, qd5, qd6, qeh, qem, qen, qeo, qep, qeq, qer, qes, qd7, qd8, qd9, qea, qeb, qec, qed, qee, qef, qeg, qei, qej, qek, qel, qp7, qp6, qp8, qmi, qm3, qm4, qiw, qa3, qph, nI, qe1, qez, Bool.not_true, Bool.not_false, Bool.and_true, Bool.true_and, Bool.and_false, Bool.false_and, Bool.or_true, Bool.true_or, Bool.or_false, Bool.false_or, beq_self_eq_true, dTT, dFF, dT, dF, bigI, big0, qmh, qqv, qqw, List.length_set, List.length_replicate, Int.toNat_natCast, qd3, qd4, imax, imin, e0, e1, ci, qdj]
      rw [show max (gap (surf l m b i) (surf l m b (i - 1))) 0 = gap (surf l m b i) (surf l m b (i - 1)) by omega]
  · rw [if_neg h0]
    by_cases h1 : i + 1 < l.length
    · have e2 := qdl k (by omega) r z1 z2 z3 z4 l m t b F (i + 1) (by omega)
      rw [if_pos h1]
      simp (disch := omega) only [qax, nth0, nth1, nth2, nth3, bit, qd5, qd6, qeh, qem, qen, qeo, qep, qeq, qer, qes, qd7, qd8, qd9, qea, qeb, qec, qed, qee, qef, qeg, qei, qej, qek, qel, qp7, qp6, qp8, qmi, qm3, qm4, qiw, qa3, qph, nI, qe1, qez, Bool.not_true, Bool.not_false, Bool.and_true, Bool.true_and, Bool.and_false, Bool.false_and, Bool.or_true, Bool.true_or, Bool.or_false, Bool.false_or, beq_self_eq_true, dTT, dFF, dT, dF, bigI, big0, qmh, qqv, qqw, List.length_set, List.length_replicate, Int.toNat_natCast, qd3, qd4, imax, imin, e0, e2, qdj]
      rw [show ∀ x y : Int, max x y = max y x from fun x y => by omega]
    · rw [if_neg h1]
      simp (disch := omega) only [qax, nth0, nth1, nth2, nth3, bit, qd5, qd6, qeh, qem, qen, qeo, qep, qeq, qer, qes, qd7, qd8, qd9, qea, qeb, qec, qed, qee, qef, qeg, qei, qej, qek, qel, qp7, qp6, qp8, qmi, qm3, qm4, qiw, qa3, qph, nI, qe1, qez, Bool.not_true, Bool.not_false, Bool.and_true, Bool.true_and, Bool.and_false, Bool.false_and, Bool.or_true, Bool.true_or, Bool.or_false, Bool.false_or, beq_self_eq_true, dTT, dFF, dT, dF, bigI, big0, qmh, qqv, qqw, List.length_set, List.length_replicate, Int.toNat_natCast, qd3, qd4, imax, imin]
      rfl
def wsh (l : List Cell) (m b : List Int) (hi lo : Int) (i : Nat) : Int := if hi < jmp l m b i ∧ qkg l i < 4 then 1 else if jmp l m b i < lo ∧ 0 < qkg l i then -1 else 0
theorem qpu (n : Nat) (g : Nat → Int) : tab (n + 1) g = tab n g ++ [g n] := by
  unfold tab; rw [List.range_succ, List.map_append]; rfl
theorem qi9 {r : Int} {l : List Cell} {m t b : List Int} (F : StF r l m t b) (i : Nat) : 0 ≤ jmp l m b i ∧ jmp l m b i ≤ 161000000 := by
  have s0 := qpo F i; have s1 := qpo F (i - 1); have s2 := qpo F (i + 1)
  unfold jmp gap
  by_cases h0 : 0 < i
  · rw [if_pos h0]
    by_cases h1 : i + 1 < l.length
    · rw [if_pos h1]; omega
    · rw [if_neg h1]; omega
  · rw [if_neg h0]
    by_cases h1 : i + 1 < l.length
    · rw [if_pos h1]; omega
    · rw [if_neg h1]; omega
theorem qle (k : Nat) (hk : 2000000 ≤ k) (fu : List (Nat × Nat)) (hi lo r : Int) (z1 z2 z3 z4 : Bool) (l : List Cell) (m t b : List Int) (F : StF r l m t b) : ∀ (N i : Nat), i ≤ l.length → l.length - i < N →
    lp (k + 2) spec_l16Wishes [] fu 3 (N) (qoc hi lo (i : Int) z1 l z2 m z3 t z4 b r false (tab i (wsh l m b hi lo))) = some [.arr true false (.ints .i64 (tab l.length (wsh l m b hi lo)))]
  | 0, i, hl, hN => by omega
  | N + 1, i, hl, hN => by
    rw [qj5]
    have L := F.len; have ml := F.ml
    by_cases g : i < l.length
    · have IH := qle k hk fu hi lo r z1 z2 z3 z4 l m t b F N (i + 1) (by omega) (by omega)
      have eJ := qdp k (by omega) r z1 z2 z3 z4 l m t b F i g
      have la : ∀ x : Int, (tab i (wsh l m b hi lo) ++ [x]).length = i + 1 := fun x => by rw [List.length_append, qpr]; rfl
      rw [qpu] at IH
      have jb := qi9 F i
      simp only [wsh, qkg] at IH
      by_cases h1 : hi < jmp l m b i
      · by_cases h2 : (l.getD i zz3).2.1 < 4
        · rw [if_pos ⟨h1, h2⟩] at IH; simp (disch := omega) only [qax, nth0, nth1, nth2, nth3, bit, qd5, qd6, qeh, qem, qen, qeo, qep, qeq, qer, qes, qd7, qd8, qd9, qea, qeb, qec, qed, qee, qef, qeg, qei, qej, qek, qel, qp7, qp6, qp8, qmi, qm3, qm4, qiw, qa3, qph, nI, qe1, qez, Bool.not_true, Bool.not_false, Bool.and_true, Bool.true_and, Bool.and_false, Bool.false_and, Bool.or_true, Bool.true_or, Bool.or_false, Bool.false_or, beq_self_eq_true, dTT, dFF, dT, dF, bigI, big0, qmh, qqv, qqw, List.length_set, List.length_replicate, Int.toNat_natCast, qd3, qd4, imax, imin, eJ, la, IH]
        · rw [if_neg (fun h => h2 h.2)] at IH
          by_cases h3 : jmp l m b i < lo
          · have h4 : 0 < (l.getD i zz3).2.1 := by omega
            rw [if_pos ⟨h3, h4⟩] at IH; simp (disch := omega) only [qax, nth0, nth1, nth2, nth3, bit, qd5, qd6, qeh, qem, qen, qeo, qep, qeq, qer, qes, qd7, qd8, qd9, qea, qeb, qec, qed, qee, qef, qeg, qei, qej, qek, qel, qp7, qp6, qp8, qmi, qm3, qm4, qiw, qa3, qph, nI, qe1, qez, Bool.not_true, Bool.not_false, Bool.and_true, Bool.true_and, Bool.and_false, Bool.false_and, Bool.or_true, Bool.true_or, Bool.or_false, Bool.false_or, beq_self_eq_true, dTT, dFF, dT, dF, bigI, big0, qmh, qqv, qqw, List.length_set, List.length_replicate, Int.toNat_natCast, qd3, qd4, imax, imin, eJ, la, IH]
          · rw [if_neg (fun h => h3 h.1)] at IH; simp (disch := omega) only [qax, nth0, nth1, nth2, nth3, bit, qd5, qd6, qeh, qem, qen, qeo, qep, qeq, qer, qes, qd7, qd8, qd9, qea, qeb, qec, qed, qee, qef, qeg, qei, qej, qek, qel, qp7, qp6, qp8, qmi, qm3, qm4, qiw, qa3, qph, nI, qe1, qez, Bool.not_true, Bool.not_false, Bool.and_true, Bool.true_and, Bool.and_false, Bool.false_and, Bool.or_true, Bool.true_or, Bool.or_false, Bool.false_or, beq_self_eq_true, dTT, dFF, dT, dF, bigI, big0, qmh, qqv, qqw, List.length_set, List.length_replicate, Int.toNat_natCast, qd3, qd4, imax, imin, eJ, la, IH]
      · rw [if_neg (fun h => h1 h.1)] at IH
        by_cases h3 : jmp l m b i < lo
        · by_cases h4 : 0 < (l.getD i zz3).2.1
          · rw [if_pos ⟨h3, h4⟩] at IH; simp (disch := omega) only [qax, nth0, nth1, nth2, nth3, bit, qd5, qd6, qeh, qem, qen, qeo, qep, qeq, qer, qes, qd7, qd8, qd9, qea, qeb, qec, qed, qee, qef, qeg, qei, qej, qek, qel, qp7, qp6, qp8, qmi, qm3, qm4, qiw, qa3, qph, nI, qe1, qez, Bool.not_true, Bool.not_false, Bool.and_true, Bool.true_and, Bool.and_false, Bool.false_and, Bool.or_true, Bool.true_or, Bool.or_false, Bool.false_or, beq_self_eq_true, dTT, dFF, dT, dF, bigI, big0, qmh, qqv, qqw, List.length_set, List.length_replicate, Int.toNat_natCast, qd3, qd4, imax, imin, eJ, la, IH]
          · rw [if_neg (fun h => h4 h.2)] at IH; simp (disch := omega) only [qax, nth0, nth1, nth2, nth3, bit, qd5, qd6, qeh, qem, qen, qeo, qep, qeq, qer, qes, qd7, qd8, qd9, qea, qeb, qec, qed, qee, qef, qeg, qei, qej, qek, qel, qp7, qp6, qp8, qmi, qm3, qm4, qiw, qa3, qph, nI, qe1, qez, Bool.not_true, Bool.not_false, Bool.and_true, Bool.true_and, Bool.and_false, Bool.false_and, Bool.or_true, Bool.true_or, Bool.or_false, Bool.false_or, beq_self_eq_true, dTT, dFF, dT, dF, bigI, big0, qmh, qqv, qqw, List.length_set, List.length_replicate, Int.toNat_natCast, qd3, qd4, imax, imin, eJ, la, IH]
        · rw [if_neg (fun h => h3 h.1)] at IH; simp (disch := omega) only [qax, nth0, nth1, nth2, nth3, bit, qd5, qd6, qeh, qem, qen, qeo, qep, qeq, qer, qes, qd7, qd8, qd9, qea, qeb, qec, qed, qee, qef, qeg, qei, qej, qek, qel, qp7, qp6, qp8, qmi, qm3, qm4, qiw, qa3, qph, nI, qe1, qez, Bool.not_true, Bool.not_false, Bool.and_true, Bool.true_and, Bool.and_false, Bool.false_and, Bool.or_true, Bool.true_or, Bool.or_false, Bool.false_or, beq_self_eq_true, dTT, dFF, dT, dF, bigI, big0, qmh, qqv, qqw, List.length_set, List.length_replicate, Int.toNat_natCast, qd3, qd4, imax, imin, eJ, la, IH]
    · simp (disch := omega) only [qax, nth0, nth1, nth2, nth3, bit, qd5, qd6, qeh, qem, qen, qeo, qep, qeq, qer, qes, qd7, qd8, qd9, qea, qeb, qec, qed, qee, qef, qeg, qei, qej, qek, qel, qp7, qp6, qp8, qmi, qm3, qm4, qiw, qa3, qph, nI, qe1, qez, Bool.not_true, Bool.not_false, Bool.and_true, Bool.true_and, Bool.and_false, Bool.false_and, Bool.or_true, Bool.true_or, Bool.or_false, Bool.false_or, beq_self_eq_true, dTT, dFF, dT, dF, bigI, big0, qmh, qqv, qqw, List.length_set, List.length_replicate, Int.toNat_natCast, qd3, qd4, imax, imin]
      rw [show i = l.length by omega]
theorem qcr (k : Nat) (hk : 2000000 ≤ k) (hi lo r : Int) (z1 z2 z3 z4 : Bool) (l : List Cell) (m t b : List Int) (F : StF r l m t b) :
    go (k + 3) spec_l16Wishes [.agg [.int .i64 (r), .arr false (z1) (.r3 (l)), .arr false (z2) (.ints .i64 (m)), .arr false (z3) (.ints .i64 (t)), .arr false (z4) (.ints .i64 (b))], .int .i64 hi, .int .i64 lo] = some [.arr true false (.ints .i64 (tab l.length (wsh l m b hi lo)))] := by
  rw [qh1]
  have L := F.len
  exact qle k hk [] hi lo r z1 z2 z3 z4 l m t b F _ 0 (by omega) (by omega)
end Go.Proofs.YtjfjniebmdafeaaGreatDoor
end
section
namespace Go.Proofs.YtjfjniebmdafeaaGreatDoor
open Go.Ev
set_option maxRecDepth 20000
def qkk (x : Cell) : List Cell → Nat → Int
  | [], _ => -1
  | y :: r, i => if y = x then (i : Int) else qkk x r (i + 1)
def lof (l : List Cell) (x : Cell) : Int := qkk x l 0
theorem qk7 (k : Nat) (hk : 2000000 ≤ k) (fu : List (Nat × Nat)) (r : Int) (z : Bool) (l : List Cell) (x : Cell) (hl : l.length ≤ 1048576) : ∀ (N i : Nat), i ≤ l.length → l.length - i < N →
    lp k spec_LeafOf [] fu 2 (N) (qnw (i : Int) z l r x.1 x.2.1 x.2.2) = some [.int .i64 (qkk x (l.drop i) i)]
  | 0, i, hi, hN => by omega
  | N + 1, i, hi, hN => by
    rw [qjp]
    by_cases g : i < l.length
    · have IH := qk7 k hk fu r z l x hl N (i + 1) (by omega) (by omega)
      rw [qfe g zz3, qkk]
      by_cases h : l.getD i zz3 = x
      · rw [if_pos h]; simp (disch := omega) only [qax, nth0, nth1, nth2, nth3, bit, qd5, qd6, qeh, qem, qen, qeo, qep, qeq, qer, qes, qd7, qd8, qd9, qea, qeb, qec, qed, qee, qef, qeg, qei, qej, qek, qel, qp7, qp6, qp8, qmi, qm3, qm4, qiw, qa3, qph, nI, qe1, qez, Bool.not_true, Bool.not_false, Bool.and_true, Bool.true_and, Bool.and_false, Bool.false_and, Bool.or_true, Bool.true_or, Bool.or_false, Bool.false_or, beq_self_eq_true, dTT, dFF, dT, dF, bigI, big0, qmh, qqv, qqw, List.length_set, List.length_replicate, Int.toNat_natCast, qd3, qd4, imax, imin, h]
      · rw [if_neg h]
        have : (decide ((l.getD i zz3).1 = x.1) && (decide ((l.getD i zz3).2.1 = x.2.1) && decide ((l.getD i zz3).2.2 = x.2.2))) = false := by
          rw [← Bool.not_eq_true]
          intro e
          simp only [Bool.and_eq_true, decide_eq_true_eq] at e
          exact h (Prod.ext e.1 (Prod.ext e.2.1 e.2.2))
        simp (disch := omega) only [qax, nth0, nth1, nth2, nth3, bit, qd5, qd6, qeh, qem, qen, qeo, qep, qeq, qer, qes, qd7, qd8, qd9, qea, qeb, qec, qed, qee, qef, qeg, qei, qej, qek, qel, qp7, qp6, qp8, qmi, qm3, qm4, qiw, qa3, qph, nI, qe1, qez, Bool.not_true, Bool.not_false, Bool.and_true, Bool.true_and, Bool.and_false, Bool.false_and, Bool.or_true, Bool.true_or, Bool.or_false, Bool.false_or, beq_self_eq_true, dTT, dFF, dT, dF, bigI, big0, qmh, qqv, qqw, List.length_set, List.length_replicate, Int.toNat_natCast, qd3, qd4, imax, imin, this, IH]
    · rw [List.drop_of_length_le (by omega)]; simp (disch := omega) only [qax, nth0, nth1, nth2, nth3, bit, qd5, qd6, qeh, qem, qen, qeo, qep, qeq, qer, qes, qd7, qd8, qd9, qea, qeb, qec, qed, qee, qef, qeg, qei, qej, qek, qel, qp7, qp6, qp8, qmi, qm3, qm4, qiw, qa3, qph, nI, qe1, qez, Bool.not_true, Bool.not_false, Bool.and_true, Bool.true_and, Bool.and_false, Bool.false_and, Bool.or_true, Bool.true_or, Bool.or_false, Bool.false_or, beq_self_eq_true, dTT, dFF, dT, dF, bigI, big0, qmh, qqv, qqw, List.length_set, List.length_replicate, Int.toNat_natCast, qd3, qd4, imax, imin]; rfl
theorem qcf (k : Nat) (hk : 2000000 ≤ k) (r : Int) (z : Bool) (l : List Cell) (x : Cell) (hl : l.length ≤ 1048576) : go (k + 1) spec_LeafOf [.agg [.int .i64 r, .arr false z (.r3 l)], .agg [.int .i64 x.1, .int .i64 x.2.1, .int .i64 x.2.2]] = some [.int .i64 (lof l x)] := by
  rw [qgp]
  exact qk7 k hk [] r z l x hl _ 0 (by omega) (by omega)
theorem qkl (x : Cell) : ∀ (l : List Cell) (i : Nat), (qkk x l i = -1 ∧ x ∉ l) ∨ ∃ j, j < l.length ∧ qkk x l i = ((i + j : Nat) : Int) ∧ l.getD j zz3 = x
  | [], i => Or.inl ⟨rfl, by simp⟩
  | y :: r, i => by
    unfold qkk
    by_cases h : y = x
    · rw [if_pos h]; exact Or.inr ⟨0, by simp, by simp, by simpa using h⟩
    · rw [if_neg h]
      rcases qkl x r (i + 1) with ⟨e, n⟩ | ⟨j, hj, e, n⟩
      · exact Or.inl ⟨e, by simp only [List.mem_cons, not_or]; exact ⟨fun e => h e.symm, n⟩⟩
      · exact Or.inr ⟨j + 1, by simp; omega, by rw [e]; congr 1; omega, by simpa using n⟩
theorem qkm (l : List Cell) (x : Cell) : (lof l x = -1 ∧ x ∉ l) ∨ ∃ j, j < l.length ∧ lof l x = (j : Int) ∧ l.getD j zz3 = x := by
  rcases qkl x l 0 with h | ⟨j, hj, e, n⟩
  · exact Or.inl h
  · exact Or.inr ⟨j, hj, by unfold lof; rw [e, Nat.zero_add], n⟩
def Pw (w : List Int) (l0 : List Cell) (x : Cell) : Bool := decide (0 ≤ lof l0 x) && decide (w.getD (lof l0 x).toNat 0 = -1)
def adS (w : List Int) (s : S3) : S3 := mgS (Pw w s.1) 128 0 (lvS 128 (spS w s.1.length s))
set_option maxHeartbeats 1000000 in
theorem qln (k : Nat) (hk : 2000000 ≤ k) (fu : List (Nat × Nat)) (z1 z2 z3 z4 : Bool) (l0 : List Cell) (m0 t0 b0 : List Int) (r0 : Int) (q1 : Bool) (p1 : List Cell) (q2 : Bool) (p2 : List Int) (q3 : Bool) (p3 : List Int) (q4 : Bool) (p4 : List Int) (x18 : Int) (zw : Bool) (w : List Int) (r : Int) (b : List Int) (hl0 : l0.length ≤ 128) (hw : w.length = l0.length) : ∀ (F N i : Nat) (s : S3), s.1.length - i ≤ F → F < N → i + F ≤ 4096 → StU r s b →
    lp (k + 6) spec_l17Adapt [] fu 10 (N) (qod (i : Int) z1 l0 z2 m0 z3 t0 z4 b0 r0 q1 p1 q2 p2 q3 p3 q4 p4 x18 zw w false s.1 false s.2.1 false s.2.2 false b r) = some [.agg [.int .i64 (r), .arr true (false) (.r3 ((mgS (Pw w l0) F i s).1)), .arr true (false) (.ints .i64 ((mgS (Pw w l0) F i s).2.1)), .arr true (false) (.ints .i64 ((mgS (Pw w l0) F i s).2.2)), .arr true (false) (.ints .i64 (b))]]
  | F, 0, i, s, hF, hN, hi, U => by omega
  | 0, N + 1, i, s, hF, hN, hi, U => by
    rw [qj6]
    have L := U.len; have ml := U.ml; have tl := U.tl
    simp (disch := omega) only [qax, nth0, nth1, nth2, nth3, bit, qd5, qd6, qeh, qem, qen, qeo, qep, qeq, qer, qes, qd7, qd8, qd9, qea, qeb, qec, qed, qee, qef, qeg, qei, qej, qek, qel, qp7, qp6, qp8, qmi, qm3, qm4, qiw, qa3, qph, nI, qe1, qez, Bool.not_true, Bool.not_false, Bool.and_true, Bool.true_and, Bool.and_false, Bool.false_and, Bool.or_true, Bool.true_or, Bool.or_false, Bool.false_or, beq_self_eq_true, dTT, dFF, dT, dF, bigI, big0, qmh, qqv, qqw, List.length_set, List.length_replicate, Int.toNat_natCast, qd3, qd4, imax, imin]; rfl
  | F + 1, N + 1, i, s, hF, hN, hi, U => by
    rw [qj6]
    have L := U.len; have ml := U.ml; have tl := U.tl
    unfold mgS
    by_cases g : i + 1 < s.1.length
    · rw [if_pos g]
      have IH0 := qln k hk fu z1 z2 z3 z4 l0 m0 t0 b0 r0 q1 p1 q2 p2 q3 p3 q4 p4 x18 zw w r b hl0 hw F N (i + 1) s (by omega) (by omega) (by omega) U
      have eX := qcf (k + 5) (by omega) r0 z1 l0 (s.1.getD i zz3) (by omega)
      have eY := qcf (k + 5) (by omega) r0 z1 l0 (s.1.getD (i + 1) zz3) (by omega)
      have eM := qdb (k + 2) (by omega) r false s.1 U.mesh i g
      rcases qkm l0 (s.1.getD i zz3) with ⟨ex, _⟩ | ⟨j, hj, ex, _⟩
      · have pX : Pw w l0 (s.1.getD i zz3) = false := by unfold Pw; rw [ex]; simp
        rw [ex] at eX
        rw [if_neg (by rw [pX]; simp)]
        simp (disch := omega) only [qax, nth0, nth1, nth2, nth3, bit, qd5, qd6, qeh, qem, qen, qeo, qep, qeq, qer, qes, qd7, qd8, qd9, qea, qeb, qec, qed, qee, qef, qeg, qei, qej, qek, qel, qp7, qp6, qp8, qmi, qm3, qm4, qiw, qa3, qph, nI, qe1, qez, Bool.not_true, Bool.not_false, Bool.and_true, Bool.true_and, Bool.and_false, Bool.false_and, Bool.or_true, Bool.true_or, Bool.or_false, Bool.false_or, beq_self_eq_true, dTT, dFF, dT, dF, bigI, big0, qmh, qqv, qqw, List.length_set, List.length_replicate, Int.toNat_natCast, qd3, qd4, imax, imin, eX, eY, IH0]
      have pX : Pw w l0 (s.1.getD i zz3) = decide (w.getD j 0 = -1) := by unfold Pw; rw [ex]; simp
      rw [ex] at eX
      rcases qkm l0 (s.1.getD (i + 1) zz3) with ⟨ey, _⟩ | ⟨q, hq, ey, _⟩
      · have pY : Pw w l0 (s.1.getD (i + 1) zz3) = false := by unfold Pw; rw [ey]; simp
        rw [ey] at eY
        rw [if_neg (by rw [pY]; simp)]
        simp (disch := omega) only [qax, nth0, nth1, nth2, nth3, bit, qd5, qd6, qeh, qem, qen, qeo, qep, qeq, qer, qes, qd7, qd8, qd9, qea, qeb, qec, qed, qee, qef, qeg, qei, qej, qek, qel, qp7, qp6, qp8, qmi, qm3, qm4, qiw, qa3, qph, nI, qe1, qez, Bool.not_true, Bool.not_false, Bool.and_true, Bool.true_and, Bool.and_false, Bool.false_and, Bool.or_true, Bool.true_or, Bool.or_false, Bool.false_or, beq_self_eq_true, dTT, dFF, dT, dF, bigI, big0, qmh, qqv, qqw, List.length_set, List.length_replicate, Int.toNat_natCast, qd3, qd4, imax, imin, eX, eY, IH0]
      have pY : Pw w l0 (s.1.getD (i + 1) zz3) = decide (w.getD q 0 = -1) := by unfold Pw; rw [ey]; simp
      rw [ey] at eY
      by_cases h1 : w.getD j 0 = -1
      · by_cases h2 : w.getD q 0 = -1
        · rw [dT h1] at pX
          rw [dT h2] at pY
          cases hm : mayC s.1 i
          · rw [if_neg (by rw [pX, pY]; simp)]
            simp (disch := omega) only [qax, nth0, nth1, nth2, nth3, bit, qd5, qd6, qeh, qem, qen, qeo, qep, qeq, qer, qes, qd7, qd8, qd9, qea, qeb, qec, qed, qee, qef, qeg, qei, qej, qek, qel, qp7, qp6, qp8, qmi, qm3, qm4, qiw, qa3, qph, nI, qe1, qez, Bool.not_true, Bool.not_false, Bool.and_true, Bool.true_and, Bool.and_false, Bool.false_and, Bool.or_true, Bool.true_or, Bool.or_false, Bool.false_or, beq_self_eq_true, dTT, dFF, dT, dF, bigI, big0, qmh, qqv, qqw, List.length_set, List.length_replicate, Int.toNat_natCast, qd3, qd4, imax, imin, eX, eY, h1, h2, eM, hm, IH0]
          · have hs := hm
            simp only [mayC, Bool.and_eq_true] at hs
            have sl := qor hs.1
            have U' := cm_U U g hs.1
            have ln := qlz g
            have IH1 := qln k hk fu z1 z2 z3 z4 l0 m0 t0 b0 r0 q1 p1 q2 p2 q3 p3 q4 p4 x18 zw w r b hl0 hw F N (i + 1) (cmS s i) (by show (qly s.1 i).length - (i + 1) ≤ F; omega) (by omega) (by omega) U'
            have eG := qdg (k + 1) (by omega) r s b U i g sl
            rw [if_pos (by rw [pX, pY]; simp)]
            simp (disch := omega) only [qax, nth0, nth1, nth2, nth3, bit, qd5, qd6, qeh, qem, qen, qeo, qep, qeq, qer, qes, qd7, qd8, qd9, qea, qeb, qec, qed, qee, qef, qeg, qei, qej, qek, qel, qp7, qp6, qp8, qmi, qm3, qm4, qiw, qa3, qph, nI, qe1, qez, Bool.not_true, Bool.not_false, Bool.and_true, Bool.true_and, Bool.and_false, Bool.false_and, Bool.or_true, Bool.true_or, Bool.or_false, Bool.false_or, beq_self_eq_true, dTT, dFF, dT, dF, bigI, big0, qmh, qqv, qqw, List.length_set, List.length_replicate, Int.toNat_natCast, qd3, qd4, imax, imin, eX, eY, h1, h2, eM, hm, eG, IH1]
        · rw [dF h2] at pY
          rw [if_neg (by rw [pY]; simp)]
          simp (disch := omega) only [qax, nth0, nth1, nth2, nth3, bit, qd5, qd6, qeh, qem, qen, qeo, qep, qeq, qer, qes, qd7, qd8, qd9, qea, qeb, qec, qed, qee, qef, qeg, qei, qej, qek, qel, qp7, qp6, qp8, qmi, qm3, qm4, qiw, qa3, qph, nI, qe1, qez, Bool.not_true, Bool.not_false, Bool.and_true, Bool.true_and, Bool.and_false, Bool.false_and, Bool.or_true, Bool.true_or, Bool.or_false, Bool.false_or, beq_self_eq_true, dTT, dFF, dT, dF, bigI, big0, qmh, qqv, qqw, List.length_set, List.length_replicate, Int.toNat_natCast, qd3, qd4, imax, imin, eX, eY, h1, h2, IH0]
      · rw [dF h1] at pX
        rw [if_neg (by rw [pX]; simp)]
        simp (disch := omega) only [qax, nth0, nth1, nth2, nth3, bit, qd5, qd6, qeh, qem, qen, qeo, qep, qeq, qer, qes, qd7, qd8, qd9, qea, qeb, qec, qed, qee, qef, qeg, qei, qej, qek, qel, qp7, qp6, qp8, qmi, qm3, qm4, qiw, qa3, qph, nI, qe1, qez, Bool.not_true, Bool.not_false, Bool.and_true, Bool.true_and, Bool.and_false, Bool.false_and, Bool.or_true, Bool.true_or, Bool.or_false, Bool.false_or, beq_self_eq_true, dTT, dFF, dT, dF, bigI, big0, qmh, qqv, qqw, List.length_set, List.length_replicate, Int.toNat_natCast, qd3, qd4, imax, imin, eX, eY, h1, IH0]
    · rw [if_neg g]; simp (disch := omega) only [qax, nth0, nth1, nth2, nth3, bit, qd5, qd6, qeh, qem, qen, qeo, qep, qeq, qer, qes, qd7, qd8, qd9, qea, qeb, qec, qed, qee, qef, qeg, qei, qej, qek, qel, qp7, qp6, qp8, qmi, qm3, qm4, qiw, qa3, qph, nI, qe1, qez, Bool.not_true, Bool.not_false, Bool.and_true, Bool.true_and, Bool.and_false, Bool.false_and, Bool.or_true, Bool.true_or, Bool.or_false, Bool.false_or, beq_self_eq_true, dTT, dFF, dT, dF, bigI, big0, qmh, qqv, qqw, List.length_set, List.length_replicate, Int.toNat_natCast, qd3, qd4, imax, imin]
theorem qlq (k : Nat) (hk : 2000000 ≤ k) (fu : List (Nat × Nat)) (z1 z2 z3 z4 : Bool) (l0 : List Cell) (m0 t0 b0 : List Int) (r0 : Int) (q1 : Bool) (p1 : List Cell) (q2 : Bool) (p2 : List Int) (q3 : Bool) (p3 : List Int) (q4 : Bool) (p4 : List Int) (x18 : Int) (zw : Bool) (w : List Int) (r : Int) (b : List Int) (hl0 : l0.length ≤ 128) (hw : w.length = l0.length) (hw1 : ∀ j, w.getD j 0 = 1 → qkg l0 j < 4) : ∀ (N n : Nat) (s : S3), n < N → n ≤ l0.length → n ≤ s.1.length → (∀ j, j < n → s.1.getD j zz3 = l0.getD j zz3) → StU r s b →
    lp (k + 6) spec_l17Adapt [] fu 4 (N) (qoe ((n : Int) - 1) z1 l0 z2 m0 z3 t0 z4 b0 r0 q1 p1 q2 p2 q3 p3 q4 p4 x18 zw w false s.1 false s.2.1 false s.2.2 false b r) = some [.agg [.int .i64 (r), .arr true (false) (.r3 ((mgS (Pw w l0) 128 0 (lvS 128 (spS w n s))).1)), .arr true (false) (.ints .i64 ((mgS (Pw w l0) 128 0 (lvS 128 (spS w n s))).2.1)), .arr true (false) (.ints .i64 ((mgS (Pw w l0) 128 0 (lvS 128 (spS w n s))).2.2)), .arr true (false) (.ints .i64 (b))]]
  | 0, n, s, hN, hn, hs, he, U => by omega
  | N + 1, 0, s, hN, hn, hs, he, U => by
    rw [qj7]
    have L := U.len
    have eL := qdx k (by omega) r s b U
    have U' := (qkn 128 s U (by omega)).1
    have L' := U'.len
    have e := qln k hk fu z1 z2 z3 z4 l0 m0 t0 b0 r0 q1 p1 q2 p2 q3 p3 q4 p4 x18 zw w r b hl0 hw 128 (k + 6) 0 (lvS 128 s) (by omega) (by omega) (by omega) U'
    rw [show ((0 : Nat) : Int) = 0 from rfl] at e ⊢
    simp (disch := omega) only [qax, nth0, nth1, nth2, nth3, bit, qd5, qd6, qeh, qem, qen, qeo, qep, qeq, qer, qes, qd7, qd8, qd9, qea, qeb, qec, qed, qee, qef, qeg, qei, qej, qek, qel, qp7, qp6, qp8, qmi, qm3, qm4, qiw, qa3, qph, nI, qe1, qez, Bool.not_true, Bool.not_false, Bool.and_true, Bool.true_and, Bool.and_false, Bool.false_and, Bool.or_true, Bool.true_or, Bool.or_false, Bool.false_or, beq_self_eq_true, dTT, dFF, dT, dF, bigI, big0, qmh, qqv, qqw, List.length_set, List.length_replicate, Int.toNat_natCast, qd3, qd4, imax, imin, eL, e]
    rfl
  | N + 1, n + 1, s, hN, hn, hs, he, U => by
    rw [show ((n + 1 : Nat) : Int) - 1 = (n : Int) by omega, qj7]
    have L := U.len
    unfold spS
    by_cases h1 : w.getD n 0 = 1
    · rw [if_pos h1]
      have hl : qkg s.1 n < 4 := by have := hw1 n h1; unfold qkg at *; rw [he n (by omega)]; exact this
      have U' := rf_U U (show n < s.1.length by omega) hl
      have ln := qoz (show n < s.1.length by omega)
      have IH := qlq k hk fu z1 z2 z3 z4 l0 m0 t0 b0 r0 q1 p1 q2 p2 q3 p3 q4 p4 x18 zw w r b hl0 hw hw1 N n (rfS s n) (by omega) (by omega) (by show n ≤ (qoy s.1 n).length; omega) (fun j hj => by
        show (qoy s.1 n).getD j zz3 = _
        rw [qo0 (by omega) hj]; exact he j (by omega)) U'
      have eS := qdh (k + 1) (by omega) r s b U n (by omega) hl
      simp (disch := omega) only [qax, nth0, nth1, nth2, nth3, bit, qd5, qd6, qeh, qem, qen, qeo, qep, qeq, qer, qes, qd7, qd8, qd9, qea, qeb, qec, qed, qee, qef, qeg, qei, qej, qek, qel, qp7, qp6, qp8, qmi, qm3, qm4, qiw, qa3, qph, nI, qe1, qez, Bool.not_true, Bool.not_false, Bool.and_true, Bool.true_and, Bool.and_false, Bool.false_and, Bool.or_true, Bool.true_or, Bool.or_false, Bool.false_or, beq_self_eq_true, dTT, dFF, dT, dF, bigI, big0, qmh, qqv, qqw, List.length_set, List.length_replicate, Int.toNat_natCast, qd3, qd4, imax, imin, h1, eS, IH]
    · rw [if_neg h1]
      have IH := qlq k hk fu z1 z2 z3 z4 l0 m0 t0 b0 r0 q1 p1 q2 p2 q3 p3 q4 p4 x18 zw w r b hl0 hw hw1 N n s (by omega) (by omega) (by omega) (fun j hj => he j (by omega)) U
      simp (disch := omega) only [qax, nth0, nth1, nth2, nth3, bit, qd5, qd6, qeh, qem, qen, qeo, qep, qeq, qer, qes, qd7, qd8, qd9, qea, qeb, qec, qed, qee, qef, qeg, qei, qej, qek, qel, qp7, qp6, qp8, qmi, qm3, qm4, qiw, qa3, qph, nI, qe1, qez, Bool.not_true, Bool.not_false, Bool.and_true, Bool.true_and, Bool.and_false, Bool.false_and, Bool.or_true, Bool.true_or, Bool.or_false, Bool.false_or, beq_self_eq_true, dTT, dFF, dT, dF, bigI, big0, qmh, qqv, qqw, List.length_set, List.length_replicate, Int.toNat_natCast, qd3, qd4, imax, imin, IH]
theorem qqx {l : List Cell} {m b : List Int} {hi lo : Int} (j : Nat) (h : (tab l.length (wsh l m b hi lo)).getD j 0 = 1) : qkg l j < 4 := by
  by_cases hj : j < l.length
  · rw [qpq hj] at h
    unfold wsh at h
    by_cases c : hi < jmp l m b j ∧ qkg l j < 4
    · exact c.2
    · rw [if_neg c] at h
      split at h <;> omega
  · rw [qio (by rw [qpr]; omega)] at h; omega
theorem qdq (k : Nat) (hk : 2000000 ≤ k) (r : Int) (l : List Cell) (m t b : List Int) (F : StF r l m t b) (hi lo : Int) :
    go (k + 7) spec_l17Adapt [.agg [.int .i64 (r), .arr false (false) (.r3 (l)), .arr false (false) (.ints .i64 (m)), .arr false (false) (.ints .i64 (t)), .arr false (false) (.ints .i64 (b))], .int .i64 hi, .int .i64 lo] = some [.agg [.int .i64 (r), .arr true (false) (.r3 ((adS (tab l.length (wsh l m b hi lo)) (l, m, t)).1)), .arr true (false) (.ints .i64 ((adS (tab l.length (wsh l m b hi lo)) (l, m, t)).2.1)), .arr true (false) (.ints .i64 ((adS (tab l.length (wsh l m b hi lo)) (l, m, t)).2.2)), .arr true (false) (.ints .i64 (b))]] := by
  rw [qh2]
  have L := F.len; have ml := F.ml; have tl := F.tl; have bl := F.bl; have rr := F.rr
  have eW := qcr (k + 3) (by omega) hi lo r false false false false l m t b F
  simp (disch := omega) only [qax, nth0, nth1, nth2, nth3, bit, qd5, qd6, qeh, qem, qen, qeo, qep, qeq, qer, qes, qd7, qd8, qd9, qea, qeb, qec, qed, qee, qef, qeg, qei, qej, qek, qel, qp7, qp6, qp8, qmi, qm3, qm4, qiw, qa3, qph, nI, qe1, qez, Bool.not_true, Bool.not_false, Bool.and_true, Bool.true_and, Bool.and_false, Bool.false_and, Bool.or_true, Bool.true_or, Bool.or_false, Bool.false_or, beq_self_eq_true, dTT, dFF, dT, dF, bigI, big0, qmh, qqv, qqw, List.length_set, List.length_replicate, Int.toNat_natCast, qd3, qd4, imax, imin, eW, qdd, qpr]
  exact qlq k hk [] false false false false l m t b r true [] true [] true [] true [] 0 false _ r b (by omega) (qpr _ _) qqx (k + 6) l.length (l, m, t) (by omega) (by omega) (by show l.length ≤ l.length; omega) (fun j hj => rfl) F.toU
theorem ad_U {r : Int} {l : List Cell} {m t b : List Int} (F : StF r l m t b) (hi lo : Int) : StF r (adS (tab l.length (wsh l m b hi lo)) (l, m, t)).1 (adS (tab l.length (wsh l m b hi lo)) (l, m, t)).2.1 (adS (tab l.length (wsh l m b hi lo)) (l, m, t)).2.2 b := by
  have U := qow (tab l.length (wsh l m b hi lo)) l qqx l.length (l, m, t) F.toU (Nat.le_refl _) (fun j hj => rfl)
  have V := qkn 128 _ U (by have := U.len; omega)
  exact (qma _ 128 0 _ V.1).toF (qmc _ 128 0 _ V.2)
end Go.Proofs.YtjfjniebmdafeaaGreatDoor
end
section
namespace Go.Proofs.YtjfjniebmdafeaaGreatDoor
open Go.Ev
abbrev S2 := List Int × List Int
structure Ld where
  mi : Int
  mo : Int
  ti : Int
  ou : Int
structure Pl where
  bi : Int
  bs : Int
  bo : Int
  rain : Int
  loss : Int
  dec : Int
  high : Int
  low : Int
  every : Int
def Ld.add (a b : Ld) : Ld := ⟨a.mi + b.mi, a.mo + b.mo, a.ti + b.ti, a.ou + b.ou⟩
structure Led (s s' : S2) (l : Ld) : Prop where
  m : isum s'.1 = isum s.1 + l.mi - l.mo
  t : isum s'.2 = isum s.2 + l.ti - l.ou
  mi : 0 ≤ l.mi ∧ l.mi ≤ 10000000
  mo : 0 ≤ l.mo ∧ l.mo ≤ 10000000
  ti : 0 ≤ l.ti ∧ l.ti ≤ 10000000000
  ou : 0 ≤ l.ou ∧ l.ou ≤ 10000000000
theorem qi4 : ∀ (l : List Int) (i : Nat) (x : Int), i < l.length → isum (l.set i x) = isum l - l.getD i 0 + x
  | [], i, x, h => by simp at h
  | y :: l, 0, x, h => by simp only [List.set_cons_zero, isum, List.getD_cons_zero]; omega
  | y :: l, i + 1, x, h => by
    have := qi4 l i x (by simpa using h)
    simp only [List.set_cons_succ, isum, List.getD_cons_succ, this]; omega
theorem qpj (f g : Nat → Int) : ∀ n, qpi (fun j => f j + g j) n = qpi f n + qpi g n
  | 0 => rfl
  | n + 1 => by have := qpj f g n; simp only [qpi]; omega
theorem qpn (f g : Nat → Int) : ∀ n, qpi (fun j => f j - g j) n = qpi f n - qpi g n
  | 0 => rfl
  | n + 1 => by have := qpn f g n; simp only [qpi]; omega
theorem qpm {f : Nat → Int} : ∀ n, (∀ j, j < n → 0 ≤ f j) → 0 ≤ qpi f n
  | 0, h => Int.le_refl _
  | n + 1, h => by have := qpm n fun j hj => h j (by omega); have := h n (by omega); simp only [qpi]; omega
theorem qpk {f g : Nat → Int} : ∀ n, (∀ j, j < n → f j ≤ g j) → qpi f n ≤ qpi g n
  | 0, h => Int.le_refl _
  | n + 1, h => by have := qpk n fun j hj => h j (by omega); have := h n (by omega); simp only [qpi]; omega
theorem StF.tle {r : Int} {l : List Cell} {m t b : List Int} (F : StF r l m t b) : 0 ≤ isum t ∧ isum t ≤ 10000000000 := by
  have e : isum t ≤ 1000 * isum m := by
    rw [qi5 t, qi5 m, F.tl, F.ml]
    have : ∀ n, qpi (fun j => t.getD j 0) n ≤ 1000 * qpi (fun j => m.getD j 0) n := by
      intro n
      induction n with
      | zero => simp [qpi]
      | succ n ih => have := F.at n; simp only [qpi]; omega
    exact this _
  have := F.tsum; have := F.msum
  omega
theorem StF.mk' {r : Int} {l : List Cell} {m t b m' t' : List Int} (F : StF r l m t b) (hm : m'.length = l.length) (ht : t'.length = l.length) (h : ∀ i, i < l.length → 0 ≤ m'.getD i 0 ∧ 0 ≤ t'.getD i 0 ∧ t'.getD i 0 ≤ 1000 * m'.getD i 0) (hs : isum m' ≤ 10000000) : StF r l m' t' b := by
  refine ⟨F.mesh, F.bal, hm, ht, F.bl, ?_, F.bed, hs⟩
  refine qlw _ _ (by omega) fun i hi => ?_
  have a := h i (by omega)
  have nn : ∀ x ∈ m', 0 ≤ x := by
    intro x hx
    obtain ⟨j, hj, rfl⟩ := List.getElem_of_mem hx
    have := (h j (by omega)).1
    rwa [List.getD_eq_getElem?_getD, List.getElem?_eq_getElem hj, Option.getD_some] at this
  have := qh8 m' nn _ (qip hi 0)
  exact ⟨⟨a.1, by omega⟩, a.2⟩
def boX (o : Int) (m : List Int) : Int := m.getD (m.length - 1) 0 * o / 1000
def boY (o : Int) (m t : List Int) : Int := qoj (t.getD (m.length - 1) 0) (boX o m) (m.getD (m.length - 1) 0)
def bo1 (o : Int) (s : S2) : S2 := (s.1.set (s.1.length - 1) (s.1.getD (s.1.length - 1) 0 - boX o s.1), s.2.set (s.1.length - 1) (s.2.getD (s.1.length - 1) 0 - boY o s.1 s.2))
def bo2 (a c : Int) (s : S2) : S2 := (s.1.set 0 (s.1.getD 0 0 + a), s.2.set 0 (s.2.getD 0 0 + a * c))
def boS (a c o : Int) (s : S2) : S2 × Ld := if isum (bo1 o s).1 + a ≤ 10000000 then (bo2 a c (bo1 o s), ⟨a, boX o s.1, a * c, boY o s.1 s.2⟩) else (bo1 o s, ⟨0, boX o s.1, 0, boY o s.1 s.2⟩)
section
variable {r : Int} {l : List Cell} {m t b : List Int}
theorem qmr {x y p : Int} (hx : 0 ≤ x ∧ x ≤ 10000000) (hy : 0 ≤ y ∧ y ≤ 1000 * x) (hp : 0 ≤ p ∧ p ≤ x) : (0 ≤ qoj y p x ∧ qoj y p x ≤ y) ∧ y - qoj y p x ≤ 1000 * (x - p) := by
  by_cases h : 1 ≤ x
  · have := qoo h hp.1 hp.2 hy.1 hy.2
    rw [qok h hx.2 hp.1 hp.2 hy.1 hy.2]
    omega
  · have e : qoj y p x = 0 := by
      unfold qoj
      have : inR x 1 10000000 = false := by rw [← Bool.not_eq_true, qiu]; omega
      rw [this]; rfl
    rw [e]; omega
theorem qa1 (F : StF r l m t b) {o : Int} (ho : 0 ≤ o ∧ o ≤ 250) : 0 ≤ boX o m ∧ boX o m ≤ m.getD (m.length - 1) 0 := by
  have a := F.at (m.length - 1)
  unfold boX
  have h1 : 0 ≤ m.getD (m.length - 1) 0 * o := Int.mul_nonneg a.1 ho.1
  have h2 : m.getD (m.length - 1) 0 * o ≤ m.getD (m.length - 1) 0 * 250 := Int.mul_le_mul_of_nonneg_left ho.2 a.1
  omega
theorem qa2 (F : StF r l m t b) {o : Int} (ho : 0 ≤ o ∧ o ≤ 250) : (0 ≤ boY o m t ∧ boY o m t ≤ t.getD (m.length - 1) 0) ∧ t.getD (m.length - 1) 0 - boY o m t ≤ 1000 * (m.getD (m.length - 1) 0 - boX o m) := by
  have a := F.at (m.length - 1)
  exact qmr ⟨a.1, a.2.1⟩ a.2.2 (qa1 F ho)
theorem qoh {x : List Int} {i j : Nat} {v : Int} (h : i < x.length) : (x.set i v).getD j 0 = if i = j then v else x.getD j 0 := by
  rw [qoi]
  by_cases e : i = j
  · rw [if_pos ⟨e, h⟩, if_pos e]
  · rw [if_neg (fun c => e c.1), if_neg e]
theorem qaz (F : StF r l m t b) {o : Int} (ho : 0 ≤ o ∧ o ≤ 250) : StF r l (bo1 o (m, t)).1 (bo1 o (m, t)).2 b ∧ isum (bo1 o (m, t)).1 = isum m - boX o m ∧ isum (bo1 o (m, t)).2 = isum t - boY o m t := by
  have L := F.len; have ml := F.ml; have tl := F.tl
  have x := qa1 F ho; have y := qa2 F ho
  have e1 : isum (bo1 o (m, t)).1 = isum m - boX o m := by
    show isum (m.set (m.length - 1) (m.getD (m.length - 1) 0 - boX o m)) = _
    rw [qi4 _ _ _ (by omega)]; omega
  have e2 : isum (bo1 o (m, t)).2 = isum t - boY o m t := by
    show isum (t.set (m.length - 1) (t.getD (m.length - 1) 0 - boY o m t)) = _
    rw [qi4 _ _ _ (by omega)]; omega
  refine ⟨F.mk' (by show (m.set _ _).length = _; rw [List.length_set]; exact ml) (by show (t.set _ _).length = _; rw [List.length_set]; exact tl) (fun i hi => ?_) (by rw [e1]; have := F.msum; omega), e1, e2⟩
  have a := F.at i
  show 0 ≤ (m.set (m.length - 1) (m.getD (m.length - 1) 0 - boX o m)).getD i 0 ∧ 0 ≤ (t.set (m.length - 1) (t.getD (m.length - 1) 0 - boY o m t)).getD i 0 ∧ (t.set (m.length - 1) (t.getD (m.length - 1) 0 - boY o m t)).getD i 0 ≤ 1000 * (m.set (m.length - 1) (m.getD (m.length - 1) 0 - boX o m)).getD i 0
  rw [qoh (by omega), qoh (by omega)]
  by_cases g : m.length - 1 = i
  · rw [if_pos g, if_pos g]; omega
  · rw [if_neg g, if_neg g]; omega
theorem qiv {a c : Int} (ha : 0 ≤ a ∧ a ≤ 10000) (hc : 0 ≤ c ∧ c ≤ 1000) : 0 ≤ a * c ∧ a * c ≤ 1000 * a := by
  have h1 := Int.mul_nonneg ha.1 hc.1
  have h2 : a * c ≤ a * 1000 := Int.mul_le_mul_of_nonneg_left hc.2 ha.1
  omega
theorem qa0 (F : StF r l m t b) {a c o : Int} (ha : 0 ≤ a ∧ a ≤ 10000) (hc : 0 ≤ c ∧ c ≤ 1000) (ho : 0 ≤ o ∧ o ≤ 250) : StF r l (boS a c o (m, t)).1.1 (boS a c o (m, t)).1.2 b ∧ Led (m, t) (boS a c o (m, t)).1 (boS a c o (m, t)).2 := by
  obtain ⟨G, e1, e2⟩ := qaz F ho
  have L := F.len; have ml := F.ml; have tl := F.tl
  have x := qa1 F ho; have y := (qa2 F ho).1; have p := qiv ha hc
  have fa := F.at (m.length - 1)
  unfold boS
  by_cases g : isum (bo1 o (m, t)).1 + a ≤ 10000000
  · rw [if_pos g]
    have gl := G.ml; have gt := G.tl
    have s1 : isum (bo2 a c (bo1 o (m, t))).1 = isum (bo1 o (m, t)).1 + a := by
      show isum ((bo1 o (m, t)).1.set 0 ((bo1 o (m, t)).1.getD 0 0 + a)) = _
      rw [qi4 _ _ _ (by omega)]; omega
    have s2 : isum (bo2 a c (bo1 o (m, t))).2 = isum (bo1 o (m, t)).2 + a * c := by
      show isum ((bo1 o (m, t)).2.set 0 ((bo1 o (m, t)).2.getD 0 0 + a * c)) = _
      rw [qi4 _ _ _ (by omega)]; omega
    refine ⟨G.mk' (by show (List.set _ _ _).length = _; rw [List.length_set]; exact gl) (by show (List.set _ _ _).length = _; rw [List.length_set]; exact gt) (fun i hi => ?_) (by show isum (bo2 a c (bo1 o (m, t))).1 ≤ _; rw [s1]; exact g), ⟨?_, ?_, ⟨ha.1, by show a ≤ _; omega⟩, ⟨x.1, by show boX o m ≤ _; omega⟩, ⟨p.1, by show a * c ≤ _; omega⟩, ⟨y.1, by show boY o m t ≤ _; omega⟩⟩⟩
    · have q := G.at i
      show 0 ≤ ((bo1 o (m, t)).1.set 0 ((bo1 o (m, t)).1.getD 0 0 + a)).getD i 0 ∧ 0 ≤ ((bo1 o (m, t)).2.set 0 ((bo1 o (m, t)).2.getD 0 0 + a * c)).getD i 0 ∧ ((bo1 o (m, t)).2.set 0 ((bo1 o (m, t)).2.getD 0 0 + a * c)).getD i 0 ≤ 1000 * ((bo1 o (m, t)).1.set 0 ((bo1 o (m, t)).1.getD 0 0 + a)).getD i 0
      rw [qoh (by omega), qoh (by omega)]
      by_cases h : 0 = i
      · subst h; rw [if_pos rfl, if_pos rfl]; omega
      · rw [if_neg h, if_neg h]; omega
    · show isum (bo2 a c (bo1 o (m, t))).1 = isum m + a - boX o m; omega
    · show isum (bo2 a c (bo1 o (m, t))).2 = isum t + a * c - boY o m t; omega
  · rw [if_neg g]
    refine ⟨G, ⟨?_, ?_, ⟨Int.le_refl _, by show (0 : Int) ≤ _; omega⟩, ⟨x.1, by show boX o m ≤ _; omega⟩, ⟨Int.le_refl _, by show (0 : Int) ≤ _; omega⟩, ⟨y.1, by show boY o m t ≤ _; omega⟩⟩⟩
    · show isum (bo1 o (m, t)).1 = isum m + 0 - boX o m; omega
    · show isum (bo1 o (m, t)).2 = isum t + 0 - boY o m t; omega
end
def part (a : Int) (l : List Cell) (j : Nat) : Int := a * qqn (qkg l j) / 16
theorem qmv {a : Int} (ha : 0 ≤ a ∧ a ≤ 10000) (l : List Cell) (j : Nat) : 0 ≤ part a l j ∧ part a l j ≤ a := by
  have w := qqp (qkg l j)
  unfold part
  have h1 := Int.mul_nonneg ha.1 w.1
  have h2 : a * qqn (qkg l j) ≤ a * 16 := Int.mul_le_mul_of_nonneg_left w.2 ha.1
  omega
def raS (a : Int) (l : List Cell) (s : S2) : S2 × Ld := if isum s.1 + qpi (part a l) l.length ≤ 10000000 then ((tab l.length (fun j => s.1.getD j 0 + part a l j), s.2), ⟨qpi (part a l) l.length, 0, 0, 0⟩) else (s, ⟨0, 0, 0, 0⟩)
def soX (a : Int) (l : List Cell) (m : List Int) (j : Nat) : Int := min (m.getD j 0) (part a l j)
def soY (a : Int) (l : List Cell) (m t : List Int) (j : Nat) : Int := qoj (t.getD j 0) (soX a l m j) (m.getD j 0)
def soS (a : Int) (l : List Cell) (s : S2) : S2 × Ld := ((tab l.length (fun j => s.1.getD j 0 - soX a l s.1 j), tab l.length (fun j => s.2.getD j 0 - soY a l s.1 s.2 j)), ⟨0, qpi (soX a l s.1) l.length, 0, qpi (soY a l s.1 s.2) l.length⟩)
def deX (a : Int) (t : List Int) (j : Nat) : Int := t.getD j 0 * a / 1000
def deS (a : Int) (l : List Cell) (s : S2) : S2 × Ld := ((s.1, tab l.length (fun j => s.2.getD j 0 - deX a s.2 j)), ⟨0, 0, 0, qpi (deX a s.2) l.length⟩)
section
variable {r : Int} {l : List Cell} {m t b : List Int}
theorem qmw {a : Int} (ha : 0 ≤ a ∧ a ≤ 10000) (l : List Cell) : ∀ n : Nat, 0 ≤ qpi (part a l) n ∧ qpi (part a l) n ≤ 10000 * n
  | 0 => by simp [qpi]
  | n + 1 => by have := qmw ha l n; have := qmv ha l n; simp only [qpi]; omega
theorem qm5 (F : StF r l m t b) {a : Int} (ha : 0 ≤ a ∧ a ≤ 10000) : StF r l (raS a l (m, t)).1.1 (raS a l (m, t)).1.2 b ∧ Led (m, t) (raS a l (m, t)).1 (raS a l (m, t)).2 := by
  have L := F.len; have ml := F.ml; have tl := F.tl
  have p := qmw ha l l.length
  unfold raS
  by_cases g : isum m + qpi (part a l) l.length ≤ 10000000
  · rw [if_pos g]
    have e1 : isum (tab l.length (fun j => m.getD j 0 + part a l j)) = isum m + qpi (part a l) l.length := by
      rw [qi6, qpj, qi5 m, ml]
    refine ⟨F.mk' (qpr _ _) tl (fun i hi => ?_) (by show isum (tab l.length (fun j => m.getD j 0 + part a l j)) ≤ 10000000; omega), ⟨?_, ?_, ⟨p.1, by show qpi _ _ ≤ _; have := F.msum; omega⟩, ⟨Int.le_refl _, by show (0 : Int) ≤ _; omega⟩, ⟨Int.le_refl _, by show (0 : Int) ≤ _; omega⟩, ⟨Int.le_refl _, by show (0 : Int) ≤ _; omega⟩⟩⟩
    · have a1 := F.at i; have a2 := qmv ha l i
      show 0 ≤ (tab l.length (fun j => m.getD j 0 + part a l j)).getD i 0 ∧ 0 ≤ t.getD i 0 ∧ t.getD i 0 ≤ 1000 * (tab l.length (fun j => m.getD j 0 + part a l j)).getD i 0
      rw [qpq hi]; omega
    · show isum (tab l.length (fun j => m.getD j 0 + part a l j)) = isum m + qpi (part a l) l.length - 0; omega
    · show isum t = isum t + 0 - 0; omega
  · rw [if_neg g]
    refine ⟨F, ⟨?_, ?_, ⟨Int.le_refl _, by show (0 : Int) ≤ _; omega⟩, ⟨Int.le_refl _, by show (0 : Int) ≤ _; omega⟩, ⟨Int.le_refl _, by show (0 : Int) ≤ _; omega⟩, ⟨Int.le_refl _, by show (0 : Int) ≤ _; omega⟩⟩⟩
    · show isum m = isum m + 0 - 0; omega
    · show isum t = isum t + 0 - 0; omega
theorem qot (F : StF r l m t b) {a : Int} (ha : 0 ≤ a ∧ a ≤ 10000) (j : Nat) : 0 ≤ soX a l m j ∧ soX a l m j ≤ m.getD j 0 := by
  have a1 := F.at j; have a2 := qmv ha l j
  unfold soX; omega
theorem qou (F : StF r l m t b) {a : Int} (ha : 0 ≤ a ∧ a ≤ 10000) (j : Nat) : (0 ≤ soY a l m t j ∧ soY a l m t j ≤ t.getD j 0) ∧ t.getD j 0 - soY a l m t j ≤ 1000 * (m.getD j 0 - soX a l m j) := by
  have a1 := F.at j
  exact qmr ⟨a1.1, a1.2.1⟩ a1.2.2 (qot F ha j)
theorem qov (F : StF r l m t b) {a : Int} (ha : 0 ≤ a ∧ a ≤ 10000) (n : Nat) : (0 ≤ qpi (soX a l m) n ∧ qpi (soX a l m) n ≤ qpi (fun j => m.getD j 0) n) ∧ 0 ≤ qpi (soY a l m t) n ∧ qpi (soY a l m t) n ≤ qpi (fun j => t.getD j 0) n :=
  ⟨⟨qpm n fun j _ => (qot F ha j).1, qpk n fun j _ => (qot F ha j).2⟩, qpm n fun j _ => (qou F ha j).1.1, qpk n fun j _ => (qou F ha j).1.2⟩
theorem qos (F : StF r l m t b) {a : Int} (ha : 0 ≤ a ∧ a ≤ 10000) : StF r l (soS a l (m, t)).1.1 (soS a l (m, t)).1.2 b ∧ Led (m, t) (soS a l (m, t)).1 (soS a l (m, t)).2 := by
  have L := F.len; have ml := F.ml; have tl := F.tl
  have p := qov F ha l.length
  have ms := F.msum; have ts := F.tle
  have e1 : isum (tab l.length (fun j => m.getD j 0 - soX a l m j)) = isum m - qpi (soX a l m) l.length := by rw [qi6, qpn, qi5 m, ml]
  have e2 : isum (tab l.length (fun j => t.getD j 0 - soY a l m t j)) = isum t - qpi (soY a l m t) l.length := by rw [qi6, qpn, qi5 t, tl]
  have q1 := qi5 m; have q2 := qi5 t
  rw [ml] at q1; rw [tl] at q2
  refine ⟨F.mk' (qpr _ _) (qpr _ _) (fun i hi => ?_) (by show isum (tab l.length (fun j => m.getD j 0 - soX a l m j)) ≤ 10000000; omega), ⟨?_, ?_, ⟨Int.le_refl _, by show (0 : Int) ≤ _; omega⟩, ⟨p.1.1, by show qpi (soX a l m) _ ≤ _; omega⟩, ⟨Int.le_refl _, by show (0 : Int) ≤ _; omega⟩, ⟨p.2.1, by show qpi (soY a l m t) _ ≤ _; omega⟩⟩⟩
  · have a1 := F.at i; have a2 := qot F ha i; have a3 := qou F ha i
    show 0 ≤ (tab l.length (fun j => m.getD j 0 - soX a l m j)).getD i 0 ∧ 0 ≤ (tab l.length (fun j => t.getD j 0 - soY a l m t j)).getD i 0 ∧ (tab l.length (fun j => t.getD j 0 - soY a l m t j)).getD i 0 ≤ 1000 * (tab l.length (fun j => m.getD j 0 - soX a l m j)).getD i 0
    rw [qpq hi, qpq hi]; omega
  · show isum (tab l.length (fun j => m.getD j 0 - soX a l m j)) = isum m + 0 - qpi (soX a l m) l.length; omega
  · show isum (tab l.length (fun j => t.getD j 0 - soY a l m t j)) = isum t + 0 - qpi (soY a l m t) l.length; omega
theorem qe6 (F : StF r l m t b) {a : Int} (ha : 0 ≤ a ∧ a ≤ 1000) (j : Nat) : 0 ≤ deX a t j ∧ deX a t j ≤ t.getD j 0 := by
  have a1 := F.at j
  unfold deX
  have h1 := Int.mul_nonneg a1.2.2.1 ha.1
  have h2 : t.getD j 0 * a ≤ t.getD j 0 * 1000 := Int.mul_le_mul_of_nonneg_left ha.2 a1.2.2.1
  omega
theorem qe5 (F : StF r l m t b) {a : Int} (ha : 0 ≤ a ∧ a ≤ 1000) : StF r l (deS a l (m, t)).1.1 (deS a l (m, t)).1.2 b ∧ Led (m, t) (deS a l (m, t)).1 (deS a l (m, t)).2 := by
  have L := F.len; have ml := F.ml; have tl := F.tl
  have p1 := qpm l.length fun j _ => (qe6 F ha j).1
  have p2 := qpk l.length fun j _ => (qe6 F ha j).2
  have ts := F.tle
  have e2 : isum (tab l.length (fun j => t.getD j 0 - deX a t j)) = isum t - qpi (deX a t) l.length := by rw [qi6, qpn, qi5 t, tl]
  have q2 := qi5 t
  rw [tl] at q2
  refine ⟨F.mk' ml (qpr _ _) (fun i hi => ?_) F.sum, ⟨?_, ?_, ⟨Int.le_refl _, by show (0 : Int) ≤ _; omega⟩, ⟨Int.le_refl _, by show (0 : Int) ≤ _; omega⟩, ⟨Int.le_refl _, by show (0 : Int) ≤ _; omega⟩, ⟨p1, by show qpi (deX a t) _ ≤ _; omega⟩⟩⟩
  · have a1 := F.at i; have a2 := qe6 F ha i
    show 0 ≤ m.getD i 0 ∧ 0 ≤ (tab l.length (fun j => t.getD j 0 - deX a t j)).getD i 0 ∧ (tab l.length (fun j => t.getD j 0 - deX a t j)).getD i 0 ≤ 1000 * m.getD i 0
    rw [qpq hi]; omega
  · show isum m = isum m + 0 - 0; omega
  · show isum (tab l.length (fun j => t.getD j 0 - deX a t j)) = isum t + 0 - qpi (deX a t) l.length; omega
end
def tick (l : List Cell) (b : List Int) (i : Nat) (s : S2) : S2 := (tab l.length (stM (i : Int) l s.1 b), tab l.length (stT (i : Int) l s.1 s.2 b))
def qp1 (l : List Cell) (b : List Int) : Nat → Nat → S2 → S2
  | 0, i, s => s
  | n + 1, i, s => qp1 l b n (i + 1) (tick l b i s)
theorem qp2 {r : Int} {l : List Cell} {b : List Int} : ∀ (n i : Nat) (s : S2), StF r l s.1 s.2 b → StF r l (qp1 l b n i s).1 (qp1 l b n i s).2 b ∧ isum (qp1 l b n i s).1 = isum s.1 ∧ isum (qp1 l b n i s).2 = isum s.2
  | 0, i, s, F => ⟨F, rfl, rfl⟩
  | n + 1, i, s, F => by
    have h := qp2 n (i + 1) (tick l b i s) (qpb F i)
    exact ⟨h.1, h.2.1.trans (qpc F i), h.2.2.trans (qpd F i)⟩
end Go.Proofs.YtjfjniebmdafeaaGreatDoor
end
section
namespace Go.Proofs.YtjfjniebmdafeaaGreatDoor
open Go.Ev
structure StV (r : Int) (s : S3) (b : List Int) (M T : Int) : Prop where
  u : StU r s b
  m : isum s.2.1 = M
  t : isum s.2.2 = T
theorem rf_V {r : Int} {s : S3} {b : List Int} {M T : Int} (V : StV r s b M T) {i : Nat} (hi : i < s.1.length) (hl : qkg s.1 i < 4) : StV r (rfS s i) b M T := by
  have ml := V.u.ml; have tl := V.u.tl
  exact ⟨rf_U V.u hi hl, by show isum (rfM s.2.1 i) = M; rw [qna (by omega) (V.u.at i).1]; exact V.m, by show isum (rfT s.2.2 s.2.1 i) = T; rw [qnc (by omega)]; exact V.t⟩
theorem cm_V {r : Int} {s : S3} {b : List Int} {M T : Int} (V : StV r s b M T) {i : Nat} (hi : i + 1 < s.1.length) (hs : sib (s.1.getD i zz3) (s.1.getD (i + 1) zz3) = true) : StV r (cmS s i) b M T := by
  have ml := V.u.ml; have tl := V.u.tl
  exact ⟨cm_U V.u hi hs, by show isum (cmM s.2.1 i) = M; rw [qev (by omega)]; exact V.m, by show isum (cmM s.2.2 i) = T; rw [qev (by omega)]; exact V.t⟩
theorem qko {r : Int} {b : List Int} {M T : Int} : ∀ (n : Nat) (s : S3), StV r s b M T → 129 ≤ n + s.1.length → StV r (lvS n s) b M T
  | 0, s, V, hn => V
  | n + 1, s, V, hn => by
    unfold lvS
    by_cases g : unb s.1 < 0
    · rw [if_pos g]; exact V
    · rw [if_neg g]
      obtain ⟨j, e, h1, h2⟩ := qqb (by omega : 0 ≤ unb s.1)
      have c := qex V.u.mesh h1 h2
      rw [e, Int.toNat_natCast]
      exact qko n _ (rf_V V c.1 c.2) (by show 129 ≤ n + (qoy s.1 _).length; rw [qoz c.1]; omega)
theorem qox {r : Int} {b : List Int} {M T : Int} (w : List Int) (l0 : List Cell) (hw : ∀ j, w.getD j 0 = 1 → qkg l0 j < 4) : ∀ (n : Nat) (s : S3), StV r s b M T → n ≤ s.1.length → (∀ j, j < n → s.1.getD j zz3 = l0.getD j zz3) → StV r (spS w n s) b M T
  | 0, s, V, hn, he => V
  | n + 1, s, V, hn, he => by
    unfold spS
    by_cases g : w.getD n 0 = 1
    · rw [if_pos g]
      have hl : qkg s.1 n < 4 := by have := hw n g; unfold qkg at *; rw [he n (by omega)]; exact this
      exact qox w l0 hw n _ (rf_V V (by omega) hl) (by show n ≤ (qoy s.1 n).length; rw [qoz (by omega)]; omega) fun j hj => by
        show (qoy s.1 n).getD j zz3 = _
        rw [qo0 (by omega) hj]; exact he j (by omega)
    · rw [if_neg g]
      exact qox w l0 hw n s V (by omega) fun j hj => he j (by omega)
theorem qmb {r : Int} {b : List Int} {M T : Int} (P : Cell → Bool) : ∀ (n i : Nat) (s : S3), StV r s b M T → StV r (mgS P n i s) b M T
  | 0, i, s, V => V
  | n + 1, i, s, V => by
    unfold mgS
    by_cases g : i + 1 < s.1.length
    · rw [if_pos g]
      by_cases h : (P (s.1.getD i zz3) && (P (s.1.getD (i + 1) zz3) && mayC s.1 i)) = true
      · rw [if_pos h]
        simp only [Bool.and_eq_true, mayC] at h
        exact qmb P n (i + 1) _ (cm_V V g h.2.2.1)
      · rw [if_neg h]; exact qmb P n (i + 1) s V
    · rw [if_neg g]; exact V
def ada (hi lo : Int) (b : List Int) (s : S3) : S3 := adS (tab s.1.length (wsh s.1 s.2.1 b hi lo)) s
theorem qai {r : Int} {s : S3} {b : List Int} (F : StF r s.1 s.2.1 s.2.2 b) (hi lo : Int) : StF r (ada hi lo b s).1 (ada hi lo b s).2.1 (ada hi lo b s).2.2 b ∧ isum (ada hi lo b s).2.1 = isum s.2.1 ∧ isum (ada hi lo b s).2.2 = isum s.2.2 := by
  have V := qox (M := isum s.2.1) (T := isum s.2.2) (tab s.1.length (wsh s.1 s.2.1 b hi lo)) s.1 qqx s.1.length s ⟨F.toU, rfl, rfl⟩ (Nat.le_refl _) (fun j hj => rfl)
  have W := qko 128 _ V (by have := V.u.len; omega)
  have X := qmb (Pw (tab s.1.length (wsh s.1 s.2.1 b hi lo)) s.1) 128 0 _ W
  exact ⟨ad_U F hi lo, X.m, X.t⟩
def flow (p : Pl) (l : List Cell) (b : List Int) (s : S2) : S2 × Ld :=
  let s1 := boS p.bi p.bs p.bo s
  let s2 := raS p.rain l s1.1
  let s3 := soS p.loss l s2.1
  let s4 := deS p.dec l s3.1
  (qp1 l b 16 0 s4.1, ((s1.2.add s2.2).add s3.2).add s4.2)
def mac (p : Pl) (b : List Int) (k : Int) (s : S3) : S3 × Ld :=
  let x := flow p s.1 b s.2
  (if 0 < p.every ∧ (k + 1) % p.every = 0 then ada p.high p.low b (s.1, x.1) else (s.1, x.1), x.2)
structure PlF (p : Pl) : Prop where
  bi : 0 ≤ p.bi ∧ p.bi ≤ 10000
  bs : 0 ≤ p.bs ∧ p.bs ≤ 1000
  bo : 0 ≤ p.bo ∧ p.bo ≤ 250
  rain : 0 ≤ p.rain ∧ p.rain ≤ 10000
  loss : 0 ≤ p.loss ∧ p.loss ≤ 10000
  dec : 0 ≤ p.dec ∧ p.dec ≤ 1000
  high : 0 ≤ p.high ∧ p.high ≤ 1000000
  low : 0 ≤ p.low ∧ p.low ≤ 1000000
  every : 0 ≤ p.every ∧ p.every ≤ 100
structure Led4 (s s' : S2) (l : Ld) : Prop where
  m : isum s'.1 = isum s.1 + l.mi - l.mo
  t : isum s'.2 = isum s.2 + l.ti - l.ou
  mi : 0 ≤ l.mi ∧ l.mi ≤ 40000000
  mo : 0 ≤ l.mo ∧ l.mo ≤ 40000000
  ti : 0 ≤ l.ti ∧ l.ti ≤ 40000000000
  ou : 0 ≤ l.ou ∧ l.ou ≤ 40000000000
theorem Led4.comb {s s1 s2 s3 s4 s5 : S2} {l1 l2 l3 l4 : Ld} (h1 : Led s s1 l1) (h2 : Led s1 s2 l2) (h3 : Led s2 s3 l3) (h4 : Led s3 s4 l4) (e1 : isum s5.1 = isum s4.1) (e2 : isum s5.2 = isum s4.2) : Led4 s s5 (((l1.add l2).add l3).add l4) := by
  have a1 := h1.m; have a2 := h2.m; have a3 := h3.m; have a4 := h4.m
  have b1 := h1.t; have b2 := h2.t; have b3 := h3.t; have b4 := h4.t
  have c1 := h1.mi; have c2 := h2.mi; have c3 := h3.mi; have c4 := h4.mi
  have d1 := h1.mo; have d2 := h2.mo; have d3 := h3.mo; have d4 := h4.mo
  have f1 := h1.ti; have f2 := h2.ti; have f3 := h3.ti; have f4 := h4.ti
  have g1 := h1.ou; have g2 := h2.ou; have g3 := h3.ou; have g4 := h4.ou
  refine ⟨?_, ?_, ?_, ?_, ?_, ?_⟩
  · show isum s5.1 = isum s.1 + (l1.mi + l2.mi + l3.mi + l4.mi) - (l1.mo + l2.mo + l3.mo + l4.mo); omega
  · show isum s5.2 = isum s.2 + (l1.ti + l2.ti + l3.ti + l4.ti) - (l1.ou + l2.ou + l3.ou + l4.ou); omega
  · show 0 ≤ l1.mi + l2.mi + l3.mi + l4.mi ∧ l1.mi + l2.mi + l3.mi + l4.mi ≤ 40000000; omega
  · show 0 ≤ l1.mo + l2.mo + l3.mo + l4.mo ∧ l1.mo + l2.mo + l3.mo + l4.mo ≤ 40000000; omega
  · show 0 ≤ l1.ti + l2.ti + l3.ti + l4.ti ∧ l1.ti + l2.ti + l3.ti + l4.ti ≤ 40000000000; omega
  · show 0 ≤ l1.ou + l2.ou + l3.ou + l4.ou ∧ l1.ou + l2.ou + l3.ou + l4.ou ≤ 40000000000; omega
theorem qih {r : Int} {l : List Cell} {b : List Int} {s : S2} (F : StF r l s.1 s.2 b) {p : Pl} (P : PlF p) : StF r l (flow p l b s).1.1 (flow p l b s).1.2 b ∧ Led4 s (flow p l b s).1 (flow p l b s).2 := by
  have h1 := qa0 F P.bi P.bs P.bo
  have h2 := qm5 h1.1 P.rain
  have h3 := qos h2.1 P.loss
  have h4 := qe5 h3.1 P.dec
  have h5 := qp2 16 0 _ h4.1
  exact ⟨h5.1, Led4.comb h1.2 h2.2 h3.2 h4.2 h5.2.1 h5.2.2⟩
theorem qlr {r : Int} {b : List Int} {s : S3} (F : StF r s.1 s.2.1 s.2.2 b) {p : Pl} (P : PlF p) (k : Int) : StF r (mac p b k s).1.1 (mac p b k s).1.2.1 (mac p b k s).1.2.2 b ∧ Led4 s.2 (mac p b k s).1.2 (mac p b k s).2 := by
  have h := qih (s := s.2) F P
  unfold mac
  by_cases g : 0 < p.every ∧ (k + 1) % p.every = 0
  · simp only [if_pos g]
    have a := qai (s := (s.1, (flow p s.1 b s.2).1)) h.1 p.high p.low
    exact ⟨a.1, ⟨a.2.1.trans h.2.m, a.2.2.trans h.2.t, h.2.mi, h.2.mo, h.2.ti, h.2.ou⟩⟩
  · simp only [if_neg g]
    exact h
end Go.Proofs.YtjfjniebmdafeaaGreatDoor
end
section
namespace Go.Proofs.YtjfjniebmdafeaaGreatDoor
open Go.Ev
set_option maxRecDepth 20000
def sh (G : Nat → Int) (i u : Nat) (x : Int) (j : Nat) : Int := if j = u then G u + x else if j = i then G i - x else G j
end Go.Proofs.YtjfjniebmdafeaaGreatDoor
end
