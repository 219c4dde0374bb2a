/- What the program's functions compute, and plain facts of it (part 3). No condition beyond those that each theorem states. -/
import Derived.Test.YtjfjniebmdafeaaGreatDoorQR2
set_option linter.unusedVariables false
set_option linter.unusedSimpArgs false
section
namespace Go.Proofs.YtjfjniebmdafeaaGreatDoor
open Go.Ev
set_option maxRecDepth 20000
def jmp (l : List Cell) (m b : List Int) (i : Nat) : Int := max (if 0 < i then gap (surf l m b i) (surf l m b (i - 1)) else 0) (if i + 1 < l.length then gap (surf l m b i) (surf l m b (i + 1)) else 0)
theorem qi8 (a b : Int) : 0 ≤ gap a b := by unfold gap; split <;> omega
theorem qdz (k : Nat) (hk : 2000000 ≤ k) (r : Int) (z1 z2 z3 z4 : Bool) (l : List Cell) (m t b : List Int) (F : StF r l m t b) (i : Nat) (hi : i < l.length) :
    go (k + 2) spec_l16Jump [.agg [.int .i64 (r), .arr false (z1) (.r3 (l)), .arr false (z2) (.ints .i64 (m)), .arr false (z3) (.ints .i64 (t)), .arr false (z4) (.ints .i64 (b))], .int .i64 (i : Int)] = some [.int .i64 (jmp l m b i)] := by
  rw [qih]
  have L := F.len; have ml := F.ml
  have s0 := qqv F i; have s1 := qqv F (i - 1); have s2 := qqv F (i + 1)
  have g1 := qi8 (surf l m b i) (surf l m b (i - 1)); have g2 := qi8 (surf l m b i) (surf l m b (i + 1))
  have e0 := qdv k (by omega) r z1 z2 z3 z4 l m t b F i hi
  unfold jmp
  by_cases h0 : 0 < i
  · have ci : (i : Int) - 1 = ((i - 1 : Nat) : Int) := by omega
    have e1 := qdv k (by omega) r z1 z2 z3 z4 l m t b F (i - 1) (by omega)
    rw [if_pos h0]
    by_cases h1 : i + 1 < l.length
    · have e2 := qdv k (by omega) r z1 z2 z3 z4 l m t b F (i + 1) (by omega)
      rw [if_pos h1]
      simp (disch := omega) only [qay, nth0, nth1, nth2, nth3, bit, qef, qeg, qer, qew, qex, qey, qez, qe0, qe1, qe2, qeh, qei, qej, qek, qel, qem, qen, qeo, qep, qeq, qes, qet, qeu, qev, qrf, qre, qrg, qnd, qn3, qn5, qjh, qa5, qqo, nI, qfb, qe9, Bool.not_true, Bool.not_false, Bool.and_true, Bool.true_and, Bool.and_false, Bool.false_and, Bool.or_true, Bool.true_or, Bool.or_false, Bool.false_or, beq_self_eq_true, dTT, dFF, dT, dF, bigI, big0, qnc, qr4, qr5, List.length_set, List.length_replicate, Int.toNat_natCast, qed, qee, imax, imin, e0, e1, e2, ci, qdt]
      rw [show ∀ x y : Int, max x y = max y x from fun x y => by omega]
    · rw [if_neg h1]
      simp (disch := omega) only [qay, nth0, nth1, nth2, nth3, bit, qef, qeg, qer, qew, qex, qey, qez, qe0, qe1, qe2, qeh, qei, qej, qek, qel, qem, qen, qeo, qep, qeq, qes, qet, qeu, qev, qrf, qre, qrg, qnd, qn3, qn5, qjh, qa5, qqo, nI, qfb, qe9, Bool.not_true, Bool.not_false, Bool.and_true, Bool.true_and, Bool.and_false, Bool.false_and, Bool.or_true, Bool.true_or, Bool.or_false, Bool.false_or, beq_self_eq_true, dTT, dFF, dT, dF, bigI, big0, qnc, qr4, qr5, List.length_set, List.length_replicate, Int.toNat_natCast, qed, qee, imax, imin, e0, e1, ci, qdt]
      rw [show max (gap (surf l m b i) (surf l m b (i - 1))) 0 = gap (surf l m b i) (surf l m b (i - 1)) by omega]
  · rw [if_neg h0]
    by_cases h1 : i + 1 < l.length
    · have e2 := qdv k (by omega) r z1 z2 z3 z4 l m t b F (i + 1) (by omega)
      rw [if_pos h1]
      simp (disch := omega) only [qay, nth0, nth1, nth2, nth3, bit, qef, qeg, qer, qew, qex, qey, qez, qe0, qe1, qe2, qeh, qei, qej, qek, qel, qem, qen, qeo, qep, qeq, qes, qet, qeu, qev, qrf, qre, qrg, qnd, qn3, qn5, qjh, qa5, qqo, nI, qfb, qe9, Bool.not_true, Bool.not_false, Bool.and_true, Bool.true_and, Bool.and_false, Bool.false_and, Bool.or_true, Bool.true_or, Bool.or_false, Bool.false_or, beq_self_eq_true, dTT, dFF, dT, dF, bigI, big0, qnc, qr4, qr5, List.length_set, List.length_replicate, Int.toNat_natCast, qed, qee, imax, imin, e0, e2, qdt]
      rw [show ∀ x y : Int, max x y = max y x from fun x y => by omega]
    · rw [if_neg h1]
      simp (disch := omega) only [qay, nth0, nth1, nth2, nth3, bit, qef, qeg, qer, qew, qex, qey, qez, qe0, qe1, qe2, qeh, qei, qej, qek, qel, qem, qen, qeo, qep, qeq, qes, qet, qeu, qev, qrf, qre, qrg, qnd, qn3, qn5, qjh, qa5, qqo, nI, qfb, qe9, Bool.not_true, Bool.not_false, Bool.and_true, Bool.true_and, Bool.and_false, Bool.false_and, Bool.or_true, Bool.true_or, Bool.or_false, Bool.false_or, beq_self_eq_true, dTT, dFF, dT, dF, bigI, big0, qnc, qr4, qr5, List.length_set, List.length_replicate, Int.toNat_natCast, qed, qee, imax, imin]
      rfl
def wsh (l : List Cell) (m b : List Int) (hi lo : Int) (i : Nat) : Int := if hi < jmp l m b i ∧ qla l i < 4 then 1 else if jmp l m b i < lo ∧ 0 < qla l i then -1 else 0
theorem qq2 (n : Nat) (g : Nat → Int) : tab (n + 1) g = tab n g ++ [g n] := by
  unfold tab; rw [List.range_succ, List.map_append]; rfl
theorem qjw {r : Int} {l : List Cell} {m t b : List Int} (F : StF r l m t b) (i : Nat) : 0 ≤ jmp l m b i ∧ jmp l m b i ≤ 161000000 := by
  have s0 := qqv F i; have s1 := qqv F (i - 1); have s2 := qqv F (i + 1)
  unfold jmp gap
  by_cases h0 : 0 < i
  · rw [if_pos h0]
    by_cases h1 : i + 1 < l.length
    · rw [if_pos h1]; omega
    · rw [if_neg h1]; omega
  · rw [if_neg h0]
    by_cases h1 : i + 1 < l.length
    · rw [if_pos h1]; omega
    · rw [if_neg h1]; omega
theorem ql9 (k : Nat) (hk : 2000000 ≤ k) (fu : List (Nat × Nat)) (hi lo r : Int) (z1 z2 z3 z4 : Bool) (l : List Cell) (m t b : List Int) (F : StF r l m t b) : ∀ (N i : Nat), i ≤ l.length → l.length - i < N →
    lp (k + 2) spec_l16Wishes [] fu 3 (N) (qpf hi lo (i : Int) z1 l z2 m z3 t z4 b r false (tab i (wsh l m b hi lo))) = some [.arr true false (.ints .i64 (tab l.length (wsh l m b hi lo)))]
  | 0, i, hl, hN => by omega
  | N + 1, i, hl, hN => by
    rw [qky]
    have L := F.len; have ml := F.ml
    by_cases g : i < l.length
    · have IH := ql9 k hk fu hi lo r z1 z2 z3 z4 l m t b F N (i + 1) (by omega) (by omega)
      have eJ := qdz k (by omega) r z1 z2 z3 z4 l m t b F i g
      have la : ∀ x : Int, (tab i (wsh l m b hi lo) ++ [x]).length = i + 1 := fun x => by rw [List.length_append, qqy]; rfl
      rw [qq2] at IH
      have jb := qjw F i
      simp only [wsh, qla] at IH
      by_cases h1 : hi < jmp l m b i
      · by_cases h2 : (l.getD i zz3).2.1 < 4
        · rw [if_pos ⟨h1, h2⟩] at IH; simp (disch := omega) only [qay, nth0, nth1, nth2, nth3, bit, qef, qeg, qer, qew, qex, qey, qez, qe0, qe1, qe2, qeh, qei, qej, qek, qel, qem, qen, qeo, qep, qeq, qes, qet, qeu, qev, qrf, qre, qrg, qnd, qn3, qn5, qjh, qa5, qqo, nI, qfb, qe9, Bool.not_true, Bool.not_false, Bool.and_true, Bool.true_and, Bool.and_false, Bool.false_and, Bool.or_true, Bool.true_or, Bool.or_false, Bool.false_or, beq_self_eq_true, dTT, dFF, dT, dF, bigI, big0, qnc, qr4, qr5, List.length_set, List.length_replicate, Int.toNat_natCast, qed, qee, imax, imin, eJ, la, IH]
        · rw [if_neg (fun h => h2 h.2)] at IH
          by_cases h3 : jmp l m b i < lo
          · have h4 : 0 < (l.getD i zz3).2.1 := by omega
            rw [if_pos ⟨h3, h4⟩] at IH; simp (disch := omega) only [qay, nth0, nth1, nth2, nth3, bit, qef, qeg, qer, qew, qex, qey, qez, qe0, qe1, qe2, qeh, qei, qej, qek, qel, qem, qen, qeo, qep, qeq, qes, qet, qeu, qev, qrf, qre, qrg, qnd, qn3, qn5, qjh, qa5, qqo, nI, qfb, qe9, Bool.not_true, Bool.not_false, Bool.and_true, Bool.true_and, Bool.and_false, Bool.false_and, Bool.or_true, Bool.true_or, Bool.or_false, Bool.false_or, beq_self_eq_true, dTT, dFF, dT, dF, bigI, big0, qnc, qr4, qr5, List.length_set, List.length_replicate, Int.toNat_natCast, qed, qee, imax, imin, eJ, la, IH]
          · rw [if_neg (fun h => h3 h.1)] at IH; simp (disch := omega) only [qay, nth0, nth1, nth2, nth3, bit, qef, qeg, qer, qew, qex, qey, qez, qe0, qe1, qe2, qeh, qei, qej, qek, qel, qem, qen, qeo, qep, qeq, qes, qet, qeu, qev, qrf, qre, qrg, qnd, qn3, qn5, qjh, qa5, qqo, nI, qfb, qe9, Bool.not_true, Bool.not_false, Bool.and_true, Bool.true_and, Bool.and_false, Bool.false_and, Bool.or_true, Bool.true_or, Bool.or_false, Bool.false_or, beq_self_eq_true, dTT, dFF, dT, dF, bigI, big0, qnc, qr4, qr5, List.length_set, List.length_replicate, Int.toNat_natCast, qed, qee, imax, imin, eJ, la, IH]
      · rw [if_neg (fun h => h1 h.1)] at IH
        by_cases h3 : jmp l m b i < lo
        · by_cases h4 : 0 < (l.getD i zz3).2.1
          · rw [if_pos ⟨h3, h4⟩] at IH; simp (disch := omega) only [qay, nth0, nth1, nth2, nth3, bit, qef, qeg, qer, qew, qex, qey, qez, qe0, qe1, qe2, qeh, qei, qej, qek, qel, qem, qen, qeo, qep, qeq, qes, qet, qeu, qev, qrf, qre, qrg, qnd, qn3, qn5, qjh, qa5, qqo, nI, qfb, qe9, Bool.not_true, Bool.not_false, Bool.and_true, Bool.true_and, Bool.and_false, Bool.false_and, Bool.or_true, Bool.true_or, Bool.or_false, Bool.false_or, beq_self_eq_true, dTT, dFF, dT, dF, bigI, big0, qnc, qr4, qr5, List.length_set, List.length_replicate, Int.toNat_natCast, qed, qee, imax, imin, eJ, la, IH]
          · rw [if_neg (fun h => h4 h.2)] at IH; simp (disch := omega) only [qay, nth0, nth1, nth2, nth3, bit, qef, qeg, qer, qew, qex, qey, qez, qe0, qe1, qe2, qeh, qei, qej, qek, qel, qem, qen, qeo, qep, qeq, qes, qet, qeu, qev, qrf, qre, qrg, qnd, qn3, qn5, qjh, qa5, qqo, nI, qfb, qe9, Bool.not_true, Bool.not_false, Bool.and_true, Bool.true_and, Bool.and_false, Bool.false_and, Bool.or_true, Bool.true_or, Bool.or_false, Bool.false_or, beq_self_eq_true, dTT, dFF, dT, dF, bigI, big0, qnc, qr4, qr5, List.length_set, List.length_replicate, Int.toNat_natCast, qed, qee, imax, imin, eJ, la, IH]
        · rw [if_neg (fun h => h3 h.1)] at IH; simp (disch := omega) only [qay, nth0, nth1, nth2, nth3, bit, qef, qeg, qer, qew, qex, qey, qez, qe0, qe1, qe2, qeh, qei, qej, qek, qel, qem, qen, qeo, qep, qeq, qes, qet, qeu, qev, qrf, qre, qrg, qnd, qn3, qn5, qjh, qa5, qqo, nI, qfb, qe9, Bool.not_true, Bool.not_false, Bool.and_true, Bool.true_and, Bool.and_false, Bool.false_and, Bool.or_true, Bool.true_or, Bool.or_false, Bool.false_or, beq_self_eq_true, dTT, dFF, dT, dF, bigI, big0, qnc, qr4, qr5, List.length_set, List.length_replicate, Int.toNat_natCast, qed, qee, imax, imin, eJ, la, IH]
    · simp (disch := omega) only [qay, nth0, nth1, nth2, nth3, bit, qef, qeg, qer, qew, qex, qey, qez, qe0, qe1, qe2, qeh, qei, qej, qek, qel, qem, qen, qeo, qep, qeq, qes, qet, qeu, qev, qrf, qre, qrg, qnd, qn3, qn5, qjh, qa5, qqo, nI, qfb, qe9, Bool.not_true, Bool.not_false, Bool.and_true, Bool.true_and, Bool.and_false, Bool.false_and, Bool.or_true, Bool.true_or, Bool.or_false, Bool.false_or, beq_self_eq_true, dTT, dFF, dT, dF, bigI, big0, qnc, qr4, qr5, List.length_set, List.length_replicate, Int.toNat_natCast, qed, qee, imax, imin]
      rw [show i = l.length by omega]
theorem qc1 (k : Nat) (hk : 2000000 ≤ k) (hi lo r : Int) (z1 z2 z3 z4 : Bool) (l : List Cell) (m t b : List Int) (F : StF r l m t b) :
    go (k + 3) spec_l16Wishes [.agg [.int .i64 (r), .arr false (z1) (.r3 (l)), .arr false (z2) (.ints .i64 (m)), .arr false (z3) (.ints .i64 (t)), .arr false (z4) (.ints .i64 (b))], .int .i64 hi, .int .i64 lo] = some [.arr true false (.ints .i64 (tab l.length (wsh l m b hi lo)))] := by
  rw [qii]
  have L := F.len
  exact ql9 k hk [] hi lo r z1 z2 z3 z4 l m t b F _ 0 (by omega) (by omega)
end Go.Proofs.YtjfjniebmdafeaaGreatDoor
end
section
namespace Go.Proofs.YtjfjniebmdafeaaGreatDoor
open Go.Ev
set_option maxRecDepth 20000
def qle (x : Cell) : List Cell → Nat → Int
  | [], _ => -1
  | y :: r, i => if y = x then (i : Int) else qle x r (i + 1)
def lof (l : List Cell) (x : Cell) : Int := qle x l 0
theorem ql2 (k : Nat) (hk : 2000000 ≤ k) (fu : List (Nat × Nat)) (r : Int) (z : Bool) (l : List Cell) (x : Cell) (hl : l.length ≤ 1048576) : ∀ (N i : Nat), i ≤ l.length → l.length - i < N →
    lp k spec_LeafOf [] fu 2 (N) (qoz (i : Int) z l r x.1 x.2.1 x.2.2) = some [.int .i64 (qle x (l.drop i) i)]
  | 0, i, hi, hN => by omega
  | N + 1, i, hi, hN => by
    rw [qki]
    by_cases g : i < l.length
    · have IH := ql2 k hk fu r z l x hl N (i + 1) (by omega) (by omega)
      rw [qfo g zz3, qle]
      by_cases h : l.getD i zz3 = x
      · rw [if_pos h]; simp (disch := omega) only [qay, nth0, nth1, nth2, nth3, bit, qef, qeg, qer, qew, qex, qey, qez, qe0, qe1, qe2, qeh, qei, qej, qek, qel, qem, qen, qeo, qep, qeq, qes, qet, qeu, qev, qrf, qre, qrg, qnd, qn3, qn5, qjh, qa5, qqo, nI, qfb, qe9, Bool.not_true, Bool.not_false, Bool.and_true, Bool.true_and, Bool.and_false, Bool.false_and, Bool.or_true, Bool.true_or, Bool.or_false, Bool.false_or, beq_self_eq_true, dTT, dFF, dT, dF, bigI, big0, qnc, qr4, qr5, List.length_set, List.length_replicate, Int.toNat_natCast, qed, qee, imax, imin, h]
      · rw [if_neg h]
        have : (decide ((l.getD i zz3).1 = x.1) && (decide ((l.getD i zz3).2.1 = x.2.1) && decide ((l.getD i zz3).2.2 = x.2.2))) = false := by
          rw [← Bool.not_eq_true]
          intro e
          simp only [Bool.and_eq_true, decide_eq_true_eq] at e
          exact h (Prod.ext e.1 (Prod.ext e.2.1 e.2.2))
        simp (disch := omega) only [qay, nth0, nth1, nth2, nth3, bit, qef, qeg, qer, qew, qex, qey, qez, qe0, qe1, qe2, qeh, qei, qej, qek, qel, qem, qen, qeo, qep, qeq, qes, qet, qeu, qev, qrf, qre, qrg, qnd, qn3, qn5, qjh, qa5, qqo, nI, qfb, qe9, Bool.not_true, Bool.not_false, Bool.and_true, Bool.true_and, Bool.and_false, Bool.false_and, Bool.or_true, Bool.true_or, Bool.or_false, Bool.false_or, beq_self_eq_true, dTT, dFF, dT, dF, bigI, big0, qnc, qr4, qr5, List.length_set, List.length_replicate, Int.toNat_natCast, qed, qee, imax, imin, this, IH]
    · rw [List.drop_of_length_le (by omega)]; simp (disch := omega) only [qay, nth0, nth1, nth2, nth3, bit, qef, qeg, qer, qew, qex, qey, qez, qe0, qe1, qe2, qeh, qei, qej, qek, qel, qem, qen, qeo, qep, qeq, qes, qet, qeu, qev, qrf, qre, qrg, qnd, qn3, qn5, qjh, qa5, qqo, nI, qfb, qe9, Bool.not_true, Bool.not_false, Bool.and_true, Bool.true_and, Bool.and_false, Bool.false_and, Bool.or_true, Bool.true_or, Bool.or_false, Bool.false_or, beq_self_eq_true, dTT, dFF, dT, dF, bigI, big0, qnc, qr4, qr5, List.length_set, List.length_replicate, Int.toNat_natCast, qed, qee, imax, imin]; rfl
theorem qcp (k : Nat) (hk : 2000000 ≤ k) (r : Int) (z : Bool) (l : List Cell) (x : Cell) (hl : l.length ≤ 1048576) : go (k + 1) spec_LeafOf [.agg [.int .i64 r, .arr false z (.r3 l)], .agg [.int .i64 x.1, .int .i64 x.2.1, .int .i64 x.2.2]] = some [.int .i64 (lof l x)] := by
  rw [qg6]
  exact ql2 k hk [] r z l x hl _ 0 (by omega) (by omega)
theorem qlf (x : Cell) : ∀ (l : List Cell) (i : Nat), (qle x l i = -1 ∧ x ∉ l) ∨ ∃ j, j < l.length ∧ qle x l i = ((i + j : Nat) : Int) ∧ l.getD j zz3 = x
  | [], i => Or.inl ⟨rfl, by simp⟩
  | y :: r, i => by
    unfold qle
    by_cases h : y = x
    · rw [if_pos h]; exact Or.inr ⟨0, by simp, by simp, by simpa using h⟩
    · rw [if_neg h]
      rcases qlf x r (i + 1) with ⟨e, n⟩ | ⟨j, hj, e, n⟩
      · exact Or.inl ⟨e, by simp only [List.mem_cons, not_or]; exact ⟨fun e => h e.symm, n⟩⟩
      · exact Or.inr ⟨j + 1, by simp; omega, by rw [e]; congr 1; omega, by simpa using n⟩
theorem qlg (l : List Cell) (x : Cell) : (lof l x = -1 ∧ x ∉ l) ∨ ∃ j, j < l.length ∧ lof l x = (j : Int) ∧ l.getD j zz3 = x := by
  rcases qlf x l 0 with h | ⟨j, hj, e, n⟩
  · exact Or.inl h
  · exact Or.inr ⟨j, hj, by unfold lof; rw [e, Nat.zero_add], n⟩
def Pw (w : List Int) (l0 : List Cell) (x : Cell) : Bool := decide (0 ≤ lof l0 x) && decide (w.getD (lof l0 x).toNat 0 = -1)
def adS (w : List Int) (s : S3) : S3 := mgS (Pw w s.1) 128 0 (lvS 128 (spS w s.1.length s))
set_option maxHeartbeats 1000000 in
theorem qmi (k : Nat) (hk : 2000000 ≤ k) (fu : List (Nat × Nat)) (z1 z2 z3 z4 : Bool) (l0 : List Cell) (m0 t0 b0 : List Int) (r0 : Int) (q1 : Bool) (p1 : List Cell) (q2 : Bool) (p2 : List Int) (q3 : Bool) (p3 : List Int) (q4 : Bool) (p4 : List Int) (x18 : Int) (zw : Bool) (w : List Int) (r : Int) (b : List Int) (hl0 : l0.length ≤ 128) (hw : w.length = l0.length) : ∀ (F N i : Nat) (s : S3), s.1.length - i ≤ F → F < N → i + F ≤ 4096 → StU r s b →
    lp (k + 6) spec_l17Adapt [] fu 10 (N) (qpg (i : Int) z1 l0 z2 m0 z3 t0 z4 b0 r0 q1 p1 q2 p2 q3 p3 q4 p4 x18 zw w false s.1 false s.2.1 false s.2.2 false b r) = some [.agg [.int .i64 (r), .arr true (false) (.r3 ((mgS (Pw w l0) F i s).1)), .arr true (false) (.ints .i64 ((mgS (Pw w l0) F i s).2.1)), .arr true (false) (.ints .i64 ((mgS (Pw w l0) F i s).2.2)), .arr true (false) (.ints .i64 (b))]]
  | F, 0, i, s, hF, hN, hi, U => by omega
  | 0, N + 1, i, s, hF, hN, hi, U => by
    rw [qkz]
    have L := U.len; have ml := U.ml; have tl := U.tl
    simp (disch := omega) only [qay, nth0, nth1, nth2, nth3, bit, qef, qeg, qer, qew, qex, qey, qez, qe0, qe1, qe2, qeh, qei, qej, qek, qel, qem, qen, qeo, qep, qeq, qes, qet, qeu, qev, qrf, qre, qrg, qnd, qn3, qn5, qjh, qa5, qqo, nI, qfb, qe9, Bool.not_true, Bool.not_false, Bool.and_true, Bool.true_and, Bool.and_false, Bool.false_and, Bool.or_true, Bool.true_or, Bool.or_false, Bool.false_or, beq_self_eq_true, dTT, dFF, dT, dF, bigI, big0, qnc, qr4, qr5, List.length_set, List.length_replicate, Int.toNat_natCast, qed, qee, imax, imin]; rfl
  | F + 1, N + 1, i, s, hF, hN, hi, U => by
    rw [qkz]
    have L := U.len; have ml := U.ml; have tl := U.tl
    unfold mgS
    by_cases g : i + 1 < s.1.length
    · rw [if_pos g]
      have IH0 := qmi k hk fu z1 z2 z3 z4 l0 m0 t0 b0 r0 q1 p1 q2 p2 q3 p3 q4 p4 x18 zw w r b hl0 hw F N (i + 1) s (by omega) (by omega) (by omega) U
      have eX := qcp (k + 5) (by omega) r0 z1 l0 (s.1.getD i zz3) (by omega)
      have eY := qcp (k + 5) (by omega) r0 z1 l0 (s.1.getD (i + 1) zz3) (by omega)
      have eM := qdl (k + 2) (by omega) r false s.1 U.mesh i g
      rcases qlg l0 (s.1.getD i zz3) with ⟨ex, _⟩ | ⟨j, hj, ex, _⟩
      · have pX : Pw w l0 (s.1.getD i zz3) = false := by unfold Pw; rw [ex]; simp
        rw [ex] at eX
        rw [if_neg (by rw [pX]; simp)]
        simp (disch := omega) only [qay, nth0, nth1, nth2, nth3, bit, qef, qeg, qer, qew, qex, qey, qez, qe0, qe1, qe2, qeh, qei, qej, qek, qel, qem, qen, qeo, qep, qeq, qes, qet, qeu, qev, qrf, qre, qrg, qnd, qn3, qn5, qjh, qa5, qqo, nI, qfb, qe9, Bool.not_true, Bool.not_false, Bool.and_true, Bool.true_and, Bool.and_false, Bool.false_and, Bool.or_true, Bool.true_or, Bool.or_false, Bool.false_or, beq_self_eq_true, dTT, dFF, dT, dF, bigI, big0, qnc, qr4, qr5, List.length_set, List.length_replicate, Int.toNat_natCast, qed, qee, imax, imin, eX, eY, IH0]
      have pX : Pw w l0 (s.1.getD i zz3) = decide (w.getD j 0 = -1) := by unfold Pw; rw [ex]; simp
      rw [ex] at eX
      rcases qlg l0 (s.1.getD (i + 1) zz3) with ⟨ey, _⟩ | ⟨q, hq, ey, _⟩
      · have pY : Pw w l0 (s.1.getD (i + 1) zz3) = false := by unfold Pw; rw [ey]; simp
        rw [ey] at eY
        rw [if_neg (by rw [pY]; simp)]
        simp (disch := omega) only [qay, nth0, nth1, nth2, nth3, bit, qef, qeg, qer, qew, qex, qey, qez, qe0, qe1, qe2, qeh, qei, qej, qek, qel, qem, qen, qeo, qep, qeq, qes, qet, qeu, qev, qrf, qre, qrg, qnd, qn3, qn5, qjh, qa5, qqo, nI, qfb, qe9, Bool.not_true, Bool.not_false, Bool.and_true, Bool.true_and, Bool.and_false, Bool.false_and, Bool.or_true, Bool.true_or, Bool.or_false, Bool.false_or, beq_self_eq_true, dTT, dFF, dT, dF, bigI, big0, qnc, qr4, qr5, List.length_set, List.length_replicate, Int.toNat_natCast, qed, qee, imax, imin, eX, eY, IH0]
      have pY : Pw w l0 (s.1.getD (i + 1) zz3) = decide (w.getD q 0 = -1) := by unfold Pw; rw [ey]; simp
      rw [ey] at eY
      by_cases h1 : w.getD j 0 = -1
      · by_cases h2 : w.getD q 0 = -1
        · rw [dT h1] at pX
          rw [dT h2] at pY
          cases hm : mayC s.1 i
          · rw [if_neg (by rw [pX, pY]; simp)]
            simp (disch := omega) only [qay, nth0, nth1, nth2, nth3, bit, qef, qeg, qer, qew, qex, qey, qez, qe0, qe1, qe2, qeh, qei, qej, qek, qel, qem, qen, qeo, qep, qeq, qes, qet, qeu, qev, qrf, qre, qrg, qnd, qn3, qn5, qjh, qa5, qqo, nI, qfb, qe9, Bool.not_true, Bool.not_false, Bool.and_true, Bool.true_and, Bool.and_false, Bool.false_and, Bool.or_true, Bool.true_or, Bool.or_false, Bool.false_or, beq_self_eq_true, dTT, dFF, dT, dF, bigI, big0, qnc, qr4, qr5, List.length_set, List.length_replicate, Int.toNat_natCast, qed, qee, imax, imin, eX, eY, h1, h2, eM, hm, IH0]
          · have hs := hm
            simp only [mayC, Bool.and_eq_true] at hs
            have sl := qpu hs.1
            have U' := cm_U U g hs.1
            have ln := qmu g
            have IH1 := qmi k hk fu z1 z2 z3 z4 l0 m0 t0 b0 r0 q1 p1 q2 p2 q3 p3 q4 p4 x18 zw w r b hl0 hw F N (i + 1) (cmS s i) (by show (qmt s.1 i).length - (i + 1) ≤ F; omega) (by omega) (by omega) U'
            have eG := qdq (k + 1) (by omega) r s b U i g sl
            rw [if_pos (by rw [pX, pY]; simp)]
            simp (disch := omega) only [qay, nth0, nth1, nth2, nth3, bit, qef, qeg, qer, qew, qex, qey, qez, qe0, qe1, qe2, qeh, qei, qej, qek, qel, qem, qen, qeo, qep, qeq, qes, qet, qeu, qev, qrf, qre, qrg, qnd, qn3, qn5, qjh, qa5, qqo, nI, qfb, qe9, Bool.not_true, Bool.not_false, Bool.and_true, Bool.true_and, Bool.and_false, Bool.false_and, Bool.or_true, Bool.true_or, Bool.or_false, Bool.false_or, beq_self_eq_true, dTT, dFF, dT, dF, bigI, big0, qnc, qr4, qr5, List.length_set, List.length_replicate, Int.toNat_natCast, qed, qee, imax, imin, eX, eY, h1, h2, eM, hm, eG, IH1]
        · rw [dF h2] at pY
          rw [if_neg (by rw [pY]; simp)]
          simp (disch := omega) only [qay, nth0, nth1, nth2, nth3, bit, qef, qeg, qer, qew, qex, qey, qez, qe0, qe1, qe2, qeh, qei, qej, qek, qel, qem, qen, qeo, qep, qeq, qes, qet, qeu, qev, qrf, qre, qrg, qnd, qn3, qn5, qjh, qa5, qqo, nI, qfb, qe9, Bool.not_true, Bool.not_false, Bool.and_true, Bool.true_and, Bool.and_false, Bool.false_and, Bool.or_true, Bool.true_or, Bool.or_false, Bool.false_or, beq_self_eq_true, dTT, dFF, dT, dF, bigI, big0, qnc, qr4, qr5, List.length_set, List.length_replicate, Int.toNat_natCast, qed, qee, imax, imin, eX, eY, h1, h2, IH0]
      · rw [dF h1] at pX
        rw [if_neg (by rw [pX]; simp)]
        simp (disch := omega) only [qay, nth0, nth1, nth2, nth3, bit, qef, qeg, qer, qew, qex, qey, qez, qe0, qe1, qe2, qeh, qei, qej, qek, qel, qem, qen, qeo, qep, qeq, qes, qet, qeu, qev, qrf, qre, qrg, qnd, qn3, qn5, qjh, qa5, qqo, nI, qfb, qe9, Bool.not_true, Bool.not_false, Bool.and_true, Bool.true_and, Bool.and_false, Bool.false_and, Bool.or_true, Bool.true_or, Bool.or_false, Bool.false_or, beq_self_eq_true, dTT, dFF, dT, dF, bigI, big0, qnc, qr4, qr5, List.length_set, List.length_replicate, Int.toNat_natCast, qed, qee, imax, imin, eX, eY, h1, IH0]
    · rw [if_neg g]; simp (disch := omega) only [qay, nth0, nth1, nth2, nth3, bit, qef, qeg, qer, qew, qex, qey, qez, qe0, qe1, qe2, qeh, qei, qej, qek, qel, qem, qen, qeo, qep, qeq, qes, qet, qeu, qev, qrf, qre, qrg, qnd, qn3, qn5, qjh, qa5, qqo, nI, qfb, qe9, Bool.not_true, Bool.not_false, Bool.and_true, Bool.true_and, Bool.and_false, Bool.false_and, Bool.or_true, Bool.true_or, Bool.or_false, Bool.false_or, beq_self_eq_true, dTT, dFF, dT, dF, bigI, big0, qnc, qr4, qr5, List.length_set, List.length_replicate, Int.toNat_natCast, qed, qee, imax, imin]
theorem qml (k : Nat) (hk : 2000000 ≤ k) (fu : List (Nat × Nat)) (z1 z2 z3 z4 : Bool) (l0 : List Cell) (m0 t0 b0 : List Int) (r0 : Int) (q1 : Bool) (p1 : List Cell) (q2 : Bool) (p2 : List Int) (q3 : Bool) (p3 : List Int) (q4 : Bool) (p4 : List Int) (x18 : Int) (zw : Bool) (w : List Int) (r : Int) (b : List Int) (hl0 : l0.length ≤ 128) (hw : w.length = l0.length) (hw1 : ∀ j, w.getD j 0 = 1 → qla l0 j < 4) : ∀ (N n : Nat) (s : S3), n < N → n ≤ l0.length → n ≤ s.1.length → (∀ j, j < n → s.1.getD j zz3 = l0.getD j zz3) → StU r s b →
    lp (k + 6) spec_l17Adapt [] fu 4 (N) (qph ((n : Int) - 1) z1 l0 z2 m0 z3 t0 z4 b0 r0 q1 p1 q2 p2 q3 p3 q4 p4 x18 zw w false s.1 false s.2.1 false s.2.2 false b r) = some [.agg [.int .i64 (r), .arr true (false) (.r3 ((mgS (Pw w l0) 128 0 (lvS 128 (spS w n s))).1)), .arr true (false) (.ints .i64 ((mgS (Pw w l0) 128 0 (lvS 128 (spS w n s))).2.1)), .arr true (false) (.ints .i64 ((mgS (Pw w l0) 128 0 (lvS 128 (spS w n s))).2.2)), .arr true (false) (.ints .i64 (b))]]
  | 0, n, s, hN, hn, hs, he, U => by omega
  | N + 1, 0, s, hN, hn, hs, he, U => by
    rw [qk0]
    have L := U.len
    have eL := qd7 k (by omega) r s b U
    have U' := (qlh 128 s U (by omega)).1
    have L' := U'.len
    have e := qmi k hk fu z1 z2 z3 z4 l0 m0 t0 b0 r0 q1 p1 q2 p2 q3 p3 q4 p4 x18 zw w r b hl0 hw 128 (k + 6) 0 (lvS 128 s) (by omega) (by omega) (by omega) U'
    rw [show ((0 : Nat) : Int) = 0 from rfl] at e ⊢
    simp (disch := omega) only [qay, nth0, nth1, nth2, nth3, bit, qef, qeg, qer, qew, qex, qey, qez, qe0, qe1, qe2, qeh, qei, qej, qek, qel, qem, qen, qeo, qep, qeq, qes, qet, qeu, qev, qrf, qre, qrg, qnd, qn3, qn5, qjh, qa5, qqo, nI, qfb, qe9, Bool.not_true, Bool.not_false, Bool.and_true, Bool.true_and, Bool.and_false, Bool.false_and, Bool.or_true, Bool.true_or, Bool.or_false, Bool.false_or, beq_self_eq_true, dTT, dFF, dT, dF, bigI, big0, qnc, qr4, qr5, List.length_set, List.length_replicate, Int.toNat_natCast, qed, qee, imax, imin, eL, e]
    rfl
  | N + 1, n + 1, s, hN, hn, hs, he, U => by
    rw [show ((n + 1 : Nat) : Int) - 1 = (n : Int) by omega, qk0]
    have L := U.len
    unfold spS
    by_cases h1 : w.getD n 0 = 1
    · rw [if_pos h1]
      have hl : qla s.1 n < 4 := by have := hw1 n h1; unfold qla at *; rw [he n (by omega)]; exact this
      have U' := rf_U U (show n < s.1.length by omega) hl
      have ln := qp4 (show n < s.1.length by omega)
      have IH := qml k hk fu z1 z2 z3 z4 l0 m0 t0 b0 r0 q1 p1 q2 p2 q3 p3 q4 p4 x18 zw w r b hl0 hw hw1 N n (rfS s n) (by omega) (by omega) (by show n ≤ (qp3 s.1 n).length; omega) (fun j hj => by
        show (qp3 s.1 n).getD j zz3 = _
        rw [qp5 (by omega) hj]; exact he j (by omega)) U'
      have eS := qdr (k + 1) (by omega) r s b U n (by omega) hl
      simp (disch := omega) only [qay, nth0, nth1, nth2, nth3, bit, qef, qeg, qer, qew, qex, qey, qez, qe0, qe1, qe2, qeh, qei, qej, qek, qel, qem, qen, qeo, qep, qeq, qes, qet, qeu, qev, qrf, qre, qrg, qnd, qn3, qn5, qjh, qa5, qqo, nI, qfb, qe9, Bool.not_true, Bool.not_false, Bool.and_true, Bool.true_and, Bool.and_false, Bool.false_and, Bool.or_true, Bool.true_or, Bool.or_false, Bool.false_or, beq_self_eq_true, dTT, dFF, dT, dF, bigI, big0, qnc, qr4, qr5, List.length_set, List.length_replicate, Int.toNat_natCast, qed, qee, imax, imin, h1, eS, IH]
    · rw [if_neg h1]
      have IH := qml k hk fu z1 z2 z3 z4 l0 m0 t0 b0 r0 q1 p1 q2 p2 q3 p3 q4 p4 x18 zw w r b hl0 hw hw1 N n s (by omega) (by omega) (by omega) (fun j hj => he j (by omega)) U
      simp (disch := omega) only [qay, nth0, nth1, nth2, nth3, bit, qef, qeg, qer, qew, qex, qey, qez, qe0, qe1, qe2, qeh, qei, qej, qek, qel, qem, qen, qeo, qep, qeq, qes, qet, qeu, qev, qrf, qre, qrg, qnd, qn3, qn5, qjh, qa5, qqo, nI, qfb, qe9, Bool.not_true, Bool.not_false, Bool.and_true, Bool.true_and, Bool.and_false, Bool.false_and, Bool.or_true, Bool.true_or, Bool.or_false, Bool.false_or, beq_self_eq_true, dTT, dFF, dT, dF, bigI, big0, qnc, qr4, qr5, List.length_set, List.length_replicate, Int.toNat_natCast, qed, qee, imax, imin, IH]
theorem qr6 {l : List Cell} {m b : List Int} {hi lo : Int} (j : Nat) (h : (tab l.length (wsh l m b hi lo)).getD j 0 = 1) : qla l j < 4 := by
  by_cases hj : j < l.length
  · rw [qqx hj] at h
    unfold wsh at h
    by_cases c : hi < jmp l m b j ∧ qla l j < 4
    · exact c.2
    · rw [if_neg c] at h
      split at h <;> omega
  · rw [qi9 (by rw [qqy]; omega)] at h; omega
theorem qd0 (k : Nat) (hk : 2000000 ≤ k) (r : Int) (l : List Cell) (m t b : List Int) (F : StF r l m t b) (hi lo : Int) :
    go (k + 7) spec_l17Adapt [.agg [.int .i64 (r), .arr false (false) (.r3 (l)), .arr false (false) (.ints .i64 (m)), .arr false (false) (.ints .i64 (t)), .arr false (false) (.ints .i64 (b))], .int .i64 hi, .int .i64 lo] = some [.agg [.int .i64 (r), .arr true (false) (.r3 ((adS (tab l.length (wsh l m b hi lo)) (l, m, t)).1)), .arr true (false) (.ints .i64 ((adS (tab l.length (wsh l m b hi lo)) (l, m, t)).2.1)), .arr true (false) (.ints .i64 ((adS (tab l.length (wsh l m b hi lo)) (l, m, t)).2.2)), .arr true (false) (.ints .i64 (b))]] := by
  rw [qij]
  have L := F.len; have ml := F.ml; have tl := F.tl; have bl := F.bl; have rr := F.rr
  have eW := qc1 (k + 3) (by omega) hi lo r false false false false l m t b F
  simp (disch := omega) only [qay, nth0, nth1, nth2, nth3, bit, qef, qeg, qer, qew, qex, qey, qez, qe0, qe1, qe2, qeh, qei, qej, qek, qel, qem, qen, qeo, qep, qeq, qes, qet, qeu, qev, qrf, qre, qrg, qnd, qn3, qn5, qjh, qa5, qqo, nI, qfb, qe9, Bool.not_true, Bool.not_false, Bool.and_true, Bool.true_and, Bool.and_false, Bool.false_and, Bool.or_true, Bool.true_or, Bool.or_false, Bool.false_or, beq_self_eq_true, dTT, dFF, dT, dF, bigI, big0, qnc, qr4, qr5, List.length_set, List.length_replicate, Int.toNat_natCast, qed, qee, imax, imin, eW, qdn, qqy]
  exact qml k hk [] false false false false l m t b r true [] true [] true [] true [] 0 false _ r b (by omega) (qqy _ _) qr6 (k + 6) l.length (l, m, t) (by omega) (by omega) (by show l.length ≤ l.length; omega) (fun j hj => rfl) F.toU
theorem ad_U {r : Int} {l : List Cell} {m t b : List Int} (F : StF r l m t b) (hi lo : Int) : StF r (adS (tab l.length (wsh l m b hi lo)) (l, m, t)).1 (adS (tab l.length (wsh l m b hi lo)) (l, m, t)).2.1 (adS (tab l.length (wsh l m b hi lo)) (l, m, t)).2.2 b := by
  have U := qpz (tab l.length (wsh l m b hi lo)) l qr6 l.length (l, m, t) F.toU (Nat.le_refl _) (fun j hj => rfl)
  have V := qlh 128 _ U (by have := U.len; omega)
  exact (qm5 _ 128 0 _ V.1).toF (qm7 _ 128 0 _ V.2)
end Go.Proofs.YtjfjniebmdafeaaGreatDoor
end
section
namespace Go.Proofs.YtjfjniebmdafeaaGreatDoor
open Go.Ev
abbrev S2 := List Int × List Int
structure Ld where
  mi : Int
  mo : Int
  ti : Int
  ou : Int
structure Pl where
  bi : Int
  bs : Int
  bo : Int
  rain : Int
  loss : Int
  dec : Int
  high : Int
  low : Int
  every : Int
def Ld.add (a b : Ld) : Ld := ⟨a.mi + b.mi, a.mo + b.mo, a.ti + b.ti, a.ou + b.ou⟩
structure Led (s s' : S2) (l : Ld) : Prop where
  m : isum s'.1 = isum s.1 + l.mi - l.mo
  t : isum s'.2 = isum s.2 + l.ti - l.ou
  mi : 0 ≤ l.mi ∧ l.mi ≤ 10000000
  mo : 0 ≤ l.mo ∧ l.mo ≤ 10000000
  ti : 0 ≤ l.ti ∧ l.ti ≤ 10000000000
  ou : 0 ≤ l.ou ∧ l.ou ≤ 10000000000
theorem qjq : ∀ (l : List Int) (i : Nat) (x : Int), i < l.length → isum (l.set i x) = isum l - l.getD i 0 + x
  | [], i, x, h => by simp at h
  | y :: l, 0, x, h => by simp only [List.set_cons_zero, isum, List.getD_cons_zero]; omega
  | y :: l, i + 1, x, h => by
    have := qjq l i x (by simpa using h)
    simp only [List.set_cons_succ, isum, List.getD_cons_succ, this]; omega
theorem qqq (f g : Nat → Int) : ∀ n, qqp (fun j => f j + g j) n = qqp f n + qqp g n
  | 0 => rfl
  | n + 1 => by have := qqq f g n; simp only [qqp]; omega
theorem qqu (f g : Nat → Int) : ∀ n, qqp (fun j => f j - g j) n = qqp f n - qqp g n
  | 0 => rfl
  | n + 1 => by have := qqu f g n; simp only [qqp]; omega
theorem qqt {f : Nat → Int} : ∀ n, (∀ j, j < n → 0 ≤ f j) → 0 ≤ qqp f n
  | 0, h => Int.le_refl _
  | n + 1, h => by have := qqt n fun j hj => h j (by omega); have := h n (by omega); simp only [qqp]; omega
theorem qqr {f g : Nat → Int} : ∀ n, (∀ j, j < n → f j ≤ g j) → qqp f n ≤ qqp g n
  | 0, h => Int.le_refl _
  | n + 1, h => by have := qqr n fun j hj => h j (by omega); have := h n (by omega); simp only [qqp]; omega
theorem StF.tle {r : Int} {l : List Cell} {m t b : List Int} (F : StF r l m t b) : 0 ≤ isum t ∧ isum t ≤ 10000000000 := by
  have e : isum t ≤ 1000 * isum m := by
    rw [qjr t, qjr m, F.tl, F.ml]
    have : ∀ n, qqp (fun j => t.getD j 0) n ≤ 1000 * qqp (fun j => m.getD j 0) n := by
      intro n
      induction n with
      | zero => simp [qqp]
      | succ n ih => have := F.at n; simp only [qqp]; omega
    exact this _
  have := F.tsum; have := F.msum
  omega
theorem StF.mk' {r : Int} {l : List Cell} {m t b m' t' : List Int} (F : StF r l m t b) (hm : m'.length = l.length) (ht : t'.length = l.length) (h : ∀ i, i < l.length → 0 ≤ m'.getD i 0 ∧ 0 ≤ t'.getD i 0 ∧ t'.getD i 0 ≤ 1000 * m'.getD i 0) (hs : isum m' ≤ 10000000) : StF r l m' t' b := by
  refine ⟨F.mesh, F.bal, hm, ht, F.bl, ?_, F.bed, hs⟩
  refine qmr _ _ (by omega) fun i hi => ?_
  have a := h i (by omega)
  have nn : ∀ x ∈ m', 0 ≤ x := by
    intro x hx
    obtain ⟨j, hj, rfl⟩ := List.getElem_of_mem hx
    have := (h j (by omega)).1
    rwa [List.getD_eq_getElem?_getD, List.getElem?_eq_getElem hj, Option.getD_some] at this
  have := qip m' nn _ (qja hi 0)
  exact ⟨⟨a.1, by omega⟩, a.2⟩
def boX (o : Int) (m : List Int) : Int := m.getD (m.length - 1) 0 * o / 1000
def boY (o : Int) (m t : List Int) : Int := qpm (t.getD (m.length - 1) 0) (boX o m) (m.getD (m.length - 1) 0)
def bo1 (o : Int) (s : S2) : S2 := (s.1.set (s.1.length - 1) (s.1.getD (s.1.length - 1) 0 - boX o s.1), s.2.set (s.1.length - 1) (s.2.getD (s.1.length - 1) 0 - boY o s.1 s.2))
def bo2 (a c : Int) (s : S2) : S2 := (s.1.set 0 (s.1.getD 0 0 + a), s.2.set 0 (s.2.getD 0 0 + a * c))
def boS (a c o : Int) (s : S2) : S2 × Ld := if isum (bo1 o s).1 + a ≤ 10000000 then (bo2 a c (bo1 o s), ⟨a, boX o s.1, a * c, boY o s.1 s.2⟩) else (bo1 o s, ⟨0, boX o s.1, 0, boY o s.1 s.2⟩)
section
variable {r : Int} {l : List Cell} {m t b : List Int}
theorem qnq {x y p : Int} (hx : 0 ≤ x ∧ x ≤ 10000000) (hy : 0 ≤ y ∧ y ≤ 1000 * x) (hp : 0 ≤ p ∧ p ≤ x) : (0 ≤ qpm y p x ∧ qpm y p x ≤ y) ∧ y - qpm y p x ≤ 1000 * (x - p) := by
  by_cases h : 1 ≤ x
  · have := qpr h hp.1 hp.2 hy.1 hy.2
    rw [qpn h hx.2 hp.1 hp.2 hy.1 hy.2]
    omega
  · have e : qpm y p x = 0 := by
      unfold qpm
      have : inR x 1 10000000 = false := by rw [← Bool.not_eq_true, qjf]; omega
      rw [this]; rfl
    rw [e]; omega
theorem qa2 (F : StF r l m t b) {o : Int} (ho : 0 ≤ o ∧ o ≤ 250) : 0 ≤ boX o m ∧ boX o m ≤ m.getD (m.length - 1) 0 := by
  have a := F.at (m.length - 1)
  unfold boX
  have h1 : 0 ≤ m.getD (m.length - 1) 0 * o := Int.mul_nonneg a.1 ho.1
  have h2 : m.getD (m.length - 1) 0 * o ≤ m.getD (m.length - 1) 0 * 250 := Int.mul_le_mul_of_nonneg_left ho.2 a.1
  omega
theorem qa3 (F : StF r l m t b) {o : Int} (ho : 0 ≤ o ∧ o ≤ 250) : (0 ≤ boY o m t ∧ boY o m t ≤ t.getD (m.length - 1) 0) ∧ t.getD (m.length - 1) 0 - boY o m t ≤ 1000 * (m.getD (m.length - 1) 0 - boX o m) := by
  have a := F.at (m.length - 1)
  exact qnq ⟨a.1, a.2.1⟩ a.2.2 (qa2 F ho)
theorem qpk {x : List Int} {i j : Nat} {v : Int} (h : i < x.length) : (x.set i v).getD j 0 = if i = j then v else x.getD j 0 := by
  rw [qpl]
  by_cases e : i = j
  · rw [if_pos ⟨e, h⟩, if_pos e]
  · rw [if_neg (fun c => e c.1), if_neg e]
theorem qa0 (F : StF r l m t b) {o : Int} (ho : 0 ≤ o ∧ o ≤ 250) : StF r l (bo1 o (m, t)).1 (bo1 o (m, t)).2 b ∧ isum (bo1 o (m, t)).1 = isum m - boX o m ∧ isum (bo1 o (m, t)).2 = isum t - boY o m t := by
  have L := F.len; have ml := F.ml; have tl := F.tl
  have x := qa2 F ho; have y := qa3 F ho
  have e1 : isum (bo1 o (m, t)).1 = isum m - boX o m := by
    show isum (m.set (m.length - 1) (m.getD (m.length - 1) 0 - boX o m)) = _
    rw [qjq _ _ _ (by omega)]; omega
  have e2 : isum (bo1 o (m, t)).2 = isum t - boY o m t := by
    show isum (t.set (m.length - 1) (t.getD (m.length - 1) 0 - boY o m t)) = _
    rw [qjq _ _ _ (by omega)]; omega
  refine ⟨F.mk' (by show (m.set _ _).length = _; rw [List.length_set]; exact ml) (by show (t.set _ _).length = _; rw [List.length_set]; exact tl) (fun i hi => ?_) (by rw [e1]; have := F.msum; omega), e1, e2⟩
  have a := F.at i
  show 0 ≤ (m.set (m.length - 1) (m.getD (m.length - 1) 0 - boX o m)).getD i 0 ∧ 0 ≤ (t.set (m.length - 1) (t.getD (m.length - 1) 0 - boY o m t)).getD i 0 ∧ (t.set (m.length - 1) (t.getD (m.length - 1) 0 - boY o m t)).getD i 0 ≤ 1000 * (m.set (m.length - 1) (m.getD (m.length - 1) 0 - boX o m)).getD i 0
  rw [qpk (by omega), qpk (by omega)]
  by_cases g : m.length - 1 = i
  · rw [if_pos g, if_pos g]; omega
  · rw [if_neg g, if_neg g]; omega
theorem qjg {a c : Int} (ha : 0 ≤ a ∧ a ≤ 10000) (hc : 0 ≤ c ∧ c ≤ 1000) : 0 ≤ a * c ∧ a * c ≤ 1000 * a := by
  have h1 := Int.mul_nonneg ha.1 hc.1
  have h2 : a * c ≤ a * 1000 := Int.mul_le_mul_of_nonneg_left hc.2 ha.1
  omega
theorem qa1 (F : StF r l m t b) {a c o : Int} (ha : 0 ≤ a ∧ a ≤ 10000) (hc : 0 ≤ c ∧ c ≤ 1000) (ho : 0 ≤ o ∧ o ≤ 250) : StF r l (boS a c o (m, t)).1.1 (boS a c o (m, t)).1.2 b ∧ Led (m, t) (boS a c o (m, t)).1 (boS a c o (m, t)).2 := by
  obtain ⟨G, e1, e2⟩ := qa0 F ho
  have L := F.len; have ml := F.ml; have tl := F.tl
  have x := qa2 F ho; have y := (qa3 F ho).1; have p := qjg ha hc
  have fa := F.at (m.length - 1)
  unfold boS
  by_cases g : isum (bo1 o (m, t)).1 + a ≤ 10000000
  · rw [if_pos g]
    have gl := G.ml; have gt := G.tl
    have s1 : isum (bo2 a c (bo1 o (m, t))).1 = isum (bo1 o (m, t)).1 + a := by
      show isum ((bo1 o (m, t)).1.set 0 ((bo1 o (m, t)).1.getD 0 0 + a)) = _
      rw [qjq _ _ _ (by omega)]; omega
    have s2 : isum (bo2 a c (bo1 o (m, t))).2 = isum (bo1 o (m, t)).2 + a * c := by
      show isum ((bo1 o (m, t)).2.set 0 ((bo1 o (m, t)).2.getD 0 0 + a * c)) = _
      rw [qjq _ _ _ (by omega)]; omega
    refine ⟨G.mk' (by show (List.set _ _ _).length = _; rw [List.length_set]; exact gl) (by show (List.set _ _ _).length = _; rw [List.length_set]; exact gt) (fun i hi => ?_) (by show isum (bo2 a c (bo1 o (m, t))).1 ≤ _; rw [s1]; exact g), ⟨?_, ?_, ⟨ha.1, by show a ≤ _; omega⟩, ⟨x.1, by show boX o m ≤ _; omega⟩, ⟨p.1, by show a * c ≤ _; omega⟩, ⟨y.1, by show boY o m t ≤ _; omega⟩⟩⟩
    · have q := G.at i
      show 0 ≤ ((bo1 o (m, t)).1.set 0 ((bo1 o (m, t)).1.getD 0 0 + a)).getD i 0 ∧ 0 ≤ ((bo1 o (m, t)).2.set 0 ((bo1 o (m, t)).2.getD 0 0 + a * c)).getD i 0 ∧ ((bo1 o (m, t)).2.set 0 ((bo1 o (m, t)).2.getD 0 0 + a * c)).getD i 0 ≤ 1000 * ((bo1 o (m, t)).1.set 0 ((bo1 o (m, t)).1.getD 0 0 + a)).getD i 0
      rw [qpk (by omega), qpk (by omega)]
      by_cases h : 0 = i
      · subst h; rw [if_pos rfl, if_pos rfl]; omega
      · rw [if_neg h, if_neg h]; omega
    · show isum (bo2 a c (bo1 o (m, t))).1 = isum m + a - boX o m; omega
    · show isum (bo2 a c (bo1 o (m, t))).2 = isum t + a * c - boY o m t; omega
  · rw [if_neg g]
    refine ⟨G, ⟨?_, ?_, ⟨Int.le_refl _, by show (0 : Int) ≤ _; omega⟩, ⟨x.1, by show boX o m ≤ _; omega⟩, ⟨Int.le_refl _, by show (0 : Int) ≤ _; omega⟩, ⟨y.1, by show boY o m t ≤ _; omega⟩⟩⟩
    · show isum (bo1 o (m, t)).1 = isum m + 0 - boX o m; omega
    · show isum (bo1 o (m, t)).2 = isum t + 0 - boY o m t; omega
end
def part (a : Int) (l : List Cell) (j : Nat) : Int := a * qrw (qla l j) / 16
theorem qnv {a : Int} (ha : 0 ≤ a ∧ a ≤ 10000) (l : List Cell) (j : Nat) : 0 ≤ part a l j ∧ part a l j ≤ a := by
  have w := qry (qla l j)
  unfold part
  have h1 := Int.mul_nonneg ha.1 w.1
  have h2 : a * qrw (qla l j) ≤ a * 16 := Int.mul_le_mul_of_nonneg_left w.2 ha.1
  omega
def raS (a : Int) (l : List Cell) (s : S2) : S2 × Ld := if isum s.1 + qqp (part a l) l.length ≤ 10000000 then ((tab l.length (fun j => s.1.getD j 0 + part a l j), s.2), ⟨qqp (part a l) l.length, 0, 0, 0⟩) else (s, ⟨0, 0, 0, 0⟩)
def soX (a : Int) (l : List Cell) (m : List Int) (j : Nat) : Int := min (m.getD j 0) (part a l j)
def soY (a : Int) (l : List Cell) (m t : List Int) (j : Nat) : Int := qpm (t.getD j 0) (soX a l m j) (m.getD j 0)
def soS (a : Int) (l : List Cell) (s : S2) : S2 × Ld := ((tab l.length (fun j => s.1.getD j 0 - soX a l s.1 j), tab l.length (fun j => s.2.getD j 0 - soY a l s.1 s.2 j)), ⟨0, qqp (soX a l s.1) l.length, 0, qqp (soY a l s.1 s.2) l.length⟩)
def deX (a : Int) (t : List Int) (j : Nat) : Int := t.getD j 0 * a / 1000
def deS (a : Int) (l : List Cell) (s : S2) : S2 × Ld := ((s.1, tab l.length (fun j => s.2.getD j 0 - deX a s.2 j)), ⟨0, 0, 0, qqp (deX a s.2) l.length⟩)
section
variable {r : Int} {l : List Cell} {m t b : List Int}
theorem qnw {a : Int} (ha : 0 ≤ a ∧ a ≤ 10000) (l : List Cell) : ∀ n : Nat, 0 ≤ qqp (part a l) n ∧ qqp (part a l) n ≤ 10000 * n
  | 0 => by simp [qqp]
  | n + 1 => by have := qnw ha l n; have := qnv ha l n; simp only [qqp]; omega
theorem qn6 (F : StF r l m t b) {a : Int} (ha : 0 ≤ a ∧ a ≤ 10000) : StF r l (raS a l (m, t)).1.1 (raS a l (m, t)).1.2 b ∧ Led (m, t) (raS a l (m, t)).1 (raS a l (m, t)).2 := by
  have L := F.len; have ml := F.ml; have tl := F.tl
  have p := qnw ha l l.length
  unfold raS
  by_cases g : isum m + qqp (part a l) l.length ≤ 10000000
  · rw [if_pos g]
    have e1 : isum (tab l.length (fun j => m.getD j 0 + part a l j)) = isum m + qqp (part a l) l.length := by
      rw [qjs, qqq, qjr m, ml]
    refine ⟨F.mk' (qqy _ _) tl (fun i hi => ?_) (by show isum (tab l.length (fun j => m.getD j 0 + part a l j)) ≤ 10000000; omega), ⟨?_, ?_, ⟨p.1, by show qqp _ _ ≤ _; have := F.msum; omega⟩, ⟨Int.le_refl _, by show (0 : Int) ≤ _; omega⟩, ⟨Int.le_refl _, by show (0 : Int) ≤ _; omega⟩, ⟨Int.le_refl _, by show (0 : Int) ≤ _; omega⟩⟩⟩
    · have a1 := F.at i; have a2 := qnv ha l i
      show 0 ≤ (tab l.length (fun j => m.getD j 0 + part a l j)).getD i 0 ∧ 0 ≤ t.getD i 0 ∧ t.getD i 0 ≤ 1000 * (tab l.length (fun j => m.getD j 0 + part a l j)).getD i 0
      rw [qqx hi]; omega
    · show isum (tab l.length (fun j => m.getD j 0 + part a l j)) = isum m + qqp (part a l) l.length - 0; omega
    · show isum t = isum t + 0 - 0; omega
  · rw [if_neg g]
    refine ⟨F, ⟨?_, ?_, ⟨Int.le_refl _, by show (0 : Int) ≤ _; omega⟩, ⟨Int.le_refl _, by show (0 : Int) ≤ _; omega⟩, ⟨Int.le_refl _, by show (0 : Int) ≤ _; omega⟩, ⟨Int.le_refl _, by show (0 : Int) ≤ _; omega⟩⟩⟩
    · show isum m = isum m + 0 - 0; omega
    · show isum t = isum t + 0 - 0; omega
theorem qpw (F : StF r l m t b) {a : Int} (ha : 0 ≤ a ∧ a ≤ 10000) (j : Nat) : 0 ≤ soX a l m j ∧ soX a l m j ≤ m.getD j 0 := by
  have a1 := F.at j; have a2 := qnv ha l j
  unfold soX; omega
theorem qpx (F : StF r l m t b) {a : Int} (ha : 0 ≤ a ∧ a ≤ 10000) (j : Nat) : (0 ≤ soY a l m t j ∧ soY a l m t j ≤ t.getD j 0) ∧ t.getD j 0 - soY a l m t j ≤ 1000 * (m.getD j 0 - soX a l m j) := by
  have a1 := F.at j
  exact qnq ⟨a1.1, a1.2.1⟩ a1.2.2 (qpw F ha j)
theorem qpy (F : StF r l m t b) {a : Int} (ha : 0 ≤ a ∧ a ≤ 10000) (n : Nat) : (0 ≤ qqp (soX a l m) n ∧ qqp (soX a l m) n ≤ qqp (fun j => m.getD j 0) n) ∧ 0 ≤ qqp (soY a l m t) n ∧ qqp (soY a l m t) n ≤ qqp (fun j => t.getD j 0) n :=
  ⟨⟨qqt n fun j _ => (qpw F ha j).1, qqr n fun j _ => (qpw F ha j).2⟩, qqt n fun j _ => (qpx F ha j).1.1, qqr n fun j _ => (qpx F ha j).1.2⟩
theorem qpv (F : StF r l m t b) {a : Int} (ha : 0 ≤ a ∧ a ≤ 10000) : StF r l (soS a l (m, t)).1.1 (soS a l (m, t)).1.2 b ∧ Led (m, t) (soS a l (m, t)).1 (soS a l (m, t)).2 := by
  have L := F.len; have ml := F.ml; have tl := F.tl
  have p := qpy F ha l.length
  have ms := F.msum; have ts := F.tle
  have e1 : isum (tab l.length (fun j => m.getD j 0 - soX a l m j)) = isum m - qqp (soX a l m) l.length := by rw [qjs, qqu, qjr m, ml]
  have e2 : isum (tab l.length (fun j => t.getD j 0 - soY a l m t j)) = isum t - qqp (soY a l m t) l.length := by rw [qjs, qqu, qjr t, tl]
  have q1 := qjr m; have q2 := qjr t
  rw [ml] at q1; rw [tl] at q2
  refine ⟨F.mk' (qqy _ _) (qqy _ _) (fun i hi => ?_) (by show isum (tab l.length (fun j => m.getD j 0 - soX a l m j)) ≤ 10000000; omega), ⟨?_, ?_, ⟨Int.le_refl _, by show (0 : Int) ≤ _; omega⟩, ⟨p.1.1, by show qqp (soX a l m) _ ≤ _; omega⟩, ⟨Int.le_refl _, by show (0 : Int) ≤ _; omega⟩, ⟨p.2.1, by show qqp (soY a l m t) _ ≤ _; omega⟩⟩⟩
  · have a1 := F.at i; have a2 := qpw F ha i; have a3 := qpx F ha i
    show 0 ≤ (tab l.length (fun j => m.getD j 0 - soX a l m j)).getD i 0 ∧ 0 ≤ (tab l.length (fun j => t.getD j 0 - soY a l m t j)).getD i 0 ∧ (tab l.length (fun j => t.getD j 0 - soY a l m t j)).getD i 0 ≤ 1000 * (tab l.length (fun j => m.getD j 0 - soX a l m j)).getD i 0
    rw [qqx hi, qqx hi]; omega
  · show isum (tab l.length (fun j => m.getD j 0 - soX a l m j)) = isum m + 0 - qqp (soX a l m) l.length; omega
  · show isum (tab l.length (fun j => t.getD j 0 - soY a l m t j)) = isum t + 0 - qqp (soY a l m t) l.length; omega
theorem qfg (F : StF r l m t b) {a : Int} (ha : 0 ≤ a ∧ a ≤ 1000) (j : Nat) : 0 ≤ deX a t j ∧ deX a t j ≤ t.getD j 0 := by
  have a1 := F.at j
  unfold deX
  have h1 := Int.mul_nonneg a1.2.2.1 ha.1
  have h2 : t.getD j 0 * a ≤ t.getD j 0 * 1000 := Int.mul_le_mul_of_nonneg_left ha.2 a1.2.2.1
  omega
theorem qff (F : StF r l m t b) {a : Int} (ha : 0 ≤ a ∧ a ≤ 1000) : StF r l (deS a l (m, t)).1.1 (deS a l (m, t)).1.2 b ∧ Led (m, t) (deS a l (m, t)).1 (deS a l (m, t)).2 := by
  have L := F.len; have ml := F.ml; have tl := F.tl
  have p1 := qqt l.length fun j _ => (qfg F ha j).1
  have p2 := qqr l.length fun j _ => (qfg F ha j).2
  have ts := F.tle
  have e2 : isum (tab l.length (fun j => t.getD j 0 - deX a t j)) = isum t - qqp (deX a t) l.length := by rw [qjs, qqu, qjr t, tl]
  have q2 := qjr t
  rw [tl] at q2
  refine ⟨F.mk' ml (qqy _ _) (fun i hi => ?_) F.sum, ⟨?_, ?_, ⟨Int.le_refl _, by show (0 : Int) ≤ _; omega⟩, ⟨Int.le_refl _, by show (0 : Int) ≤ _; omega⟩, ⟨Int.le_refl _, by show (0 : Int) ≤ _; omega⟩, ⟨p1, by show qqp (deX a t) _ ≤ _; omega⟩⟩⟩
  · have a1 := F.at i; have a2 := qfg F ha i
    show 0 ≤ m.getD i 0 ∧ 0 ≤ (tab l.length (fun j => t.getD j 0 - deX a t j)).getD i 0 ∧ (tab l.length (fun j => t.getD j 0 - deX a t j)).getD i 0 ≤ 1000 * m.getD i 0
    rw [qqx hi]; omega
  · show isum m = isum m + 0 - 0; omega
  · show isum (tab l.length (fun j => t.getD j 0 - deX a t j)) = isum t + 0 - qqp (deX a t) l.length; omega
end
def tick (l : List Cell) (b : List Int) (i : Nat) (s : S2) : S2 := (tab l.length (stM (i : Int) l s.1 b), tab l.length (stT (i : Int) l s.1 s.2 b))
def qq9 (l : List Cell) (b : List Int) : Nat → Nat → S2 → S2
  | 0, i, s => s
  | n + 1, i, s => qq9 l b n (i + 1) (tick l b i s)
theorem qra {r : Int} {l : List Cell} {b : List Int} : ∀ (n i : Nat) (s : S2), StF r l s.1 s.2 b → StF r l (qq9 l b n i s).1 (qq9 l b n i s).2 b ∧ isum (qq9 l b n i s).1 = isum s.1 ∧ isum (qq9 l b n i s).2 = isum s.2
  | 0, i, s, F => ⟨F, rfl, rfl⟩
  | n + 1, i, s, F => by
    have h := qra n (i + 1) (tick l b i s) (qqg F i)
    exact ⟨h.1, h.2.1.trans (qqj F i), h.2.2.trans (qqk F i)⟩
end Go.Proofs.YtjfjniebmdafeaaGreatDoor
end
section
namespace Go.Proofs.YtjfjniebmdafeaaGreatDoor
open Go.Ev
structure StV (r : Int) (s : S3) (b : List Int) (M T : Int) : Prop where
  u : StU r s b
  m : isum s.2.1 = M
  t : isum s.2.2 = T
theorem rf_V {r : Int} {s : S3} {b : List Int} {M T : Int} (V : StV r s b M T) {i : Nat} (hi : i < s.1.length) (hl : qla s.1 i < 4) : StV r (rfS s i) b M T := by
  have ml := V.u.ml; have tl := V.u.tl
  exact ⟨rf_U V.u hi hl, by show isum (rfM s.2.1 i) = M; rw [qob (by omega) (V.u.at i).1]; exact V.m, by show isum (rfT s.2.2 s.2.1 i) = T; rw [qod (by omega)]; exact V.t⟩
theorem cm_V {r : Int} {s : S3} {b : List Int} {M T : Int} (V : StV r s b M T) {i : Nat} (hi : i + 1 < s.1.length) (hs : sib (s.1.getD i zz3) (s.1.getD (i + 1) zz3) = true) : StV r (cmS s i) b M T := by
  have ml := V.u.ml; have tl := V.u.tl
  exact ⟨cm_U V.u hi hs, by show isum (cmM s.2.1 i) = M; rw [qe5 (by omega)]; exact V.m, by show isum (cmM s.2.2 i) = T; rw [qe5 (by omega)]; exact V.t⟩
theorem qli {r : Int} {b : List Int} {M T : Int} : ∀ (n : Nat) (s : S3), StV r s b M T → 129 ≤ n + s.1.length → StV r (lvS n s) b M T
  | 0, s, V, hn => V
  | n + 1, s, V, hn => by
    unfold lvS
    by_cases g : unb s.1 < 0
    · rw [if_pos g]; exact V
    · rw [if_neg g]
      obtain ⟨j, e, h1, h2⟩ := qrj (by omega : 0 ≤ unb s.1)
      have c := qe7 V.u.mesh h1 h2
      rw [e, Int.toNat_natCast]
      exact qli n _ (rf_V V c.1 c.2) (by show 129 ≤ n + (qp3 s.1 _).length; rw [qp4 c.1]; omega)
theorem qp0 {r : Int} {b : List Int} {M T : Int} (w : List Int) (l0 : List Cell) (hw : ∀ j, w.getD j 0 = 1 → qla l0 j < 4) : ∀ (n : Nat) (s : S3), StV r s b M T → n ≤ s.1.length → (∀ j, j < n → s.1.getD j zz3 = l0.getD j zz3) → StV r (spS w n s) b M T
  | 0, s, V, hn, he => V
  | n + 1, s, V, hn, he => by
    unfold spS
    by_cases g : w.getD n 0 = 1
    · rw [if_pos g]
      have hl : qla s.1 n < 4 := by have := hw n g; unfold qla at *; rw [he n (by omega)]; exact this
      exact qp0 w l0 hw n _ (rf_V V (by omega) hl) (by show n ≤ (qp3 s.1 n).length; rw [qp4 (by omega)]; omega) fun j hj => by
        show (qp3 s.1 n).getD j zz3 = _
        rw [qp5 (by omega) hj]; exact he j (by omega)
    · rw [if_neg g]
      exact qp0 w l0 hw n s V (by omega) fun j hj => he j (by omega)
theorem qm6 {r : Int} {b : List Int} {M T : Int} (P : Cell → Bool) : ∀ (n i : Nat) (s : S3), StV r s b M T → StV r (mgS P n i s) b M T
  | 0, i, s, V => V
  | n + 1, i, s, V => by
    unfold mgS
    by_cases g : i + 1 < s.1.length
    · rw [if_pos g]
      by_cases h : (P (s.1.getD i zz3) && (P (s.1.getD (i + 1) zz3) && mayC s.1 i)) = true
      · rw [if_pos h]
        simp only [Bool.and_eq_true, mayC] at h
        exact qm6 P n (i + 1) _ (cm_V V g h.2.2.1)
      · rw [if_neg h]; exact qm6 P n (i + 1) s V
    · rw [if_neg g]; exact V
def ada (hi lo : Int) (b : List Int) (s : S3) : S3 := adS (tab s.1.length (wsh s.1 s.2.1 b hi lo)) s
theorem qai {r : Int} {s : S3} {b : List Int} (F : StF r s.1 s.2.1 s.2.2 b) (hi lo : Int) : StF r (ada hi lo b s).1 (ada hi lo b s).2.1 (ada hi lo b s).2.2 b ∧ isum (ada hi lo b s).2.1 = isum s.2.1 ∧ isum (ada hi lo b s).2.2 = isum s.2.2 := by
  have V := qp0 (M := isum s.2.1) (T := isum s.2.2) (tab s.1.length (wsh s.1 s.2.1 b hi lo)) s.1 qr6 s.1.length s ⟨F.toU, rfl, rfl⟩ (Nat.le_refl _) (fun j hj => rfl)
  have W := qli 128 _ V (by have := V.u.len; omega)
  have X := qm6 (Pw (tab s.1.length (wsh s.1 s.2.1 b hi lo)) s.1) 128 0 _ W
  exact ⟨ad_U F hi lo, X.m, X.t⟩
def flow (p : Pl) (l : List Cell) (b : List Int) (s : S2) : S2 × Ld :=
  let s1 := boS p.bi p.bs p.bo s
  let s2 := raS p.rain l s1.1
  let s3 := soS p.loss l s2.1
  let s4 := deS p.dec l s3.1
  (qq9 l b 16 0 s4.1, ((s1.2.add s2.2).add s3.2).add s4.2)
def mac (p : Pl) (b : List Int) (k : Int) (s : S3) : S3 × Ld :=
  let x := flow p s.1 b s.2
  (if 0 < p.every ∧ (k + 1) % p.every = 0 then ada p.high p.low b (s.1, x.1) else (s.1, x.1), x.2)
structure PlF (p : Pl) : Prop where
  bi : 0 ≤ p.bi ∧ p.bi ≤ 10000
  bs : 0 ≤ p.bs ∧ p.bs ≤ 1000
  bo : 0 ≤ p.bo ∧ p.bo ≤ 250
  rain : 0 ≤ p.rain ∧ p.rain ≤ 10000
  loss : 0 ≤ p.loss ∧ p.loss ≤ 10000
  dec : 0 ≤ p.dec ∧ p.dec ≤ 1000
  high : 0 ≤ p.high ∧ p.high ≤ 1000000
  low : 0 ≤ p.low ∧ p.low ≤ 1000000
  every : 0 ≤ p.every ∧ p.every ≤ 100
structure Led4 (s s' : S2) (l : Ld) : Prop where
  m : isum s'.1 = isum s.1 + l.mi - l.mo
  t : isum s'.2 = isum s.2 + l.ti - l.ou
  mi : 0 ≤ l.mi ∧ l.mi ≤ 40000000
  mo : 0 ≤ l.mo ∧ l.mo ≤ 40000000
  ti : 0 ≤ l.ti ∧ l.ti ≤ 40000000000
  ou : 0 ≤ l.ou ∧ l.ou ≤ 40000000000
theorem Led4.comb {s s1 s2 s3 s4 s5 : S2} {l1 l2 l3 l4 : Ld} (h1 : Led s s1 l1) (h2 : Led s1 s2 l2) (h3 : Led s2 s3 l3) (h4 : Led s3 s4 l4) (e1 : isum s5.1 = isum s4.1) (e2 : isum s5.2 = isum s4.2) : Led4 s s5 (((l1.add l2).add l3).add l4) := by
  have a1 := h1.m; have a2 := h2.m; have a3 := h3.m; have a4 := h4.m
  have b1 := h1.t; have b2 := h2.t; have b3 := h3.t; have b4 := h4.t
  have c1 := h1.mi; have c2 := h2.mi; have c3 := h3.mi; have c4 := h4.mi
  have d1 := h1.mo; have d2 := h2.mo; have d3 := h3.mo; have d4 := h4.mo
  have f1 := h1.ti; have f2 := h2.ti; have f3 := h3.ti; have f4 := h4.ti
  have g1 := h1.ou; have g2 := h2.ou; have g3 := h3.ou; have g4 := h4.ou
  refine ⟨?_, ?_, ?_, ?_, ?_, ?_⟩
  · show isum s5.1 = isum s.1 + (l1.mi + l2.mi + l3.mi + l4.mi) - (l1.mo + l2.mo + l3.mo + l4.mo); omega
  · show isum s5.2 = isum s.2 + (l1.ti + l2.ti + l3.ti + l4.ti) - (l1.ou + l2.ou + l3.ou + l4.ou); omega
  · show 0 ≤ l1.mi + l2.mi + l3.mi + l4.mi ∧ l1.mi + l2.mi + l3.mi + l4.mi ≤ 40000000; omega
  · show 0 ≤ l1.mo + l2.mo + l3.mo + l4.mo ∧ l1.mo + l2.mo + l3.mo + l4.mo ≤ 40000000; omega
  · show 0 ≤ l1.ti + l2.ti + l3.ti + l4.ti ∧ l1.ti + l2.ti + l3.ti + l4.ti ≤ 40000000000; omega
  · show 0 ≤ l1.ou + l2.ou + l3.ou + l4.ou ∧ l1.ou + l2.ou + l3.ou + l4.ou ≤ 40000000000; omega
theorem qiz {r : Int} {l : List Cell} {b : List Int} {s : S2} (F : StF r l s.1 s.2 b) {p : Pl} (P : PlF p) : StF r l (flow p l b s).1.1 (flow p l b s).1.2 b ∧ Led4 s (flow p l b s).1 (flow p l b s).2 := by
  have h1 := qa1 F P.bi P.bs P.bo
  have h2 := qn6 h1.1 P.rain
  have h3 := qpv h2.1 P.loss
  have h4 := qff h3.1 P.dec
  have h5 := qra 16 0 _ h4.1
  exact ⟨h5.1, Led4.comb h1.2 h2.2 h3.2 h4.2 h5.2.1 h5.2.2⟩
theorem qmm {r : Int} {b : List Int} {s : S3} (F : StF r s.1 s.2.1 s.2.2 b) {p : Pl} (P : PlF p) (k : Int) : StF r (mac p b k s).1.1 (mac p b k s).1.2.1 (mac p b k s).1.2.2 b ∧ Led4 s.2 (mac p b k s).1.2 (mac p b k s).2 := by
  have h := qiz (s := s.2) F P
  unfold mac
  by_cases g : 0 < p.every ∧ (k + 1) % p.every = 0
  · simp only [if_pos g]
    have a := qai (s := (s.1, (flow p s.1 b s.2).1)) h.1 p.high p.low
    exact ⟨a.1, ⟨a.2.1.trans h.2.m, a.2.2.trans h.2.t, h.2.mi, h.2.mo, h.2.ti, h.2.ou⟩⟩
  · simp only [if_neg g]
    exact h
end Go.Proofs.YtjfjniebmdafeaaGreatDoor
end
section
namespace Go.Proofs.YtjfjniebmdafeaaGreatDoor
open Go.Ev
set_option maxRecDepth 20000
def sh (G : Nat → Int) (i u : Nat) (x : Int) (j : Nat) : Int := if j = u then G u + x else if j = i then G i - x else G j
end Go.Proofs.YtjfjniebmdafeaaGreatDoor
end
section
namespace Go.Proofs.YtjfjniebmdafeaaGreatDoor
open Go.Ev
set_option maxRecDepth 20000
def upto (L i : Nat) (f g : Nat → Int) : List Int := tab L (fun j => if j < i then f j else g j)
theorem qrr (L i : Nat) (f g : Nat → Int) : (upto L i f g).length = L := qqy _ _
theorem qrq {L i : Nat} {f g : Nat → Int} (h : i < L) : (upto L i f g).getD i 0 = g i := by
  unfold upto; rw [qqx h, if_neg (by omega)]
theorem qrs (L i : Nat) (f g : Nat → Int) (v : Int) (hv : v = f i) : (upto L i f g).set i v = upto L (i + 1) f g := by
  unfold upto
  rw [qq1]
  refine qqw fun j hj => ?_
  by_cases e : j = i
  · subst e; rw [if_pos rfl, if_pos (by omega), hv]
  · rw [if_neg e]
    by_cases e2 : j < i
    · rw [if_pos e2, if_pos (by omega)]
    · rw [if_neg e2, if_neg (by omega)]
theorem qrt (m : List Int) (L : Nat) (h : m.length = L) (f : Nat → Int) : upto L 0 f (fun j => m.getD j 0) = m := by
  subst h
  refine Eq.trans (qqw fun j hj => ?_) (qq0 m).symm
  rw [if_neg (by omega)]
theorem qrp (L : Nat) (f g : Nat → Int) : upto L L f g = tab L f := qqw fun j hj => if_pos hj
theorem qq7 {a : Int} (ha : 0 ≤ a ∧ a ≤ 10000) (l : List Cell) (i : Nat) : (0 ≤ a * qrw (l.getD i zz3).2.1 ∧ a * qrw (l.getD i zz3).2.1 ≤ 160000) ∧ Int.tdiv (a * qrw (l.getD i zz3).2.1) 16 = part a l i := by
  have w := qry (l.getD i zz3).2.1
  have h1 := Int.mul_nonneg ha.1 w.1
  have h2 : a * qrw (l.getD i zz3).2.1 ≤ a * 16 := Int.mul_le_mul_of_nonneg_left w.2 ha.1
  exact ⟨⟨h1, by omega⟩, Int.tdiv_eq_ediv_of_nonneg h1⟩
theorem qdy (k : Nat) (hk : 2000000 ≤ k) (l : List Cell) (a : Int) (ha : 0 ≤ a ∧ a ≤ 10000) (i : Nat) :
    go (k + 3) spec_l14Part [.int .i64 a, .int .i64 (l.getD i zz3).2.1] = some [.int .i64 (part a l i)] := by
  rw [qid]
  have d := qq7 ha l i; have p := qnv ha l i
  have e := d.2
  simp (disch := omega) only [qay, nth0, nth1, nth2, nth3, bit, qef, qeg, qer, qew, qex, qey, qez, qe0, qe1, qe2, qeh, qei, qej, qek, qel, qem, qen, qeo, qep, qeq, qes, qet, qeu, qev, qrf, qre, qrg, qnd, qn3, qn5, qjh, qa5, qqo, nI, qfb, qe9, Bool.not_true, Bool.not_false, Bool.and_true, Bool.true_and, Bool.and_false, Bool.false_and, Bool.or_true, Bool.true_or, Bool.or_false, Bool.false_or, beq_self_eq_true, dTT, dFF, dT, dF, bigI, big0, qnc, qr4, qr5, List.length_set, List.length_replicate, Int.toNat_natCast, qed, qee, imax, imin, qc0, e]
theorem qqs {x : List Int} (h : ∀ v ∈ x, 0 ≤ v ∧ v ≤ 1000000000000) (n : Nat) : qqp (fun j => x.getD j 0) n ≤ isum x := by
  rw [qjr x]
  have nn : ∀ j, 0 ≤ x.getD j 0 := fun j => by
    by_cases g : j < x.length
    · exact (h _ (qja g 0)).1
    · rw [qi9 (by omega)]; exact Int.le_refl 0
  have up : ∀ d, qqp (fun j => x.getD j 0) n ≤ qqp (fun j => x.getD j 0) (n + d) := by
    intro d
    induction d with
    | zero => exact Int.le_refl _
    | succ d ih => have := nn (n + d); rw [show n + (d + 1) = (n + d) + 1 from rfl, qqp]; omega
  by_cases g : n ≤ x.length
  · have := up (x.length - n)
    rwa [show n + (x.length - n) = x.length by omega] at this
  · have hi : ∀ d, qqp (fun j => x.getD j 0) (x.length + d) = qqp (fun j => x.getD j 0) x.length := by
      intro d
      induction d with
      | zero => rfl
      | succ d ih => rw [show x.length + (d + 1) = (x.length + d) + 1 from rfl, qqp, ih, qi9 (by omega)]; omega
    have := hi (n - x.length)
    rw [show x.length + (n - x.length) = n by omega] at this
    rw [this]; exact Int.le_refl _
abbrev raF (a : Int) (l : List Cell) (m : List Int) (j : Nat) : Int := m.getD j 0 + part a l j
theorem qn7 (a : Int) (l : List Cell) (s : S2) : (raS a l s).1.2 = s.2 := by unfold raS; split <;> rfl
theorem qn8 (a : Int) (l : List Cell) (s : S2) : (raS a l s).2.mo = 0 ∧ (raS a l s).2.ti = 0 ∧ (raS a l s).2.ou = 0 := by unfold raS; split <;> exact ⟨rfl, rfl, rfl⟩
theorem qmj (k : Nat) (hk : 2000000 ≤ k) (fu : List (Nat × Nat)) (z1 z2 z3 z4 : Bool) (r : Int) (l : List Cell) (m t b : List Int) (a : Int) (ha : 0 ≤ a ∧ a ≤ 10000) (F : StF r l m t b) (y1 y2 y3 y4 : Bool) (q1 : List Cell) (q2 q3 q4 : List Int) (p0 p1 p2 p3 p4 : Int) (v1 v2 v3 v4 : Bool) : ∀ (N i : Nat), i ≤ l.length → l.length - i < N →
    lp (k + 3) spec_l14Rain [] fu 4 (N) (qpc a (qqp (part a l) i) (i : Int) z1 l z2 m z3 t z4 b r y1 q1 y2 q2 y3 q3 y4 q4 p0 p1 p2 p3 p4 false l false (upto l.length i (raF a l m) (fun j => m.getD j 0)) false t false b r) = some [.agg [.int .i64 (r), .arr true (false) (.r3 (l)), .arr true (false) (.ints .i64 ((raS a l (m, t)).1.1)), .arr true (false) (.ints .i64 (t)), .arr true (false) (.ints .i64 (b))], .agg [.int .i64 (raS a l (m, t)).2.mi, .int .i64 0, .int .i64 0, .int .i64 0]]
  | 0, i, hi, hN => by omega
  | N + 1, i, hi, hN => by
    rw [qkv]
    have L := F.len; have p := qnv ha l i; have ps := qnw ha l i; have ml := F.ml; have ms := F.msum; have f := F.at i; have tl := F.tl; have bl := F.bl; have rr := F.rr
    by_cases g : i < l.length
    · have IH := qmj k hk fu z1 z2 z3 z4 r l m t b a ha F y1 y2 y3 y4 q1 q2 q3 q4 p0 p1 p2 p3 p4 v1 v2 v3 v4 N (i + 1) (by omega) (by omega)
      rw [show qqp (part a l) (i + 1) = qqp (part a l) i + part a l i from rfl] at IH
      have es : (upto l.length i (raF a l m) (fun j => m.getD j 0)).set i (m.getD i 0 + part a l i) = upto l.length (i + 1) (raF a l m) (fun j => m.getD j 0) := qrs _ _ _ _ _ rfl
      have eg : (upto l.length i (raF a l m) (fun j => m.getD j 0)).getD i 0 = m.getD i 0 := qrq g
      simp (disch := omega) only [qay, nth0, nth1, nth2, nth3, bit, qef, qeg, qer, qew, qex, qey, qez, qe0, qe1, qe2, qeh, qei, qej, qek, qel, qem, qen, qeo, qep, qeq, qes, qet, qeu, qev, qrf, qre, qrg, qnd, qn3, qn5, qjh, qa5, qqo, nI, qfb, qe9, Bool.not_true, Bool.not_false, Bool.and_true, Bool.true_and, Bool.and_false, Bool.false_and, Bool.or_true, Bool.true_or, Bool.or_false, Bool.false_or, beq_self_eq_true, dTT, dFF, dT, dF, bigI, big0, qnc, qr4, qr5, List.length_set, List.length_replicate, Int.toNat_natCast, qed, qee, imax, imin, qrr, qdy, eg, es, IH]
    · have : i = l.length := by omega
      subst this
      have e1 : isum (tab l.length (raF a l m)) = isum m + qqp (part a l) l.length := by rw [qjs, qqq, qjr m, ml]
      have mem : ∀ x ∈ tab l.length (raF a l m), 0 ≤ x ∧ x ≤ 1000000000000 := by
        intro x hx
        simp only [tab, List.mem_map] at hx
        obtain ⟨j, _, rfl⟩ := hx
        have f := F.at j; have p := qnv ha l j
        show 0 ≤ m.getD j 0 + part a l j ∧ m.getD j 0 + part a l j ≤ _
        omega
      have es := qdp (k + 2) (by omega) false (tab l.length (raF a l m)) (by rw [qqy]; omega) mem
      unfold raS
      by_cases h : isum m + qqp (part a l) l.length ≤ 10000000
      · rw [if_pos h]
        simp (disch := omega) only [qay, nth0, nth1, nth2, nth3, bit, qef, qeg, qer, qew, qex, qey, qez, qe0, qe1, qe2, qeh, qei, qej, qek, qel, qem, qen, qeo, qep, qeq, qes, qet, qeu, qev, qrf, qre, qrg, qnd, qn3, qn5, qjh, qa5, qqo, nI, qfb, qe9, Bool.not_true, Bool.not_false, Bool.and_true, Bool.true_and, Bool.and_false, Bool.false_and, Bool.or_true, Bool.true_or, Bool.or_false, Bool.false_or, beq_self_eq_true, dTT, dFF, dT, dF, bigI, big0, qnc, qr4, qr5, List.length_set, List.length_replicate, Int.toNat_natCast, qed, qee, imax, imin, qrp, es, e1]
      · rw [if_neg h]
        simp (disch := omega) only [qay, nth0, nth1, nth2, nth3, bit, qef, qeg, qer, qew, qex, qey, qez, qe0, qe1, qe2, qeh, qei, qej, qek, qel, qem, qen, qeo, qep, qeq, qes, qet, qeu, qev, qrf, qre, qrg, qnd, qn3, qn5, qjh, qa5, qqo, nI, qfb, qe9, Bool.not_true, Bool.not_false, Bool.and_true, Bool.true_and, Bool.and_false, Bool.false_and, Bool.or_true, Bool.true_or, Bool.or_false, Bool.false_or, beq_self_eq_true, dTT, dFF, dT, dF, bigI, big0, qnc, qr4, qr5, List.length_set, List.length_replicate, Int.toNat_natCast, qed, qee, imax, imin, qrp, es, e1, qdn]
theorem qd8 (k : Nat) (hk : 2000000 ≤ k) (z1 z2 z3 z4 : Bool) (r : Int) (l : List Cell) (m t b : List Int) (a : Int) (ha : 0 ≤ a ∧ a ≤ 10000) (F : StF r l m t b) :
    go (k + 4) spec_l14Rain [.agg [.int .i64 (r), .arr false (z1) (.r3 (l)), .arr false (z2) (.ints .i64 (m)), .arr false (z3) (.ints .i64 (t)), .arr false (z4) (.ints .i64 (b))], .int .i64 a] = some [.agg [.int .i64 (r), .arr true (false) (.r3 (l)), .arr true (false) (.ints .i64 ((raS a l (m, t)).1.1)), .arr true (false) (.ints .i64 (t)), .arr true (false) (.ints .i64 (b))], .agg [.int .i64 (raS a l (m, t)).2.mi, .int .i64 0, .int .i64 0, .int .i64 0]] := by
  rw [qie]
  have L := F.len; have ml := F.ml; have tl := F.tl; have bl := F.bl; have rr := F.rr
  have e := qmj k hk [] z1 z2 z3 z4 r l m t b a ha F true true true true [] [] [] [] 0 0 0 0 0 true true true true (k + 3) 0 (by omega) (by omega)
  rw [show ((0 : Nat) : Int) = 0 from rfl, show qqp (part a l) 0 = 0 from rfl, qrt m l.length ml] at e
  simp (disch := omega) only [qay, nth0, nth1, nth2, nth3, bit, qef, qeg, qer, qew, qex, qey, qez, qe0, qe1, qe2, qeh, qei, qej, qek, qel, qem, qen, qeo, qep, qeq, qes, qet, qeu, qev, qrf, qre, qrg, qnd, qn3, qn5, qjh, qa5, qqo, nI, qfb, qe9, Bool.not_true, Bool.not_false, Bool.and_true, Bool.true_and, Bool.and_false, Bool.false_and, Bool.or_true, Bool.true_or, Bool.or_false, Bool.false_or, beq_self_eq_true, dTT, dFF, dT, dF, bigI, big0, qnc, qr4, qr5, List.length_set, List.length_replicate, Int.toNat_natCast, qed, qee, imax, imin, qdn]
  exact e
end Go.Proofs.YtjfjniebmdafeaaGreatDoor
end
section
namespace Go.Proofs.YtjfjniebmdafeaaGreatDoor
open Go.Ev
set_option maxRecDepth 20000
abbrev soF (a : Int) (l : List Cell) (m : List Int) (j : Nat) : Int := m.getD j 0 - soX a l m j
abbrev soG (a : Int) (l : List Cell) (m t : List Int) (j : Nat) : Int := t.getD j 0 - soY a l m t j
theorem qmk (k : Nat) (hk : 2000000 ≤ k) (fu : List (Nat × Nat)) (z1 z2 z3 z4 : Bool) (r : Int) (l : List Cell) (m t b : List Int) (a : Int) (ha : 0 ≤ a ∧ a ≤ 10000) (F : StF r l m t b) (y1 y2 y3 y4 : Bool) (q1 : List Cell) (q2 q3 q4 : List Int) (p0 p1 p2 p3 p4 : Int) : ∀ (N i : Nat), i ≤ l.length → l.length - i < N →
    lp (k + 3) spec_l14Soak [] fu 4 (N) (qpd a (i : Int) z1 l z2 m z3 t z4 b r y1 q1 y2 q2 y3 q3 y4 q4 p0 p1 p2 p3 p4 false l false (upto l.length i (soF a l m) (fun j => m.getD j 0)) false (upto l.length i (soG a l m t) (fun j => t.getD j 0)) false b r 0 (qqp (soX a l m) i) 0 (qqp (soY a l m t) i)) = some [.agg [.int .i64 (r), .arr true (false) (.r3 (l)), .arr true (false) (.ints .i64 (tab l.length (soF a l m))), .arr true (false) (.ints .i64 (tab l.length (soG a l m t))), .arr true (false) (.ints .i64 (b))], .agg [.int .i64 0, .int .i64 (qqp (soX a l m) l.length), .int .i64 0, .int .i64 (qqp (soY a l m t) l.length)]]
  | 0, i, hi, hN => by omega
  | N + 1, i, hi, hN => by
    rw [qkw]
    have L := F.len; have f := F.at i; have p := qnv ha l i; have ml := F.ml; have tl := F.tl
    by_cases g : i < l.length
    · have IH := qmk k hk fu z1 z2 z3 z4 r l m t b a ha F y1 y2 y3 y4 q1 q2 q3 q4 p0 p1 p2 p3 p4 N (i + 1) (by omega) (by omega)
      rw [show qqp (soX a l m) (i + 1) = qqp (soX a l m) i + soX a l m i from rfl, show qqp (soY a l m t) (i + 1) = qqp (soY a l m t) i + soY a l m t i from rfl] at IH
      have s1 : (upto l.length i (soF a l m) (fun j => m.getD j 0)).set i (m.getD i 0 - soX a l m i) = upto l.length (i + 1) (soF a l m) (fun j => m.getD j 0) := qrs _ _ _ _ _ rfl
      have s2 : (upto l.length i (soG a l m t) (fun j => t.getD j 0)).set i (t.getD i 0 - soY a l m t i) = upto l.length (i + 1) (soG a l m t) (fun j => t.getD j 0) := qrs _ _ _ _ _ rfl
      have g1 : (upto l.length i (soF a l m) (fun j => m.getD j 0)).getD i 0 = m.getD i 0 := qrq g
      have g2 : (upto l.length i (soG a l m t) (fun j => t.getD j 0)).getD i 0 = t.getD i 0 := qrq g
      have x1 := qpw F ha i; have y1 := (qpx F ha i).1
      have q := qpy F ha i
      have ms := F.msum; have ts := F.tle
      have d1 := qqs F.mmem i; have d2 := qqs F.tmem i
      have ex : min (m.getD i 0) (part a l i) = soX a l m i := rfl
      have ey : qpm (t.getD i 0) (soX a l m i) (m.getD i 0) = soY a l m t i := rfl
      simp (disch := omega) only [qay, nth0, nth1, nth2, nth3, bit, qef, qeg, qer, qew, qex, qey, qez, qe0, qe1, qe2, qeh, qei, qej, qek, qel, qem, qen, qeo, qep, qeq, qes, qet, qeu, qev, qrf, qre, qrg, qnd, qn3, qn5, qjh, qa5, qqo, nI, qfb, qe9, Bool.not_true, Bool.not_false, Bool.and_true, Bool.true_and, Bool.and_false, Bool.false_and, Bool.or_true, Bool.true_or, Bool.or_false, Bool.false_or, beq_self_eq_true, dTT, dFF, dT, dF, bigI, big0, qnc, qr4, qr5, List.length_set, List.length_replicate, Int.toNat_natCast, qed, qee, imax, imin, qrr, qdy, g1, g2, imin, ex, qcv, ey, s1, s2, IH]
    · have : i = l.length := by omega
      subst this
      simp (disch := omega) only [qay, nth0, nth1, nth2, nth3, bit, qef, qeg, qer, qew, qex, qey, qez, qe0, qe1, qe2, qeh, qei, qej, qek, qel, qem, qen, qeo, qep, qeq, qes, qet, qeu, qev, qrf, qre, qrg, qnd, qn3, qn5, qjh, qa5, qqo, nI, qfb, qe9, Bool.not_true, Bool.not_false, Bool.and_true, Bool.true_and, Bool.and_false, Bool.false_and, Bool.or_true, Bool.true_or, Bool.or_false, Bool.false_or, beq_self_eq_true, dTT, dFF, dT, dF, bigI, big0, qnc, qr4, qr5, List.length_set, List.length_replicate, Int.toNat_natCast, qed, qee, imax, imin, qrp]
theorem qea (k : Nat) (hk : 2000000 ≤ k) (z1 z2 z3 z4 : Bool) (r : Int) (l : List Cell) (m t b : List Int) (a : Int) (ha : 0 ≤ a ∧ a ≤ 10000) (F : StF r l m t b) :
    go (k + 4) spec_l14Soak [.agg [.int .i64 (r), .arr false (z1) (.r3 (l)), .arr false (z2) (.ints .i64 (m)), .arr false (z3) (.ints .i64 (t)), .arr false (z4) (.ints .i64 (b))], .int .i64 a] = some [.agg [.int .i64 (r), .arr true (false) (.r3 (l)), .arr true (false) (.ints .i64 ((soS a l (m, t)).1.1)), .arr true (false) (.ints .i64 ((soS a l (m, t)).1.2)), .arr true (false) (.ints .i64 (b))], .agg [.int .i64 0, .int .i64 (soS a l (m, t)).2.mo, .int .i64 0, .int .i64 (soS a l (m, t)).2.ou]] := by
  rw [qif]
  have L := F.len; have ml := F.ml; have tl := F.tl; have bl := F.bl; have rr := F.rr
  have e := qmk k hk [] z1 z2 z3 z4 r l m t b a ha F true true true true [] [] [] [] 0 0 0 0 0 (k + 3) 0 (by omega) (by omega)
  rw [show ((0 : Nat) : Int) = 0 from rfl, show qqp (soX a l m) 0 = 0 from rfl, show qqp (soY a l m t) 0 = 0 from rfl, qrt m l.length ml, qrt t l.length tl] at e
  simp (disch := omega) only [qay, nth0, nth1, nth2, nth3, bit, qef, qeg, qer, qew, qex, qey, qez, qe0, qe1, qe2, qeh, qei, qej, qek, qel, qem, qen, qeo, qep, qeq, qes, qet, qeu, qev, qrf, qre, qrg, qnd, qn3, qn5, qjh, qa5, qqo, nI, qfb, qe9, Bool.not_true, Bool.not_false, Bool.and_true, Bool.true_and, Bool.and_false, Bool.false_and, Bool.or_true, Bool.true_or, Bool.or_false, Bool.false_or, beq_self_eq_true, dTT, dFF, dT, dF, bigI, big0, qnc, qr4, qr5, List.length_set, List.length_replicate, Int.toNat_natCast, qed, qee, imax, imin, qdn]
  exact e
abbrev deF (a : Int) (t : List Int) (j : Nat) : Int := t.getD j 0 - deX a t j
theorem qq5 {r : Int} {l : List Cell} {m t b : List Int} (F : StF r l m t b) {a : Int} (ha : 0 ≤ a ∧ a ≤ 1000) (i : Nat) : (0 ≤ t.getD i 0 * a ∧ t.getD i 0 * a ≤ 10000000000000) ∧ Int.tdiv (t.getD i 0 * a) 1000 = deX a t i := by
  have f := F.at i
  have h1 := Int.mul_nonneg f.2.2.1 ha.1
  have h2 : t.getD i 0 * a ≤ t.getD i 0 * 1000 := Int.mul_le_mul_of_nonneg_left ha.2 f.2.2.1
  exact ⟨⟨h1, by omega⟩, Int.tdiv_eq_ediv_of_nonneg h1⟩
theorem qfh {r : Int} {l : List Cell} {m t b : List Int} (F : StF r l m t b) {a : Int} (ha : 0 ≤ a ∧ a ≤ 1000) (n : Nat) : 0 ≤ qqp (deX a t) n ∧ qqp (deX a t) n ≤ qqp (fun j => t.getD j 0) n :=
  ⟨qqt n fun j _ => (qfg F ha j).1, qqr n fun j _ => (qfg F ha j).2⟩
theorem qma (k : Nat) (hk : 2000000 ≤ k) (fu : List (Nat × Nat)) (z1 z2 z3 z4 : Bool) (r : Int) (l : List Cell) (m t b : List Int) (a : Int) (ha : 0 ≤ a ∧ a ≤ 1000) (F : StF r l m t b) (y1 y2 y3 y4 : Bool) (q1 : List Cell) (q2 q3 q4 : List Int) (p0 p1 p2 p3 p4 : Int) : ∀ (N i : Nat), i ≤ l.length → l.length - i < N →
    lp (k + 2) spec_l15Decay [] fu 4 (N) (qpe a (i : Int) z1 l z2 m z3 t z4 b r y1 q1 y2 q2 y3 q3 y4 q4 p0 p1 p2 p3 p4 false l false m false (upto l.length i (deF a t) (fun j => t.getD j 0)) false b r 0 0 0 (qqp (deX a t) i)) = some [.agg [.int .i64 (r), .arr true (false) (.r3 (l)), .arr true (false) (.ints .i64 (m)), .arr true (false) (.ints .i64 (tab l.length (deF a t))), .arr true (false) (.ints .i64 (b))], .agg [.int .i64 0, .int .i64 0, .int .i64 0, .int .i64 (qqp (deX a t) l.length)]]
  | 0, i, hi, hN => by omega
  | N + 1, i, hi, hN => by
    rw [qkx]
    have L := F.len; have f := F.at i; have d := qq5 F ha i; have tl := F.tl
    by_cases g : i < l.length
    · have IH := qma k hk fu z1 z2 z3 z4 r l m t b a ha F y1 y2 y3 y4 q1 q2 q3 q4 p0 p1 p2 p3 p4 N (i + 1) (by omega) (by omega)
      rw [show qqp (deX a t) (i + 1) = qqp (deX a t) i + deX a t i from rfl] at IH
      have s2 : (upto l.length i (deF a t) (fun j => t.getD j 0)).set i (t.getD i 0 - deX a t i) = upto l.length (i + 1) (deF a t) (fun j => t.getD j 0) := qrs _ _ _ _ _ rfl
      have g2 : (upto l.length i (deF a t) (fun j => t.getD j 0)).getD i 0 = t.getD i 0 := qrq g
      have x1 := qfg F ha i; have q := qfh F ha i; have ts := F.tle; have d2 := qqs F.tmem i
      have ed := d.2
      simp (disch := omega) only [qay, nth0, nth1, nth2, nth3, bit, qef, qeg, qer, qew, qex, qey, qez, qe0, qe1, qe2, qeh, qei, qej, qek, qel, qem, qen, qeo, qep, qeq, qes, qet, qeu, qev, qrf, qre, qrg, qnd, qn3, qn5, qjh, qa5, qqo, nI, qfb, qe9, Bool.not_true, Bool.not_false, Bool.and_true, Bool.true_and, Bool.and_false, Bool.false_and, Bool.or_true, Bool.true_or, Bool.or_false, Bool.false_or, beq_self_eq_true, dTT, dFF, dT, dF, bigI, big0, qnc, qr4, qr5, List.length_set, List.length_replicate, Int.toNat_natCast, qed, qee, imax, imin, qrr, g2, ed, s2, IH]
    · have : i = l.length := by omega
      subst this
      simp (disch := omega) only [qay, nth0, nth1, nth2, nth3, bit, qef, qeg, qer, qew, qex, qey, qez, qe0, qe1, qe2, qeh, qei, qej, qek, qel, qem, qen, qeo, qep, qeq, qes, qet, qeu, qev, qrf, qre, qrg, qnd, qn3, qn5, qjh, qa5, qqo, nI, qfb, qe9, Bool.not_true, Bool.not_false, Bool.and_true, Bool.true_and, Bool.and_false, Bool.false_and, Bool.or_true, Bool.true_or, Bool.or_false, Bool.false_or, beq_self_eq_true, dTT, dFF, dT, dF, bigI, big0, qnc, qr4, qr5, List.length_set, List.length_replicate, Int.toNat_natCast, qed, qee, imax, imin, qrp]
theorem qc7 (k : Nat) (hk : 2000000 ≤ k) (z1 z2 z3 z4 : Bool) (r : Int) (l : List Cell) (m t b : List Int) (a : Int) (ha : 0 ≤ a ∧ a ≤ 1000) (F : StF r l m t b) :
    go (k + 3) spec_l15Decay [.agg [.int .i64 (r), .arr false (z1) (.r3 (l)), .arr false (z2) (.ints .i64 (m)), .arr false (z3) (.ints .i64 (t)), .arr false (z4) (.ints .i64 (b))], .int .i64 a] = some [.agg [.int .i64 (r), .arr true (false) (.r3 (l)), .arr true (false) (.ints .i64 (m)), .arr true (false) (.ints .i64 ((deS a l (m, t)).1.2)), .arr true (false) (.ints .i64 (b))], .agg [.int .i64 0, .int .i64 0, .int .i64 0, .int .i64 (deS a l (m, t)).2.ou]] := by
  rw [qig]
  have L := F.len; have ml := F.ml; have tl := F.tl; have bl := F.bl; have rr := F.rr
  have e := qma k hk [] z1 z2 z3 z4 r l m t b a ha F true true true true [] [] [] [] 0 0 0 0 0 (k + 2) 0 (by omega) (by omega)
  rw [show ((0 : Nat) : Int) = 0 from rfl, show qqp (deX a t) 0 = 0 from rfl, qrt t l.length tl] at e
  simp (disch := omega) only [qay, nth0, nth1, nth2, nth3, bit, qef, qeg, qer, qew, qex, qey, qez, qe0, qe1, qe2, qeh, qei, qej, qek, qel, qem, qen, qeo, qep, qeq, qes, qet, qeu, qev, qrf, qre, qrg, qnd, qn3, qn5, qjh, qa5, qqo, nI, qfb, qe9, Bool.not_true, Bool.not_false, Bool.and_true, Bool.true_and, Bool.and_false, Bool.false_and, Bool.or_true, Bool.true_or, Bool.or_false, Bool.false_or, beq_self_eq_true, dTT, dFF, dT, dF, bigI, big0, qnc, qr4, qr5, List.length_set, List.length_replicate, Int.toNat_natCast, qed, qee, imax, imin, qdn]
  exact e
end Go.Proofs.YtjfjniebmdafeaaGreatDoor
end
section
namespace Go.Proofs.YtjfjniebmdafeaaGreatDoor
open Go.Ev
set_option maxRecDepth 20000
theorem tnz : Int.toNat 0 = 0 := Eq.trans rfl rfl
theorem qq6 {x o : Int} (hx : 0 ≤ x ∧ x ≤ 10000000) (ho : 0 ≤ o ∧ o ≤ 250) : (0 ≤ x * o ∧ x * o ≤ 2500000000) ∧ Int.tdiv (x * o) 1000 = x * o / 1000 := by
  have h1 := Int.mul_nonneg hx.1 ho.1
  have h2 : x * o ≤ x * 250 := Int.mul_le_mul_of_nonneg_left ho.2 hx.1
  exact ⟨⟨h1, by omega⟩, Int.tdiv_eq_ediv_of_nonneg h1⟩
abbrev ldD (x : Ld) : D := .agg [.int .i64 x.mi, .int .i64 x.mo, .int .i64 x.ti, .int .i64 x.ou]
theorem qc6 (k : Nat) (hk : 2000000 ≤ k) (z1 z2 z3 z4 : Bool) (r : Int) (l : List Cell) (m t b : List Int) (F : StF r l m t b) (a c o : Int) (ha : 0 ≤ a ∧ a ≤ 10000) (hc : 0 ≤ c ∧ c ≤ 1000) (ho : 0 ≤ o ∧ o ≤ 250) :
    go (k + 3) spec_l13Apply [.agg [.int .i64 (r), .arr false (z1) (.r3 (l)), .arr false (z2) (.ints .i64 (m)), .arr false (z3) (.ints .i64 (t)), .arr false (z4) (.ints .i64 (b))], .agg [.int .i64 a, .int .i64 c, .int .i64 o]] =
      some [.agg [.int .i64 (r), .arr true (false) (.r3 (l)), .arr true (false) (.ints .i64 ((boS a c o (m, t)).1.1)), .arr true (false) (.ints .i64 ((boS a c o (m, t)).1.2)), .arr true (false) (.ints .i64 (b))], ldD (boS a c o (m, t)).2] := by
  rw [qib]
  have L := F.len; have ml := F.ml; have tl := F.tl; have bl := F.bl; have rr := F.rr
  have f := F.at (m.length - 1)
  have d := qq6 ⟨f.1, f.2.1⟩ ho
  have ed : Int.tdiv (m.getD (m.length - 1) 0 * o) 1000 = boX o m := d.2
  have G := qa0 F ho
  have bx := qa2 F ho; have bY := qa3 F ho; have ip := qjg ha hc
  have ey : qpm (t.getD (m.length - 1) 0) (boX o m) (m.getD (m.length - 1) 0) = boY o m t := rfl
  unfold boS
  change StF r l (m.set (m.length - 1) (m.getD (m.length - 1) 0 - boX o m)) (t.set (m.length - 1) (t.getD (m.length - 1) 0 - boY o m t)) b ∧ _ at G
  rw [show bo1 o (m, t) = (m.set (m.length - 1) (m.getD (m.length - 1) 0 - boX o m), t.set (m.length - 1) (t.getD (m.length - 1) 0 - boY o m t)) from rfl] at G ⊢
  simp (disch := omega) only [qay, nth0, nth1, nth2, nth3, bit, qef, qeg, qer, qew, qex, qey, qez, qe0, qe1, qe2, qeh, qei, qej, qek, qel, qem, qen, qeo, qep, qeq, qes, qet, qeu, qev, qrf, qre, qrg, qnd, qn3, qn5, qjh, qa5, qqo, nI, qfb, qe9, Bool.not_true, Bool.not_false, Bool.and_true, Bool.true_and, Bool.and_false, Bool.false_and, Bool.or_true, Bool.true_or, Bool.or_false, Bool.false_or, beq_self_eq_true, dTT, dFF, dT, dF, bigI, big0, qnc, qr4, qr5, List.length_set, List.length_replicate, Int.toNat_natCast, qed, qee, imax, imin, qec, ed, qdn, qcv, ey]
  generalize m.set (m.length - 1) (m.getD (m.length - 1) 0 - boX o m) = M at *
  generalize t.set (m.length - 1) (t.getD (m.length - 1) 0 - boY o m t) = T at *
  obtain ⟨G, g1, g2⟩ := G
  have Ml := G.ml; have Tl := G.tl; have Mf := G.at 0; have Ms := G.msum
  have eS := qdp (k + 1) (by omega) false M (by omega) G.mmem
  by_cases h : isum M + a ≤ 10000000
  · rw [if_pos h]
    simp (disch := omega) only [qay, nth0, nth1, nth2, nth3, bit, qef, qeg, qer, qew, qex, qey, qez, qe0, qe1, qe2, qeh, qei, qej, qek, qel, qem, qen, qeo, qep, qeq, qes, qet, qeu, qev, qrf, qre, qrg, qnd, qn3, qn5, qjh, qa5, qqo, nI, qfb, qe9, Bool.not_true, Bool.not_false, Bool.and_true, Bool.true_and, Bool.and_false, Bool.false_and, Bool.or_true, Bool.true_or, Bool.or_false, Bool.false_or, beq_self_eq_true, dTT, dFF, dT, dF, bigI, big0, qnc, qr4, qr5, List.length_set, List.length_replicate, Int.toNat_natCast, qed, qee, imax, imin, eS, tnz]
    rfl
  · rw [if_neg h]
    simp (disch := omega) only [qay, nth0, nth1, nth2, nth3, bit, qef, qeg, qer, qew, qex, qey, qez, qe0, qe1, qe2, qeh, qei, qej, qek, qel, qem, qen, qeo, qep, qeq, qes, qet, qeu, qev, qrf, qre, qrg, qnd, qn3, qn5, qjh, qa5, qqo, nI, qfb, qe9, Bool.not_true, Bool.not_false, Bool.and_true, Bool.true_and, Bool.and_false, Bool.false_and, Bool.or_true, Bool.true_or, Bool.or_false, Bool.false_or, beq_self_eq_true, dTT, dFF, dT, dF, bigI, big0, qnc, qr4, qr5, List.length_set, List.length_replicate, Int.toNat_natCast, qed, qee, imax, imin, eS]
theorem qcr (k : Nat) (x y : Ld) (h1 : 0 ≤ x.mi + y.mi ∧ x.mi + y.mi ≤ 1000000000000000000) (h2 : 0 ≤ x.mo + y.mo ∧ x.mo + y.mo ≤ 1000000000000000000) (h3 : 0 ≤ x.ti + y.ti ∧ x.ti + y.ti ≤ 1000000000000000000) (h4 : 0 ≤ x.ou + y.ou ∧ x.ou + y.ou ≤ 1000000000000000000) :
    go (k + 1) spec_LedgerAdd [ldD x, ldD y] = some [ldD (x.add y)] := by
  rw [qg8]
  simp (disch := omega) only [qay, nth0, nth1, nth2, nth3, bit, qef, qeg, qer, qew, qex, qey, qez, qe0, qe1, qe2, qeh, qei, qej, qek, qel, qem, qen, qeo, qep, qeq, qes, qet, qeu, qev, qrf, qre, qrg, qnd, qn3, qn5, qjh, qa5, qqo, nI, qfb, qe9, Bool.not_true, Bool.not_false, Bool.and_true, Bool.true_and, Bool.and_false, Bool.false_and, Bool.or_true, Bool.true_or, Bool.or_false, Bool.false_or, beq_self_eq_true, dTT, dFF, dT, dF, bigI, big0, qnc, qr4, qr5, List.length_set, List.length_replicate, Int.toNat_natCast, qed, qee, imax, imin]
  rfl
end Go.Proofs.YtjfjniebmdafeaaGreatDoor
end
section
namespace Go.Proofs.YtjfjniebmdafeaaGreatDoor
open Go.Ev
set_option maxRecDepth 20000
abbrev plD (p : Pl) : D := .agg [.int .i64 p.bi, .int .i64 p.bs, .int .i64 p.bo, .int .i64 p.rain, .int .i64 p.loss, .int .i64 p.dec, .int .i64 p.high, .int .i64 p.low, .int .i64 p.every]
theorem qd9 (k : Nat) (hk : 2000000 ≤ k) (z1 z2 z3 z4 : Bool) (r : Int) (l : List Cell) (s : S2) (b : List Int) (a : Int) (ha : 0 ≤ a ∧ a ≤ 10000) (F : StF r l s.1 s.2 b) :
    go (k + 4) spec_l14Rain [.agg [.int .i64 (r), .arr false (z1) (.r3 (l)), .arr false (z2) (.ints .i64 (s.1)), .arr false (z3) (.ints .i64 (s.2)), .arr false (z4) (.ints .i64 (b))], .int .i64 a] = some [.agg [.int .i64 (r), .arr true (false) (.r3 (l)), .arr true (false) (.ints .i64 ((raS a l s).1.1)), .arr true (false) (.ints .i64 ((raS a l s).1.2)), .arr true (false) (.ints .i64 (b))], ldD (raS a l s).2] := by
  have z := qn8 a l s
  rw [qd8 k hk z1 z2 z3 z4 r l s.1 s.2 b a ha F, qn7]
  simp only [ldD, z.1, z.2.1, z.2.2]
theorem qrd {a b : Int} (ha : 0 ≤ a) : Int.tmod a b = a % b := Int.tmod_eq_emod_of_nonneg ha
set_option maxHeartbeats 1000000 in
theorem ql3 (k : Nat) (hk : 2000000 ≤ k) (fu : List (Nat × Nat)) (r : Int) (l : List Cell) (b : List Int) (p : Pl) (P : PlF p) (c : Int) (hc : 0 ≤ c ∧ c ≤ 10000000) (L : Ld) (y1 y2 y3 y4 : Bool) (q1 : List Cell) (q2 q3 q4 : List Int) (p0 p1 p2 p3 p4 : Int) : ∀ (N n i : Nat) (s : S2), i + n = 16 → n < N → StF r l s.1 s.2 b →
    lp (k + 7) spec_l18Macro [] fu 8 (N) (qpi c (i : Int) p.bi p.bs p.bo p.rain p.loss p.dec p.high p.low p.every y1 q1 y2 q2 y3 q3 y4 q4 p0 p1 p2 p3 p4 false l false s.1 false s.2 false b r L.mi L.mo L.ti L.ou) =
      some [.agg [.int .i64 (r), .arr true (false) (.r3 ((if 0 < p.every ∧ (c + 1) % p.every = 0 then ada p.high p.low b (l, qq9 l b n i s) else (l, qq9 l b n i s)).1)), .arr true (false) (.ints .i64 ((if 0 < p.every ∧ (c + 1) % p.every = 0 then ada p.high p.low b (l, qq9 l b n i s) else (l, qq9 l b n i s)).2.1)), .arr true (false) (.ints .i64 ((if 0 < p.every ∧ (c + 1) % p.every = 0 then ada p.high p.low b (l, qq9 l b n i s) else (l, qq9 l b n i s)).2.2)), .arr true (false) (.ints .i64 (b))], ldD L]
  | 0, n, i, s, hi, hN, F => by omega
  | N + 1, 0, i, s, hi, hN, F => by
    rw [qk1]
    have : i = 16 := by omega
    subst this
    have LL := F.len
    have tm : Int.tmod (c + 1) p.every = (c + 1) % p.every := qrd (by omega)
    have eA := qd0 k (by omega) r l s.1 s.2 b F p.high p.low
    rw [show qq9 l b 0 16 s = s from rfl]
    simp (disch := omega) only [qay, nth0, nth1, nth2, nth3, bit, qef, qeg, qer, qew, qex, qey, qez, qe0, qe1, qe2, qeh, qei, qej, qek, qel, qem, qen, qeo, qep, qeq, qes, qet, qeu, qev, qrf, qre, qrg, qnd, qn3, qn5, qjh, qa5, qqo, nI, qfb, qe9, Bool.not_true, Bool.not_false, Bool.and_true, Bool.true_and, Bool.and_false, Bool.false_and, Bool.or_true, Bool.true_or, Bool.or_false, Bool.false_or, beq_self_eq_true, dTT, dFF, dT, dF, bigI, big0, qnc, qr4, qr5, List.length_set, List.length_replicate, Int.toNat_natCast, qed, qee, imax, imin, tm]
    by_cases w : 0 < p.every
    · by_cases w2 : (c + 1) % p.every = 0
      · rw [if_pos ⟨w, w2⟩]
        simp (disch := omega) only [qay, nth0, nth1, nth2, nth3, bit, qef, qeg, qer, qew, qex, qey, qez, qe0, qe1, qe2, qeh, qei, qej, qek, qel, qem, qen, qeo, qep, qeq, qes, qet, qeu, qev, qrf, qre, qrg, qnd, qn3, qn5, qjh, qa5, qqo, nI, qfb, qe9, Bool.not_true, Bool.not_false, Bool.and_true, Bool.true_and, Bool.and_false, Bool.false_and, Bool.or_true, Bool.true_or, Bool.or_false, Bool.false_or, beq_self_eq_true, dTT, dFF, dT, dF, bigI, big0, qnc, qr4, qr5, List.length_set, List.length_replicate, Int.toNat_natCast, qed, qee, imax, imin, eA, w2]
        rfl
      · rw [if_neg (fun h => w2 h.2)]
        simp (disch := omega) only [qay, nth0, nth1, nth2, nth3, bit, qef, qeg, qer, qew, qex, qey, qez, qe0, qe1, qe2, qeh, qei, qej, qek, qel, qem, qen, qeo, qep, qeq, qes, qet, qeu, qev, qrf, qre, qrg, qnd, qn3, qn5, qjh, qa5, qqo, nI, qfb, qe9, Bool.not_true, Bool.not_false, Bool.and_true, Bool.true_and, Bool.and_false, Bool.false_and, Bool.or_true, Bool.true_or, Bool.or_false, Bool.false_or, beq_self_eq_true, dTT, dFF, dT, dF, bigI, big0, qnc, qr4, qr5, List.length_set, List.length_replicate, Int.toNat_natCast, qed, qee, imax, imin]
    · rw [if_neg (fun h => w h.1)]
      simp (disch := omega) only [qay, nth0, nth1, nth2, nth3, bit, qef, qeg, qer, qew, qex, qey, qez, qe0, qe1, qe2, qeh, qei, qej, qek, qel, qem, qen, qeo, qep, qeq, qes, qet, qeu, qev, qrf, qre, qrg, qnd, qn3, qn5, qjh, qa5, qqo, nI, qfb, qe9, Bool.not_true, Bool.not_false, Bool.and_true, Bool.true_and, Bool.and_false, Bool.false_and, Bool.or_true, Bool.true_or, Bool.or_false, Bool.false_or, beq_self_eq_true, dTT, dFF, dT, dF, bigI, big0, qnc, qr4, qr5, List.length_set, List.length_replicate, Int.toNat_natCast, qed, qee, imax, imin]
  | N + 1, n + 1, i, s, hi, hN, F => by
    rw [qk1]
    have LL := F.len
    have IH := ql3 k hk fu r l b p P c hc L y1 y2 y3 y4 q1 q2 q3 q4 p0 p1 p2 p3 p4 N n (i + 1) (tick l b i s) (by omega) (by omega) (qqg F i)
    have eS := qdw (k + 2) (by omega) r false false false false l s.1 s.2 b F (i : Int)
    rw [show qq9 l b (n + 1) i s = qq9 l b n (i + 1) (tick l b i s) from rfl]
    simp only [tick] at IH ⊢
    simp (disch := omega) only [qay, nth0, nth1, nth2, nth3, bit, qef, qeg, qer, qew, qex, qey, qez, qe0, qe1, qe2, qeh, qei, qej, qek, qel, qem, qen, qeo, qep, qeq, qes, qet, qeu, qev, qrf, qre, qrg, qnd, qn3, qn5, qjh, qa5, qqo, nI, qfb, qe9, Bool.not_true, Bool.not_false, Bool.and_true, Bool.true_and, Bool.and_false, Bool.false_and, Bool.or_true, Bool.true_or, Bool.or_false, Bool.false_or, beq_self_eq_true, dTT, dFF, dT, dF, bigI, big0, qnc, qr4, qr5, List.length_set, List.length_replicate, Int.toNat_natCast, qed, qee, imax, imin, eS, IH]
set_option maxHeartbeats 1000000 in
theorem qd1 (k : Nat) (hk : 2000000 ≤ k) (r : Int) (s : S3) (b : List Int) (F : StF r s.1 s.2.1 s.2.2 b) (p : Pl) (P : PlF p) (c : Int) (hc : 0 ≤ c ∧ c ≤ 10000000) :
    go (k + 8) spec_l18Macro [.agg [.int .i64 (r), .arr false (false) (.r3 (s.1)), .arr false (false) (.ints .i64 (s.2.1)), .arr false (false) (.ints .i64 (s.2.2)), .arr false (false) (.ints .i64 (b))], plD p, .int .i64 c] = some [.agg [.int .i64 (r), .arr true (false) (.r3 ((mac p b c s).1.1)), .arr true (false) (.ints .i64 ((mac p b c s).1.2.1)), .arr true (false) (.ints .i64 ((mac p b c s).1.2.2)), .arr true (false) (.ints .i64 (b))], ldD (mac p b c s).2] := by
  rw [qik]
  obtain ⟨l, s⟩ := s
  change StF r l s.1 s.2 b at F
  have h1 := qa1 F P.bi P.bs P.bo
  have e1 := qc6 (k + 4) (by omega) false false false false r l s.1 s.2 b F p.bi p.bs p.bo P.bi P.bs P.bo
  obtain ⟨s1, q1⟩ : ∃ x, x = boS p.bi p.bs p.bo s := ⟨_, rfl⟩
  change StF r l (boS p.bi p.bs p.bo s).1.1 (boS p.bi p.bs p.bo s).1.2 b ∧ Led s (boS p.bi p.bs p.bo s).1 (boS p.bi p.bs p.bo s).2 at h1
  change _ = some [.agg [.int .i64 (r), .arr true (false) (.r3 (l)), .arr true (false) (.ints .i64 ((boS p.bi p.bs p.bo s).1.1)), .arr true (false) (.ints .i64 ((boS p.bi p.bs p.bo s).1.2)), .arr true (false) (.ints .i64 (b))], ldD (boS p.bi p.bs p.bo s).2] at e1
  rw [← q1] at h1 e1
  have h2 := qn6 h1.1 P.rain
  have e2 := qd9 (k + 3) (by omega) false false false false r l s1.1 b p.rain P.rain h1.1
  obtain ⟨s2, q2⟩ : ∃ x, x = raS p.rain l s1.1 := ⟨_, rfl⟩
  change StF r l (raS p.rain l s1.1).1.1 (raS p.rain l s1.1).1.2 b ∧ Led s1.1 (raS p.rain l s1.1).1 (raS p.rain l s1.1).2 at h2
  rw [← q2] at h2 e2
  have h3 := qpv h2.1 P.loss
  have e3 := qea (k + 3) (by omega) false false false false r l s2.1.1 s2.1.2 b p.loss P.loss h2.1
  obtain ⟨s3, q3⟩ : ∃ x, x = soS p.loss l s2.1 := ⟨_, rfl⟩
  change StF r l (soS p.loss l s2.1).1.1 (soS p.loss l s2.1).1.2 b ∧ Led s2.1 (soS p.loss l s2.1).1 (soS p.loss l s2.1).2 at h3
  change _ = some [.agg [.int .i64 (r), .arr true (false) (.r3 (l)), .arr true (false) (.ints .i64 ((soS p.loss l s2.1).1.1)), .arr true (false) (.ints .i64 ((soS p.loss l s2.1).1.2)), .arr true (false) (.ints .i64 (b))], ldD (soS p.loss l s2.1).2] at e3
  rw [← q3] at h3 e3
  have h4 := qff h3.1 P.dec
  have e4 := qc7 (k + 4) (by omega) false false false false r l s3.1.1 s3.1.2 b p.dec P.dec h3.1
  obtain ⟨s4, q4⟩ : ∃ x, x = deS p.dec l s3.1 := ⟨_, rfl⟩
  change StF r l (deS p.dec l s3.1).1.1 (deS p.dec l s3.1).1.2 b ∧ Led s3.1 (deS p.dec l s3.1).1 (deS p.dec l s3.1).2 at h4
  change _ = some [.agg [.int .i64 (r), .arr true (false) (.r3 (l)), .arr true (false) (.ints .i64 ((deS p.dec l s3.1).1.1)), .arr true (false) (.ints .i64 ((deS p.dec l s3.1).1.2)), .arr true (false) (.ints .i64 (b))], ldD (deS p.dec l s3.1).2] at e4
  rw [← q4] at h4 e4
  have l1 := h1.2; have l2 := h2.2; have l3 := h3.2; have l4 := h4.2
  have a1 := l1.mi; have a2 := l2.mi; have a3 := l3.mi; have a4 := l4.mi
  have b1 := l1.mo; have b2 := l2.mo; have b3 := l3.mo; have b4 := l4.mo
  have c1 := l1.ti; have c2 := l2.ti; have c3 := l3.ti; have c4 := l4.ti
  have d1 := l1.ou; have d2 := l2.ou; have d3 := l3.ou; have d4 := l4.ou
  have g1 := qcr (k + 6) s1.2 s2.2 (by omega) (by omega) (by omega) (by omega)
  have g2 := qcr (k + 6) s3.2 s4.2 (by omega) (by omega) (by omega) (by omega)
  have g3 := qcr (k + 6) (s1.2.add s2.2) (s3.2.add s4.2) (by simp only [Ld.add]; omega) (by simp only [Ld.add]; omega) (by simp only [Ld.add]; omega) (by simp only [Ld.add]; omega)
  have ll : (s1.2.add s2.2).add (s3.2.add s4.2) = ((s1.2.add s2.2).add s3.2).add s4.2 := by simp only [Ld.add, Int.add_assoc]
  have eq : mac p b c (l, s) = (if 0 < p.every ∧ (c + 1) % p.every = 0 then ada p.high p.low b (l, qq9 l b 16 0 s4.1) else (l, qq9 l b 16 0 s4.1), (s1.2.add s2.2).add (s3.2.add s4.2)) := by
    rw [ll]; subst q4; subst q3; subst q2; subst q1; rfl
  have eM := ql3 k hk [] r l b p P c hc ((s1.2.add s2.2).add (s3.2.add s4.2)) true true true true [] [] [] [] 0 0 0 0 0 (k + 7) 16 0 s4.1 rfl (by omega) h4.1
  rw [show ((0 : Nat) : Int) = 0 from rfl] at eM
  rw [eq]
  simp (disch := omega) only [qay, nth0, nth1, nth2, nth3, bit, qef, qeg, qer, qew, qex, qey, qez, qe0, qe1, qe2, qeh, qei, qej, qek, qel, qem, qen, qeo, qep, qeq, qes, qet, qeu, qev, qrf, qre, qrg, qnd, qn3, qn5, qjh, qa5, qqo, nI, qfb, qe9, Bool.not_true, Bool.not_false, Bool.and_true, Bool.true_and, Bool.and_false, Bool.false_and, Bool.or_true, Bool.true_or, Bool.or_false, Bool.false_or, beq_self_eq_true, dTT, dFF, dT, dF, bigI, big0, qnc, qr4, qr5, List.length_set, List.length_replicate, Int.toNat_natCast, qed, qee, imax, imin, e1, e2, e3, e4, g1, g2, g3]
  exact eM
end Go.Proofs.YtjfjniebmdafeaaGreatDoor
end
section
namespace Go.Proofs.YtjfjniebmdafeaaGreatDoor
open Go.Ev
theorem qhj (k : Nat) (a0 : Int) (a1z : Bool) (a1 : List (Int × Int × Int)) (a2z : Bool) (a2 : List Int) (a3z : Bool) (a3 : List Int) (a4z : Bool) (a4 : List Int) (a5 a6 a7 a8 a9 a10 a11 a12 a13 a14 a15 a16 a17 a18 a19 a20 : Int) : go (k + 1) spec_WorldOk [(.agg [(.int .i64 (a0)), (.arr false (a1z) (.r3 (a1))), (.arr false (a2z) (.ints .i64 (a2))), (.arr false (a3z) (.ints .i64 (a3))), (.arr false (a4z) (.ints .i64 (a4))), (.int .i64 (a5)), (.int .i64 (a6)), (.int .i64 (a7)), (.int .i64 (a8)), (.int .i64 (a9)), (.int .i64 (a10)), (.int .i64 (a11)), (.int .i64 (a12)), (.int .i64 (a13)), (.int .i64 (a14)), (.int .i64 (a15)), (.int .i64 (a16)), (.int .i64 (a17)), (.int .i64 (a18)), (.int .i64 (a19)), (.int .i64 (a20))])] =
 (go k spec_StateOk [(.agg [(.int .i64 (a0)), (.arr false (a1z) (.r3 (a1))), (.arr false (a2z) (.ints .i64 (a2))), (.arr false (a3z) (.ints .i64 (a3))), (.arr false (a4z) (.ints .i64 (a4)))])]).bind fun r0 =>
 cond (!bit (nth r0 0))
 (some [(.bool (false))])
 ((go k spec_PlanOk [(.agg [(.int .i64 (a5)), (.int .i64 (a6)), (.int .i64 (a7)), (.int .i64 (a8)), (.int .i64 (a9)), (.int .i64 (a10)), (.int .i64 (a11)), (.int .i64 (a12)), (.int .i64 (a13))])]).bind fun r1 =>
 cond (!bit (nth r1 0))
 (some [(.bool (false))])
 ((go k spec_l01In [(.int .i64 (a14)), (.int .i64 (0 : Int)), (.int .i64 ((100000 : Int)))]).bind fun r2 =>
 cond (!bit (nth r2 0))
 (some [(.bool (false))])
 ((go k spec_l36Amount [(.int .i64 (a15))]).bind fun r3 =>
 cond (!bit (nth r3 0))
 (some [(.bool (false))])
 ((go k spec_l36Amount [(.int .i64 (a16))]).bind fun r4 =>
 cond (!bit (nth r4 0))
 (some [(.bool (false))])
 ((go k spec_l36Amount [(.int .i64 (a17))]).bind fun r5 =>
 cond (!bit (nth r5 0))
 (some [(.bool (false))])
 ((go k spec_l36Amount [(.int .i64 (a18))]).bind fun r6 =>
 cond (!bit (nth r6 0))
 (some [(.bool (false))])
 ((go k spec_l07Sum [(.arr false (a2z) (.ints .i64 (a2)))]).bind fun r7 =>
 cond (decide (IntKind.wrap .i64 (IntKind.wrap .i64 (D.toInt (nth r7 0) - a15) + a16) = a19))
 ((go k spec_l07Sum [(.arr false (a3z) (.ints .i64 (a3)))]).bind fun r8 =>
 some [(.bool (decide (IntKind.wrap .i64 (IntKind.wrap .i64 (D.toInt (nth r8 0) - a17) + a18) = a20)))])
 (some [(.bool (false))])))))))) := by kernel_rfl
theorem qgc (k : Nat) (a0 : Int) (a1z : Bool) (a1 : List (Int × Int × Int)) (a2z : Bool) (a2 : List Int) (a3z : Bool) (a3 : List Int) (a4z : Bool) (a4 : List Int) (a5 a6 a7 a8 a9 a10 a11 a12 a13 a14 a15 a16 a17 a18 a19 a20 : Int) : go (k + 1) impl_WorldOk [(.agg [(.int .i64 (a0)), (.arr false (a1z) (.r3 (a1))), (.arr false (a2z) (.ints .i64 (a2))), (.arr false (a3z) (.ints .i64 (a3))), (.arr false (a4z) (.ints .i64 (a4))), (.int .i64 (a5)), (.int .i64 (a6)), (.int .i64 (a7)), (.int .i64 (a8)), (.int .i64 (a9)), (.int .i64 (a10)), (.int .i64 (a11)), (.int .i64 (a12)), (.int .i64 (a13)), (.int .i64 (a14)), (.int .i64 (a15)), (.int .i64 (a16)), (.int .i64 (a17)), (.int .i64 (a18)), (.int .i64 (a19)), (.int .i64 (a20))])] =
 (go k impl_StateOk [(.agg [(.int .i64 (a0)), (.arr false (a1z) (.r3 (a1))), (.arr false (a2z) (.ints .i64 (a2))), (.arr false (a3z) (.ints .i64 (a3))), (.arr false (a4z) (.ints .i64 (a4)))])]).bind fun r0 =>
 cond (bit (nth r0 0))
 ((go k impl_PlanOk [(.agg [(.int .i64 (a5)), (.int .i64 (a6)), (.int .i64 (a7)), (.int .i64 (a8)), (.int .i64 (a9)), (.int .i64 (a10)), (.int .i64 (a11)), (.int .i64 (a12)), (.int .i64 (a13))])]).bind fun r1 =>
 cond (bit (nth r1 0))
 ((go k impl_within [(.int .i64 (a14)), (.int .i64 (0 : Int)), (.int .i64 ((100000 : Int)))]).bind fun r2 =>
 cond (bit (nth r2 0))
 ((go k impl_ledgerOk [(.agg [(.int .i64 (a15)), (.int .i64 (a16)), (.int .i64 (a17)), (.int .i64 (a18))])]).bind fun r3 =>
 cond (bit (nth r3 0))
 ((go k impl_sum [(.arr false (a2z) (.ints .i64 (a2)))]).bind fun r4 =>
 cond (decide (a19 = IntKind.wrap .i64 (IntKind.wrap .i64 (D.toInt (nth r4 0) - a15) + a16)))
 ((go k impl_sum [(.arr false (a3z) (.ints .i64 (a3)))]).bind fun r5 =>
 some [(.bool (decide (a20 = IntKind.wrap .i64 (IntKind.wrap .i64 (D.toInt (nth r5 0) - a17) + a18))))])
 (some [(.bool (false))]))
 (some [(.bool (false))]))
 (some [(.bool (false))]))
 (some [(.bool (false))]))
 (some [(.bool (false))]) := by kernel_rfl

end Go.Proofs.YtjfjniebmdafeaaGreatDoor
end
section
namespace Go.Proofs.YtjfjniebmdafeaaGreatDoor
open Go.Ev
theorem qgv (k : Nat) (a0 a1 a2 : Int) : go (k + 1) spec_BorderOk [(.agg [(.int .i64 (a0)), (.int .i64 (a1)), (.int .i64 (a2))])] =
 (go k spec_l01In [(.int .i64 (a0)), (.int .i64 (0 : Int)), (.int .i64 ((10000 : Int)))]).bind fun r0 =>
 cond (bit (nth r0 0))
 ((go k spec_l01In [(.int .i64 (a1)), (.int .i64 (0 : Int)), (.int .i64 ((1000 : Int)))]).bind fun r1 =>
 cond (bit (nth r1 0))
 ((go k spec_l01In [(.int .i64 (a2)), (.int .i64 (0 : Int)), (.int .i64 ((250 : Int)))]).bind fun r2 =>
 some [(.bool (bit (nth r2 0)))])
 (some [(.bool (false))]))
 (some [(.bool (false))]) := by kernel_rfl
theorem qfr (k : Nat) (a0 a1 a2 : Int) : go (k + 1) impl_BorderOk [(.agg [(.int .i64 (a0)), (.int .i64 (a1)), (.int .i64 (a2))])] =
 (go k impl_within [(.int .i64 (a0)), (.int .i64 (0 : Int)), (.int .i64 ((10000 : Int)))]).bind fun r0 =>
 cond (bit (nth r0 0))
 ((go k impl_within [(.int .i64 (a1)), (.int .i64 (0 : Int)), (.int .i64 ((1000 : Int)))]).bind fun r1 =>
 cond (bit (nth r1 0))
 ((go k impl_within [(.int .i64 (a2)), (.int .i64 (0 : Int)), (.int .i64 ((250 : Int)))]).bind fun r2 =>
 some [(.bool (bit (nth r2 0)))])
 (some [(.bool (false))]))
 (some [(.bool (false))]) := by kernel_rfl
theorem qgj (k : Nat) (a : Int) : go (k + 1) impl_isRain [(.int .i64 (a))] =
 (go k impl_within [(.int .i64 (a)), (.int .i64 (0 : Int)), (.int .i64 ((10000 : Int)))]).bind fun r0 =>
 some [(.bool (bit (nth r0 0)))] := by kernel_rfl
theorem qgk (k : Nat) (a : Int) : go (k + 1) impl_isRate [(.int .i64 (a))] =
 (go k impl_within [(.int .i64 (a)), (.int .i64 (0 : Int)), (.int .i64 ((1000 : Int)))]).bind fun r0 =>
 some [(.bool (bit (nth r0 0)))] := by kernel_rfl
theorem qhb (k : Nat) (a0 a1 a2 a3 a4 a5 a6 a7 a8 : Int) : go (k + 1) spec_PlanOk [(.agg [(.int .i64 (a0)), (.int .i64 (a1)), (.int .i64 (a2)), (.int .i64 (a3)), (.int .i64 (a4)), (.int .i64 (a5)), (.int .i64 (a6)), (.int .i64 (a7)), (.int .i64 (a8))])] =
 (go k spec_BorderOk [(.agg [(.int .i64 (a0)), (.int .i64 (a1)), (.int .i64 (a2))])]).bind fun r0 =>
 cond (bit (nth r0 0))
 ((go k spec_l01In [(.int .i64 (a3)), (.int .i64 (0 : Int)), (.int .i64 ((10000 : Int)))]).bind fun r1 =>
 cond (bit (nth r1 0))
 ((go k spec_l01In [(.int .i64 (a4)), (.int .i64 (0 : Int)), (.int .i64 ((10000 : Int)))]).bind fun r2 =>
 cond (bit (nth r2 0))
 ((go k spec_l01In [(.int .i64 (a5)), (.int .i64 (0 : Int)), (.int .i64 ((1000 : Int)))]).bind fun r3 =>
 cond (bit (nth r3 0))
 ((go k spec_l01In [(.int .i64 (a6)), (.int .i64 (0 : Int)), (.int .i64 ((1000000 : Int)))]).bind fun r4 =>
 cond (bit (nth r4 0))
 ((go k spec_l01In [(.int .i64 (a7)), (.int .i64 (0 : Int)), (.int .i64 ((1000000 : Int)))]).bind fun r5 =>
 cond (bit (nth r5 0))
 ((go k spec_l01In [(.int .i64 (a8)), (.int .i64 (0 : Int)), (.int .i64 ((100 : Int)))]).bind fun r6 =>
 some [(.bool (bit (nth r6 0)))])
 (some [(.bool (false))]))
 (some [(.bool (false))]))
 (some [(.bool (false))]))
 (some [(.bool (false))]))
 (some [(.bool (false))]))
 (some [(.bool (false))]) := by kernel_rfl
theorem qf3 (k : Nat) (a0 a1 a2 a3 a4 a5 a6 a7 a8 : Int) : go (k + 1) impl_PlanOk [(.agg [(.int .i64 (a0)), (.int .i64 (a1)), (.int .i64 (a2)), (.int .i64 (a3)), (.int .i64 (a4)), (.int .i64 (a5)), (.int .i64 (a6)), (.int .i64 (a7)), (.int .i64 (a8))])] =
 (go k impl_BorderOk [(.agg [(.int .i64 (a0)), (.int .i64 (a1)), (.int .i64 (a2))])]).bind fun r0 =>
 cond (bit (nth r0 0))
 ((go k impl_isRain [(.int .i64 (a3))]).bind fun r1 =>
 cond (bit (nth r1 0))
 ((go k impl_isRain [(.int .i64 (a4))]).bind fun r2 =>
 cond (bit (nth r2 0))
 ((go k impl_isRate [(.int .i64 (a5))]).bind fun r3 =>
 cond (bit (nth r3 0))
 ((go k impl_within [(.int .i64 (a6)), (.int .i64 (0 : Int)), (.int .i64 ((1000000 : Int)))]).bind fun r4 =>
 cond (bit (nth r4 0))
 ((go k impl_within [(.int .i64 (a7)), (.int .i64 (0 : Int)), (.int .i64 ((1000000 : Int)))]).bind fun r5 =>
 cond (bit (nth r5 0))
 ((go k impl_within [(.int .i64 (a8)), (.int .i64 (0 : Int)), (.int .i64 ((100 : Int)))]).bind fun r6 =>
 some [(.bool (bit (nth r6 0)))])
 (some [(.bool (false))]))
 (some [(.bool (false))]))
 (some [(.bool (false))]))
 (some [(.bool (false))]))
 (some [(.bool (false))]))
 (some [(.bool (false))]) := by kernel_rfl
theorem qim (k : Nat) (a : Int) : go (k + 1) spec_l36Amount [(.int .i64 (a))] =
 (go k spec_l01In [(.int .i64 (a)), (.int .i64 (0 : Int)), (.int .i64 ((1000000000000000 : Int)))]).bind fun r0 =>
 some [(.bool (bit (nth r0 0)))] := by kernel_rfl
theorem qgl (k : Nat) (a0 a1 a2 a3 : Int) : go (k + 1) impl_ledgerOk [(.agg [(.int .i64 (a0)), (.int .i64 (a1)), (.int .i64 (a2)), (.int .i64 (a3))])] =
 (go k impl_within [(.int .i64 (a0)), (.int .i64 (0 : Int)), (.int .i64 ((1000000000000000 : Int)))]).bind fun r0 =>
 cond (bit (nth r0 0))
 ((go k impl_within [(.int .i64 (a1)), (.int .i64 (0 : Int)), (.int .i64 ((1000000000000000 : Int)))]).bind fun r1 =>
 cond (bit (nth r1 0))
 ((go k impl_within [(.int .i64 (a2)), (.int .i64 (0 : Int)), (.int .i64 ((1000000000000000 : Int)))]).bind fun r2 =>
 cond (bit (nth r2 0))
 ((go k impl_within [(.int .i64 (a3)), (.int .i64 (0 : Int)), (.int .i64 ((1000000000000000 : Int)))]).bind fun r3 =>
 some [(.bool (bit (nth r3 0)))])
 (some [(.bool (false))]))
 (some [(.bool (false))]))
 (some [(.bool (false))]) := by kernel_rfl
theorem qhi (k : Nat) (a0 : Int) (a1z : Bool) (a1 : List (Int × Int × Int)) (a2z : Bool) (a2 : List Int) (a3z : Bool) (a3 : List Int) (a4z : Bool) (a4 : List Int) (b0 b1 b2 b3 b4 b5 b6 b7 b8 : Int) : go (k + 1) spec_WorldNew [(.agg [(.int .i64 (a0)), (.arr false (a1z) (.r3 (a1))), (.arr false (a2z) (.ints .i64 (a2))), (.arr false (a3z) (.ints .i64 (a3))), (.arr false (a4z) (.ints .i64 (a4)))]), (.agg [(.int .i64 (b0)), (.int .i64 (b1)), (.int .i64 (b2)), (.int .i64 (b3)), (.int .i64 (b4)), (.int .i64 (b5)), (.int .i64 (b6)), (.int .i64 (b7)), (.int .i64 (b8))])] =
 (go k spec_StateOk [(.agg [(.int .i64 (a0)), (.arr false (a1z) (.r3 (a1))), (.arr false (a2z) (.ints .i64 (a2))), (.arr false (a3z) (.ints .i64 (a3))), (.arr false (a4z) (.ints .i64 (a4)))])]).bind fun r0 =>
 cond (!bit (nth r0 0))
 (some [(.agg [(.int .i64 (0 : Int)), (.arr true (true) (.r3 ([]))), (.arr true (true) (.ints .i64 ([]))), (.arr true (true) (.ints .i64 ([]))), (.arr true (true) (.ints .i64 ([]))), (.int .i64 (0 : Int)), (.int .i64 (0 : Int)), (.int .i64 (0 : Int)), (.int .i64 (0 : Int)), (.int .i64 (0 : Int)), (.int .i64 (0 : Int)), (.int .i64 (0 : Int)), (.int .i64 (0 : Int)), (.int .i64 (0 : Int)), (.int .i64 (0 : Int)), (.int .i64 (0 : Int)), (.int .i64 (0 : Int)), (.int .i64 (0 : Int)), (.int .i64 (0 : Int)), (.int .i64 (0 : Int)), (.int .i64 (0 : Int))]), (.bool (false))])
 ((go k spec_PlanOk [(.agg [(.int .i64 (b0)), (.int .i64 (b1)), (.int .i64 (b2)), (.int .i64 (b3)), (.int .i64 (b4)), (.int .i64 (b5)), (.int .i64 (b6)), (.int .i64 (b7)), (.int .i64 (b8))])]).bind fun r1 =>
 cond (!bit (nth r1 0))
 (some [(.agg [(.int .i64 (0 : Int)), (.arr true (true) (.r3 ([]))), (.arr true (true) (.ints .i64 ([]))), (.arr true (true) (.ints .i64 ([]))), (.arr true (true) (.ints .i64 ([]))), (.int .i64 (0 : Int)), (.int .i64 (0 : Int)), (.int .i64 (0 : Int)), (.int .i64 (0 : Int)), (.int .i64 (0 : Int)), (.int .i64 (0 : Int)), (.int .i64 (0 : Int)), (.int .i64 (0 : Int)), (.int .i64 (0 : Int)), (.int .i64 (0 : Int)), (.int .i64 (0 : Int)), (.int .i64 (0 : Int)), (.int .i64 (0 : Int)), (.int .i64 (0 : Int)), (.int .i64 (0 : Int)), (.int .i64 (0 : Int))]), (.bool (false))])
 ((go k spec_l07Copy [(.agg [(.int .i64 (a0)), (.arr false (a1z) (.r3 (a1))), (.arr false (a2z) (.ints .i64 (a2))), (.arr false (a3z) (.ints .i64 (a3))), (.arr false (a4z) (.ints .i64 (a4)))])]).bind fun r2 =>
 (go k spec_l07Sum [(.arr false (a2z) (.ints .i64 (a2)))]).bind fun r3 =>
 (go k spec_l07Sum [(.arr false (a3z) (.ints .i64 (a3)))]).bind fun r4 =>
 some [(.agg [(.int .i64 (D.toInt (D.cell 0 (nth r2 0)))), (.arr true (D.nil (D.cell 1 (nth r2 0))) (.r3 (D.r3 (D.cell 1 (nth r2 0))))), (.arr true (D.nil (D.cell 2 (nth r2 0))) (.ints .i64 (D.ints (D.cell 2 (nth r2 0))))), (.arr true (D.nil (D.cell 3 (nth r2 0))) (.ints .i64 (D.ints (D.cell 3 (nth r2 0))))), (.arr true (D.nil (D.cell 4 (nth r2 0))) (.ints .i64 (D.ints (D.cell 4 (nth r2 0))))), (.int .i64 (b0)), (.int .i64 (b1)), (.int .i64 (b2)), (.int .i64 (b3)), (.int .i64 (b4)), (.int .i64 (b5)), (.int .i64 (b6)), (.int .i64 (b7)), (.int .i64 (b8)), (.int .i64 (0 : Int)), (.int .i64 (0 : Int)), (.int .i64 (0 : Int)), (.int .i64 (0 : Int)), (.int .i64 (0 : Int)), (.int .i64 (D.toInt (nth r3 0))), (.int .i64 (D.toInt (nth r4 0)))]), (.bool (true))])) := by kernel_rfl

end Go.Proofs.YtjfjniebmdafeaaGreatDoor
end
section
namespace Go.Proofs.YtjfjniebmdafeaaGreatDoor
open Go.Ev
def qa6 (a b c : Int) : Bool := inR a 0 10000 && (inR b 0 1000 && inR c 0 250)
theorem qcc (k : Nat) (hk : 2000000 ≤ k) (a0 : Int) (a1 : Int) (a2 : Int) : go (k + 2) spec_BorderOk [(.agg [(.int .i64 (a0)), (.int .i64 (a1)), (.int .i64 (a2))])] = some [.bool (qa6 a0 a1 a2)] := by
  rw [qgv]
  simp (disch := omega) only [qay, nth0, nth1, nth2, nth3, bit, qef, qeg, qer, qew, qex, qey, qez, qe0, qe1, qe2, qeh, qei, qej, qek, qel, qem, qen, qeo, qep, qeq, qes, qet, qeu, qev, qrf, qre, qrg, qnd, qn3, qn5, qjh, qa5, qqo, nI, qfb, qe9, Bool.not_true, Bool.not_false, Bool.and_true, Bool.true_and, Bool.and_false, Bool.false_and, Bool.or_true, Bool.true_or, Bool.or_false, Bool.false_or, beq_self_eq_true, dTT, dFF, dT, dF, bigI, big0, qnc, qr4, qr5, List.length_set, List.length_replicate, Int.toNat_natCast, qed, qee, imax, imin, qda, qfd]
  rfl
theorem qa9 (k : Nat) (hk : 2000000 ≤ k) (a0 : Int) (a1 : Int) (a2 : Int) : go (k + 2) impl_BorderOk [(.agg [(.int .i64 (a0)), (.int .i64 (a1)), (.int .i64 (a2))])] = some [.bool (qa6 a0 a1 a2)] := by
  rw [qfr]
  simp (disch := omega) only [qay, nth0, nth1, nth2, nth3, bit, qef, qeg, qer, qew, qex, qey, qez, qe0, qe1, qe2, qeh, qei, qej, qek, qel, qem, qen, qeo, qep, qeq, qes, qet, qeu, qev, qrf, qre, qrg, qnd, qn3, qn5, qjh, qa5, qqo, nI, qfb, qe9, Bool.not_true, Bool.not_false, Bool.and_true, Bool.true_and, Bool.and_false, Bool.false_and, Bool.or_true, Bool.true_or, Bool.or_false, Bool.false_or, beq_self_eq_true, dTT, dFF, dT, dF, bigI, big0, qnc, qr4, qr5, List.length_set, List.length_replicate, Int.toNat_natCast, qed, qee, imax, imin, qb7, qfd]
  rfl
theorem qb0 (k : Nat) (hk : 2000000 ≤ k) (a : Int) : go (k + 2) impl_isRain [(.int .i64 (a))] = some [.bool (inR a 0 10000)] := by
  rw [qgj]
  simp (disch := omega) only [qay, nth0, nth1, nth2, nth3, bit, qef, qeg, qer, qew, qex, qey, qez, qe0, qe1, qe2, qeh, qei, qej, qek, qel, qem, qen, qeo, qep, qeq, qes, qet, qeu, qev, qrf, qre, qrg, qnd, qn3, qn5, qjh, qa5, qqo, nI, qfb, qe9, Bool.not_true, Bool.not_false, Bool.and_true, Bool.true_and, Bool.and_false, Bool.false_and, Bool.or_true, Bool.true_or, Bool.or_false, Bool.false_or, beq_self_eq_true, dTT, dFF, dT, dF, bigI, big0, qnc, qr4, qr5, List.length_set, List.length_replicate, Int.toNat_natCast, qed, qee, imax, imin, qb7]
theorem qb1 (k : Nat) (hk : 2000000 ≤ k) (a : Int) : go (k + 2) impl_isRate [(.int .i64 (a))] = some [.bool (inR a 0 1000)] := by
  rw [qgk]
  simp (disch := omega) only [qay, nth0, nth1, nth2, nth3, bit, qef, qeg, qer, qew, qex, qey, qez, qe0, qe1, qe2, qeh, qei, qej, qek, qel, qem, qen, qeo, qep, qeq, qes, qet, qeu, qev, qrf, qre, qrg, qnd, qn3, qn5, qjh, qa5, qqo, nI, qfb, qe9, Bool.not_true, Bool.not_false, Bool.and_true, Bool.true_and, Bool.and_false, Bool.false_and, Bool.or_true, Bool.true_or, Bool.or_false, Bool.false_or, beq_self_eq_true, dTT, dFF, dT, dF, bigI, big0, qnc, qr4, qr5, List.length_set, List.length_replicate, Int.toNat_natCast, qed, qee, imax, imin, qb7]
def qny (a0 a1 a2 a3 a4 a5 a6 a7 a8 : Int) : Bool := qa6 a0 a1 a2 && (inR a3 0 10000 && (inR a4 0 10000 && (inR a5 0 1000 && (inR a6 0 1000000 && (inR a7 0 1000000 && inR a8 0 100)))))
theorem qcu (k : Nat) (hk : 2000000 ≤ k) (a0 : Int) (a1 : Int) (a2 : Int) (a3 : Int) (a4 : Int) (a5 : Int) (a6 : Int) (a7 : Int) (a8 : Int) : go (k + 3) spec_PlanOk [(.agg [(.int .i64 (a0)), (.int .i64 (a1)), (.int .i64 (a2)), (.int .i64 (a3)), (.int .i64 (a4)), (.int .i64 (a5)), (.int .i64 (a6)), (.int .i64 (a7)), (.int .i64 (a8))])] = some [.bool (qny a0 a1 a2 a3 a4 a5 a6 a7 a8)] := by
  rw [qhb]
  simp (disch := omega) only [qay, nth0, nth1, nth2, nth3, bit, qef, qeg, qer, qew, qex, qey, qez, qe0, qe1, qe2, qeh, qei, qej, qek, qel, qem, qen, qeo, qep, qeq, qes, qet, qeu, qev, qrf, qre, qrg, qnd, qn3, qn5, qjh, qa5, qqo, nI, qfb, qe9, Bool.not_true, Bool.not_false, Bool.and_true, Bool.true_and, Bool.and_false, Bool.false_and, Bool.or_true, Bool.true_or, Bool.or_false, Bool.false_or, beq_self_eq_true, dTT, dFF, dT, dF, bigI, big0, qnc, qr4, qr5, List.length_set, List.length_replicate, Int.toNat_natCast, qed, qee, imax, imin, qda, qcc, qfd]
  rfl
theorem qbl (k : Nat) (hk : 2000000 ≤ k) (a0 : Int) (a1 : Int) (a2 : Int) (a3 : Int) (a4 : Int) (a5 : Int) (a6 : Int) (a7 : Int) (a8 : Int) : go (k + 3) impl_PlanOk [(.agg [(.int .i64 (a0)), (.int .i64 (a1)), (.int .i64 (a2)), (.int .i64 (a3)), (.int .i64 (a4)), (.int .i64 (a5)), (.int .i64 (a6)), (.int .i64 (a7)), (.int .i64 (a8))])] = some [.bool (qny a0 a1 a2 a3 a4 a5 a6 a7 a8)] := by
  rw [qf3]
  simp (disch := omega) only [qay, nth0, nth1, nth2, nth3, bit, qef, qeg, qer, qew, qex, qey, qez, qe0, qe1, qe2, qeh, qei, qej, qek, qel, qem, qen, qeo, qep, qeq, qes, qet, qeu, qev, qrf, qre, qrg, qnd, qn3, qn5, qjh, qa5, qqo, nI, qfb, qe9, Bool.not_true, Bool.not_false, Bool.and_true, Bool.true_and, Bool.and_false, Bool.false_and, Bool.or_true, Bool.true_or, Bool.or_false, Bool.false_or, beq_self_eq_true, dTT, dFF, dT, dF, bigI, big0, qnc, qr4, qr5, List.length_set, List.length_replicate, Int.toNat_natCast, qed, qee, imax, imin, qb7, qa9, qb0, qb1, qfd]
  rfl
def qiq : D := .agg [.int .i64 0, .arr true true (.r3 []), .arr true true (.ints .i64 []), .arr true true (.ints .i64 []), .arr true true (.ints .i64 []), .int .i64 0, .int .i64 0, .int .i64 0, .int .i64 0, .int .i64 0, .int .i64 0, .int .i64 0, .int .i64 0, .int .i64 0, .int .i64 0, .int .i64 0, .int .i64 0, .int .i64 0, .int .i64 0, .int .i64 0, .int .i64 0]
def newW (r : Int) (l : List Cell) (m t b : List Int) (b0 b1 b2 b3 b4 b5 b6 b7 b8 : Int) : D := .agg [.int .i64 r, .arr true false (.r3 l), .arr true false (.ints .i64 m), .arr true false (.ints .i64 t), .arr true false (.ints .i64 b), .int .i64 b0, .int .i64 b1, .int .i64 b2, .int .i64 b3, .int .i64 b4, .int .i64 b5, .int .i64 b6, .int .i64 b7, .int .i64 b8, .int .i64 0, .int .i64 0, .int .i64 0, .int .i64 0, .int .i64 0, .int .i64 (isum m), .int .i64 (isum t)]
theorem qc2 (k : Nat) (hk : 2000000 ≤ k) (a0 : Int) (a1 : List Cell) (a2 a3 a4 : List Int) (b0 b1 b2 b3 b4 b5 b6 b7 b8 : Int) (h1 : (a1.length : Int) ≤ 1048576) (h4 : (a4.length : Int) ≤ 1048576) :
    go (k + 8) spec_WorldNew [.agg [.int .i64 a0, .arr false false (.r3 a1), .arr false false (.ints .i64 a2), .arr false false (.ints .i64 a3), .arr false false (.ints .i64 a4)], .agg [.int .i64 b0, .int .i64 b1, .int .i64 b2, .int .i64 b3, .int .i64 b4, .int .i64 b5, .int .i64 b6, .int .i64 b7, .int .i64 b8]] =
    cond (stOk a0 a1 a2 a3 a4 && qny b0 b1 b2 b3 b4 b5 b6 b7 b8) (some [newW a0 a1 a2 a3 a4 b0 b1 b2 b3 b4 b5 b6 b7 b8, .bool true]) (some [qiq, .bool false]) := by
  rw [qhi]
  simp (disch := omega) only [qay, nth0, nth1, nth2, nth3, bit, qef, qeg, qer, qew, qex, qey, qez, qe0, qe1, qe2, qeh, qei, qej, qek, qel, qem, qen, qeo, qep, qeq, qes, qet, qeu, qev, qrf, qre, qrg, qnd, qn3, qn5, qjh, qa5, qqo, nI, qfb, qe9, Bool.not_true, Bool.not_false, Bool.and_true, Bool.true_and, Bool.and_false, Bool.false_and, Bool.or_true, Bool.true_or, Bool.or_false, Bool.false_or, beq_self_eq_true, dTT, dFF, dT, dF, bigI, big0, qnc, qr4, qr5, List.length_set, List.length_replicate, Int.toNat_natCast, qed, qee, imax, imin, qcy, qcu]
  cases g : stOk a0 a1 a2 a3 a4
  · rfl
  cases g2 : qny b0 b1 b2 b3 b4 b5 b6 b7 b8
  · rfl
  have F := stF.1 g
  have := F.len; have := F.ml; have := F.tl; have := F.bl; have := F.rr
  simp only [Bool.not_true, qe9]
  rw [qdp _ (by omega) _ _ (by omega) F.mmem, qdp _ (by omega) _ _ (by omega) F.tmem]
  simp (disch := omega) only [qay, nth0, nth1, nth2, nth3, bit, qef, qeg, qer, qew, qex, qey, qez, qe0, qe1, qe2, qeh, qei, qej, qek, qel, qem, qen, qeo, qep, qeq, qes, qet, qeu, qev, qrf, qre, qrg, qnd, qn3, qn5, qjh, qa5, qqo, nI, qfb, qe9, Bool.not_true, Bool.not_false, Bool.and_true, Bool.true_and, Bool.and_false, Bool.false_and, Bool.or_true, Bool.true_or, Bool.or_false, Bool.false_or, beq_self_eq_true, dTT, dFF, dT, dF, bigI, big0, qnc, qr4, qr5, List.length_set, List.length_replicate, Int.toNat_natCast, qed, qee, imax, imin, qdn]
  rfl
end Go.Proofs.YtjfjniebmdafeaaGreatDoor
end
section
namespace Go.Proofs.YtjfjniebmdafeaaGreatDoor
open Go.Ev
def qk8 (a b c d : Int) : Bool := inR a 0 1000000000000000 && (inR b 0 1000000000000000 && (inR c 0 1000000000000000 && inR d 0 1000000000000000))
theorem qd3 (k : Nat) (hk : 2000000 ≤ k) (a : Int) : go (k + 2) spec_l36Amount [(.int .i64 (a))] = some [.bool (inR a 0 1000000000000000)] := by
  rw [qim]
  simp (disch := omega) only [qay, nth0, nth1, nth2, nth3, bit, qef, qeg, qer, qew, qex, qey, qez, qe0, qe1, qe2, qeh, qei, qej, qek, qel, qem, qen, qeo, qep, qeq, qes, qet, qeu, qev, qrf, qre, qrg, qnd, qn3, qn5, qjh, qa5, qqo, nI, qfb, qe9, Bool.not_true, Bool.not_false, Bool.and_true, Bool.true_and, Bool.and_false, Bool.false_and, Bool.or_true, Bool.true_or, Bool.or_false, Bool.false_or, beq_self_eq_true, dTT, dFF, dT, dF, bigI, big0, qnc, qr4, qr5, List.length_set, List.length_replicate, Int.toNat_natCast, qed, qee, imax, imin, qda]
theorem qb2 (k : Nat) (hk : 2000000 ≤ k) (a0 : Int) (a1 : Int) (a2 : Int) (a3 : Int) : go (k + 2) impl_ledgerOk [(.agg [(.int .i64 (a0)), (.int .i64 (a1)), (.int .i64 (a2)), (.int .i64 (a3))])] = some [.bool (qk8 a0 a1 a2 a3)] := by
  rw [qgl]
  simp (disch := omega) only [qay, nth0, nth1, nth2, nth3, bit, qef, qeg, qer, qew, qex, qey, qez, qe0, qe1, qe2, qeh, qei, qej, qek, qel, qem, qen, qeo, qep, qeq, qes, qet, qeu, qev, qrf, qre, qrg, qnd, qn3, qn5, qjh, qa5, qqo, nI, qfb, qe9, Bool.not_true, Bool.not_false, Bool.and_true, Bool.true_and, Bool.and_false, Bool.false_and, Bool.or_true, Bool.true_or, Bool.or_false, Bool.false_or, beq_self_eq_true, dTT, dFF, dT, dF, bigI, big0, qnc, qr4, qr5, List.length_set, List.length_replicate, Int.toNat_natCast, qed, qee, imax, imin, qb7, qfd]
  rfl
def qr1 (a0 : Int) (a1 : List Cell) (a2 a3 a4 : List Int) (b0 b1 b2 b3 b4 b5 b6 b7 b8 s c0 c1 c2 c3 f g : Int) : Bool :=
  stOk a0 a1 a2 a3 a4 && (qny b0 b1 b2 b3 b4 b5 b6 b7 b8 && (inR s 0 100000 && (qk8 c0 c1 c2 c3 && (decide (isum a2 - c0 + c1 = f) && decide (isum a3 - c2 + c3 = g)))))
theorem qje {a m : Int} (h : inR a 0 m = true) : 0 ≤ a ∧ a ≤ m := by
  simp only [inR, Bool.and_eq_true, decide_eq_true_eq] at h
  omega
theorem qfj (a b : Int) : decide (a = b) = decide (b = a) := decide_eq_decide.2 eq_comm
theorem qc4 (k : Nat) (hk : 2000000 ≤ k) (a0 : Int) (a1z : Bool) (a1 : List (Int × Int × Int)) (a2z : Bool) (a2 : List Int) (a3z : Bool) (a3 : List Int) (a4z : Bool) (a4 : List Int) (a5 : Int) (a6 : Int) (a7 : Int) (a8 : Int) (a9 : Int) (a10 : Int) (a11 : Int) (a12 : Int) (a13 : Int) (a14 : Int) (a15 : Int) (a16 : Int) (a17 : Int) (a18 : Int) (a19 : Int) (a20 : Int) (h1 : (a1.length : Int) ≤ 1048576) (h4 : (a4.length : Int) ≤ 1048576) :
    go (k + 8) spec_WorldOk [(.agg [(.int .i64 (a0)), (.arr false (a1z) (.r3 (a1))), (.arr false (a2z) (.ints .i64 (a2))), (.arr false (a3z) (.ints .i64 (a3))), (.arr false (a4z) (.ints .i64 (a4))), (.int .i64 (a5)), (.int .i64 (a6)), (.int .i64 (a7)), (.int .i64 (a8)), (.int .i64 (a9)), (.int .i64 (a10)), (.int .i64 (a11)), (.int .i64 (a12)), (.int .i64 (a13)), (.int .i64 (a14)), (.int .i64 (a15)), (.int .i64 (a16)), (.int .i64 (a17)), (.int .i64 (a18)), (.int .i64 (a19)), (.int .i64 (a20))])] = some [.bool (qr1 a0 a1 a2 a3 a4 a5 a6 a7 a8 a9 a10 a11 a12 a13 a14 a15 a16 a17 a18 a19 a20)] := by
  rw [qhj]
  simp (disch := omega) only [qay, nth0, nth1, nth2, nth3, bit, qef, qeg, qer, qew, qex, qey, qez, qe0, qe1, qe2, qeh, qei, qej, qek, qel, qem, qen, qeo, qep, qeq, qes, qet, qeu, qev, qrf, qre, qrg, qnd, qn3, qn5, qjh, qa5, qqo, nI, qfb, qe9, Bool.not_true, Bool.not_false, Bool.and_true, Bool.true_and, Bool.and_false, Bool.false_and, Bool.or_true, Bool.true_or, Bool.or_false, Bool.false_or, beq_self_eq_true, dTT, dFF, dT, dF, bigI, big0, qnc, qr4, qr5, List.length_set, List.length_replicate, Int.toNat_natCast, qed, qee, imax, imin, qcy, qcu, qda, qd3]
  simp only [qr1, qk8]
  cases g : stOk a0 a1 a2 a3 a4
  · rfl
  cases g2 : qny a5 a6 a7 a8 a9 a10 a11 a12 a13
  · rfl
  cases g3 : inR a14 0 100000
  · rfl
  cases g4 : inR a15 0 1000000000000000
  · rfl
  cases g5 : inR a16 0 1000000000000000
  · rfl
  cases g6 : inR a17 0 1000000000000000
  · rfl
  cases g7 : inR a18 0 1000000000000000
  · rfl
  have F := stF.1 g
  have := F.len; have := F.ml; have := F.tl; have := F.bl; have := F.rr
  have b4 := qje g4; have b5 := qje g5; have b6 := qje g6; have b7 := qje g7
  have s1 := qjo _ F.mmem; have s2 := qjo _ F.tmem
  simp only [Bool.not_true, qe9, Bool.true_and]
  rw [qdp _ (by omega) _ _ (by omega) F.mmem, qdp _ (by omega) _ _ (by omega) F.tmem]
  simp (disch := omega) only [qay, nth0, nth1, nth2, nth3, bit, qef, qeg, qer, qew, qex, qey, qez, qe0, qe1, qe2, qeh, qei, qej, qek, qel, qem, qen, qeo, qep, qeq, qes, qet, qeu, qev, qrf, qre, qrg, qnd, qn3, qn5, qjh, qa5, qqo, nI, qfb, qe9, Bool.not_true, Bool.not_false, Bool.and_true, Bool.true_and, Bool.and_false, Bool.false_and, Bool.or_true, Bool.true_or, Bool.or_false, Bool.false_or, beq_self_eq_true, dTT, dFF, dT, dF, bigI, big0, qnc, qr4, qr5, List.length_set, List.length_replicate, Int.toNat_natCast, qed, qee, imax, imin, qfd]
theorem qbr (k : Nat) (hk : 2000000 ≤ k) (a0 : Int) (a1z : Bool) (a1 : List (Int × Int × Int)) (a2z : Bool) (a2 : List Int) (a3z : Bool) (a3 : List Int) (a4z : Bool) (a4 : List Int) (a5 : Int) (a6 : Int) (a7 : Int) (a8 : Int) (a9 : Int) (a10 : Int) (a11 : Int) (a12 : Int) (a13 : Int) (a14 : Int) (a15 : Int) (a16 : Int) (a17 : Int) (a18 : Int) (a19 : Int) (a20 : Int) (h1 : (a1.length : Int) ≤ 1048576) (h4 : (a4.length : Int) ≤ 1048576) :
    go (k + 9) impl_WorldOk [(.agg [(.int .i64 (a0)), (.arr false (a1z) (.r3 (a1))), (.arr false (a2z) (.ints .i64 (a2))), (.arr false (a3z) (.ints .i64 (a3))), (.arr false (a4z) (.ints .i64 (a4))), (.int .i64 (a5)), (.int .i64 (a6)), (.int .i64 (a7)), (.int .i64 (a8)), (.int .i64 (a9)), (.int .i64 (a10)), (.int .i64 (a11)), (.int .i64 (a12)), (.int .i64 (a13)), (.int .i64 (a14)), (.int .i64 (a15)), (.int .i64 (a16)), (.int .i64 (a17)), (.int .i64 (a18)), (.int .i64 (a19)), (.int .i64 (a20))])] = some [.bool (qr1 a0 a1 a2 a3 a4 a5 a6 a7 a8 a9 a10 a11 a12 a13 a14 a15 a16 a17 a18 a19 a20)] := by
  rw [qgc]
  simp (disch := omega) only [qay, nth0, nth1, nth2, nth3, bit, qef, qeg, qer, qew, qex, qey, qez, qe0, qe1, qe2, qeh, qei, qej, qek, qel, qem, qen, qeo, qep, qeq, qes, qet, qeu, qev, qrf, qre, qrg, qnd, qn3, qn5, qjh, qa5, qqo, nI, qfb, qe9, Bool.not_true, Bool.not_false, Bool.and_true, Bool.true_and, Bool.and_false, Bool.false_and, Bool.or_true, Bool.true_or, Bool.or_false, Bool.false_or, beq_self_eq_true, dTT, dFF, dT, dF, bigI, big0, qnc, qr4, qr5, List.length_set, List.length_replicate, Int.toNat_natCast, qed, qee, imax, imin, qbo, qbl, qb7, qb2]
  simp only [qr1]
  cases g : stOk a0 a1 a2 a3 a4
  · rfl
  cases g2 : qny a5 a6 a7 a8 a9 a10 a11 a12 a13
  · rfl
  cases g3 : inR a14 0 100000
  · rfl
  cases g4 : qk8 a15 a16 a17 a18
  · rfl
  have F := stF.1 g
  have := F.len; have := F.ml; have := F.tl; have := F.bl; have := F.rr
  have g4' := g4
  simp only [qk8, Bool.and_eq_true] at g4'
  obtain ⟨i1, i2, i3, i4⟩ := g4'
  have b4 := qje i1; have b5 := qje i2; have b6 := qje i3; have b7 := qje i4
  have s1 := qjo _ F.mmem; have s2 := qjo _ F.tmem
  simp only [qfb, Bool.true_and]
  rw [qb4 _ (by omega) _ _ (by omega) F.mmem, qb4 _ (by omega) _ _ (by omega) F.tmem]
  simp (disch := omega) only [qay, nth0, nth1, nth2, nth3, bit, qef, qeg, qer, qew, qex, qey, qez, qe0, qe1, qe2, qeh, qei, qej, qek, qel, qem, qen, qeo, qep, qeq, qes, qet, qeu, qev, qrf, qre, qrg, qnd, qn3, qn5, qjh, qa5, qqo, nI, qfb, qe9, Bool.not_true, Bool.not_false, Bool.and_true, Bool.true_and, Bool.and_false, Bool.false_and, Bool.or_true, Bool.true_or, Bool.or_false, Bool.false_or, beq_self_eq_true, dTT, dFF, dT, dF, bigI, big0, qnc, qr4, qr5, List.length_set, List.length_replicate, Int.toNat_natCast, qed, qee, imax, imin, qfd]
  rw [qfj a19, qfj a20]
end Go.Proofs.YtjfjniebmdafeaaGreatDoor
end
section
namespace Go.Proofs.YtjfjniebmdafeaaGreatDoor
open Go.Ev
def qoy (x0 x1 : Int) (z2 : Bool) (l3 : List (Int × Int × Int)) (x4 : Int) : St := ⟨fill 36 [(1, (.int .i64 (x0))), (2, (.ptr 1 (0) (0))), (5, (.int .i64 (x1)))], [], [(.arr false (z2) (.r3 (l3))), (.box true [(.int .i64 (x4)), (.sl 0 none)])]⟩
theorem qg5 (k : Nat) (a0 : Int) (a1z : Bool) (a1 : List (Int × Int × Int)) (b : Int) : go (k + 1) spec_LeafAt [(.agg [(.int .i64 (a0)), (.arr false (a1z) (.r3 (a1)))]), (.int .i64 (b))] =
 lp k spec_LeafAt [] [] 2 k (qoy b (0 : Int) a1z a1 a0) := by kernel_rfl
theorem qkh (k n : Nat) (fu : List (Nat × Nat)) (x0 x1 : Int) (z2 : Bool) (l3 : List (Int × Int × Int)) (x4 : Int) : lp k spec_LeafAt [] fu 2 (n + 1) (qoy x0 x1 z2 l3 x4) =
 cond (decide (x1 < nI (List.length l3)))
 ((go k spec_MeshOk [(.agg [(.int .i64 (x4)), (.arr false (z2) (.r3 (l3)))])]).bind fun r0 =>
 cond (bit (nth r0 0))
 (cond (decide ((0 : Int) ≤ x1) && decide (x1 < nI (List.length l3)))
 ((go k spec_StartOf [(.agg [(.int .i64 (Prod.fst (List.getD l3 (Int.toNat x1) zz3))), (.int .i64 (Prod.fst (Prod.snd (List.getD l3 (Int.toNat x1) zz3)))), (.int .i64 (Prod.snd (Prod.snd (List.getD l3 (Int.toNat x1) zz3))))])]).bind fun r1 =>
 cond (decide (D.toInt (nth r1 0) ≤ x0))
 (cond (decide ((0 : Int) ≤ x1) && decide (x1 < nI (List.length l3)))
 ((go k spec_l04End [(.agg [(.int .i64 (Prod.fst (List.getD l3 (Int.toNat x1) zz3))), (.int .i64 (Prod.fst (Prod.snd (List.getD l3 (Int.toNat x1) zz3)))), (.int .i64 (Prod.snd (Prod.snd (List.getD l3 (Int.toNat x1) zz3))))])]).bind fun r2 =>
 cond (decide (x0 < D.toInt (nth r2 0)))
 (some [(.int .i64 (x1))])
 (lp k spec_LeafAt [] fu 2 n (qoy x0 (IntKind.wrap .i64 (x1 + (1 : Int))) z2 l3 x4)))
 (none))
 (lp k spec_LeafAt [] fu 2 n (qoy x0 (IntKind.wrap .i64 (x1 + (1 : Int))) z2 l3 x4)))
 (none))
 (some [(.int .i64 ((-1 : Int)))]))
 (some [(.int .i64 ((-1 : Int)))]) := by kernel_rfl

end Go.Proofs.YtjfjniebmdafeaaGreatDoor
end
section
namespace Go.Proofs.YtjfjniebmdafeaaGreatDoor
open Go.Ev
abbrev cst (x : Cell) : Int := qqc x.1 x.2.1 x.2.2
def qk5 (pos : Int) (l : List Cell) : Nat → Nat → Int
  | 0, _ => -1
  | n + 1, i => cond (decide (cst (l.getD i zz3) ≤ pos) && decide (pos < cst (l.getD i zz3) + qrw (l.getD i zz3).2.1)) (i : Int) (qk5 pos l n (i + 1))
theorem qk6 (pos : Int) (l : List Cell) : ∀ (n i : Nat), -1 ≤ qk5 pos l n i ∧ qk5 pos l n i < ((i + n : Nat) : Int) ∧ (0 ≤ qk5 pos l n i → (i : Int) ≤ qk5 pos l n i)
  | 0, i => by simp [qk5]; omega
  | n + 1, i => by
    have := qk6 pos l n (i + 1)
    unfold qk5
    cases (decide (cst (l.getD i zz3) ≤ pos) && decide (pos < cst (l.getD i zz3) + qrw (l.getD i zz3).2.1))
    · simp only [qe9]; omega
    · simp only [qfb]; omega
def qk3 (r : Int) (l : List Cell) (pos : Int) : Int := cond (qmx r 0 l) (qk5 pos l l.length 0) (-1)
theorem qk4 (r : Int) (l : List Cell) (pos : Int) : -1 ≤ qk3 r l pos ∧ qk3 r l pos < l.length := by
  unfold qk3
  cases qmx r 0 l
  · simp; omega
  · have := qk6 pos l l.length 0; simp only [qfb]; omega
theorem ql1 (k : Nat) (hk : 2000000 ≤ k) (fu : List (Nat × Nat)) (z : Bool) (r : Int) (l : List Cell) (pos : Int) (hl : (l.length : Int) ≤ 1048576) (hm : qmx r 0 l = true) : ∀ (n i : Nat), i ≤ l.length → l.length - i < n →
    lp (k + 5) spec_LeafAt [] fu 2 (n) (qoy pos (i : Int) z l r) = some [.int .i64 (qk5 pos l (l.length - i) i)]
  | 0, i, hi, hn => by omega
  | n + 1, i, hi, hn => by
    rw [qkh]
    by_cases h : i < l.length
    · have e := ql1 k hk fu z r l pos hl hm n (i + 1) (by omega) (by omega)
      rw [show l.length - i = (l.length - (i + 1)) + 1 by omega, qk5]
      simp (disch := omega) only [qay, nth0, nth1, nth2, nth3, bit, qef, qeg, qer, qew, qex, qey, qez, qe0, qe1, qe2, qeh, qei, qej, qek, qel, qem, qen, qeo, qep, qeq, qes, qet, qeu, qev, qrf, qre, qrg, qnd, qn3, qn5, qjh, qa5, qqo, nI, qfb, qe9, Bool.not_true, Bool.not_false, Bool.and_true, Bool.true_and, Bool.and_false, Bool.false_and, Bool.or_true, Bool.true_or, Bool.or_false, Bool.false_or, beq_self_eq_true, dTT, dFF, dT, dF, bigI, big0, qnc, qr4, qr5, List.length_set, List.length_replicate, Int.toNat_natCast, qed, qee, imax, imin, e, qcs, qcx, qdd, hm, cst]
      cases decide (qqc (l.getD i zz3).1 (l.getD i zz3).2.1 (l.getD i zz3).2.2 ≤ pos) <;> cases decide (pos < qqc (l.getD i zz3).1 (l.getD i zz3).2.1 (l.getD i zz3).2.2 + qrw (l.getD i zz3).2.1) <;> rfl
    · simp (disch := omega) only [qay, nth0, nth1, nth2, nth3, bit, qef, qeg, qer, qew, qex, qey, qez, qe0, qe1, qe2, qeh, qei, qej, qek, qel, qem, qen, qeo, qep, qeq, qes, qet, qeu, qev, qrf, qre, qrg, qnd, qn3, qn5, qjh, qa5, qqo, nI, qfb, qe9, Bool.not_true, Bool.not_false, Bool.and_true, Bool.true_and, Bool.and_false, Bool.false_and, Bool.or_true, Bool.true_or, Bool.or_false, Bool.false_or, beq_self_eq_true, dTT, dFF, dT, dF, bigI, big0, qnc, qr4, qr5, List.length_set, List.length_replicate, Int.toNat_natCast, qed, qee, imax, imin]
      rw [show l.length - i = 0 by omega]; rfl
theorem qco (k : Nat) (hk : 2000000 ≤ k) (a0 : Int) (a1z : Bool) (a1 : List (Int × Int × Int)) (b : Int) (hl : (a1.length : Int) ≤ 1048576) : go (k + 6) spec_LeafAt [(.agg [(.int .i64 (a0)), (.arr false (a1z) (.r3 (a1)))]), (.int .i64 (b))] = some [.int .i64 (qk3 a0 a1 b)] := by
  rw [qg5]
  unfold qk3
  cases hm : qmx a0 0 a1
  · rw [show k + 5 = (k + 5 - 1) + 1 by omega]
    rw [show lp (k + 5 - 1 + 1) = lp (k + 5) by rw [show k + 5 - 1 + 1 = k + 5 by omega], qkh]
    by_cases h0 : 0 < a1.length
    · simp (disch := omega) only [qay, nth0, nth1, nth2, nth3, bit, qef, qeg, qer, qew, qex, qey, qez, qe0, qe1, qe2, qeh, qei, qej, qek, qel, qem, qen, qeo, qep, qeq, qes, qet, qeu, qev, qrf, qre, qrg, qnd, qn3, qn5, qjh, qa5, qqo, nI, qfb, qe9, Bool.not_true, Bool.not_false, Bool.and_true, Bool.true_and, Bool.and_false, Bool.false_and, Bool.or_true, Bool.true_or, Bool.or_false, Bool.false_or, beq_self_eq_true, dTT, dFF, dT, dF, bigI, big0, qnc, qr4, qr5, List.length_set, List.length_replicate, Int.toNat_natCast, qed, qee, imax, imin, qcs, hm]
    · simp (disch := omega) only [qay, nth0, nth1, nth2, nth3, bit, qef, qeg, qer, qew, qex, qey, qez, qe0, qe1, qe2, qeh, qei, qej, qek, qel, qem, qen, qeo, qep, qeq, qes, qet, qeu, qev, qrf, qre, qrg, qnd, qn3, qn5, qjh, qa5, qqo, nI, qfb, qe9, Bool.not_true, Bool.not_false, Bool.and_true, Bool.true_and, Bool.and_false, Bool.false_and, Bool.or_true, Bool.true_or, Bool.or_false, Bool.false_or, beq_self_eq_true, dTT, dFF, dT, dF, bigI, big0, qnc, qr4, qr5, List.length_set, List.length_replicate, Int.toNat_natCast, qed, qee, imax, imin]
  exact ql1 k hk [] a1z a0 a1 b hl hm _ 0 (by omega) (by omega)
end Go.Proofs.YtjfjniebmdafeaaGreatDoor
end
section
namespace Go.Proofs.YtjfjniebmdafeaaGreatDoor
open Go.Ev
set_option maxRecDepth 20000
theorem qd4 (k : Nat) (hk : 2000000 ≤ k) (a0 : Int) (a1z : Bool) (a1 : List (Int × Int × Int)) (a2z : Bool) (a2 : List Int) (a3z : Bool) (a3 : List Int) (a4z : Bool) (a4 : List Int) (a5 : Int) (a6 : Int) (a7 : Int) (a8 : Int) (a9 : Int) (a10 : Int) (a11 : Int) (a12 : Int) (a13 : Int) (a14 : Int) (a15 : Int) (a16 : Int) (a17 : Int) (a18 : Int) (a19 : Int) (a20 : Int) (h1 : (a1.length : Int) ≤ 1048576) (h2 : (a2.length : Int) ≤ 1048576) (h3 : (a3.length : Int) ≤ 1048576) (h4 : (a4.length : Int) ≤ 1048576) : go (k + 3) spec_l36Copy [(.agg [(.int .i64 (a0)), (.arr false (a1z) (.r3 (a1))), (.arr false (a2z) (.ints .i64 (a2))), (.arr false (a3z) (.ints .i64 (a3))), (.arr false (a4z) (.ints .i64 (a4))), (.int .i64 (a5)), (.int .i64 (a6)), (.int .i64 (a7)), (.int .i64 (a8)), (.int .i64 (a9)), (.int .i64 (a10)), (.int .i64 (a11)), (.int .i64 (a12)), (.int .i64 (a13)), (.int .i64 (a14)), (.int .i64 (a15)), (.int .i64 (a16)), (.int .i64 (a17)), (.int .i64 (a18)), (.int .i64 (a19)), (.int .i64 (a20))])] = some [.agg [.int .i64 (a0), .arr true false (.r3 (a1)), .arr true false (.ints .i64 (a2)), .arr true false (.ints .i64 (a3)), .arr true false (.ints .i64 (a4)), .int .i64 (a5), .int .i64 (a6), .int .i64 (a7), .int .i64 (a8), .int .i64 (a9), .int .i64 (a10), .int .i64 (a11), .int .i64 (a12), .int .i64 (a13), .int .i64 (a14), .int .i64 (a15), .int .i64 (a16), .int .i64 (a17), .int .i64 (a18), .int .i64 (a19), .int .i64 (a20)]] := by
  rw [qin]
  simp (disch := omega) only [qay, nth0, nth1, nth2, nth3, bit, qef, qeg, qer, qew, qex, qey, qez, qe0, qe1, qe2, qeh, qei, qej, qek, qel, qem, qen, qeo, qep, qeq, qes, qet, qeu, qev, qrf, qre, qrg, qnd, qn3, qn5, qjh, qa5, qqo, nI, qfb, qe9, Bool.not_true, Bool.not_false, Bool.and_true, Bool.true_and, Bool.and_false, Bool.false_and, Bool.or_true, Bool.true_or, Bool.or_false, Bool.false_or, beq_self_eq_true, dTT, dFF, dT, dF, bigI, big0, qnc, qr4, qr5, List.length_set, List.length_replicate, Int.toNat_natCast, qed, qee, imax, imin, qdn]
def qfn (a0 : Int) (a1 : List Cell) (a2 a3 a4 : List Int) (a5 a6 a7 a8 a9 a10 a11 a12 a13 a14 a15 a16 a17 a18 a19 a20 pos c d : Int) : Bool :=
  qr1 a0 a1 a2 a3 a4 a5 a6 a7 a8 a9 a10 a11 a12 a13 a14 a15 a16 a17 a18 a19 a20 && (inR c 1 10000 && (inR d 0 1000 && (decide (isum a2 + c ≤ 10000000) && decide (0 ≤ qk3 a0 a1 pos))))
theorem qr2 {a0 : Int} {a1 : List Cell} {a2 a3 a4 : List Int} {a5 a6 a7 a8 a9 a10 a11 a12 a13 a14 a15 a16 a17 a18 a19 a20 : Int} (h : qr1 a0 a1 a2 a3 a4 a5 a6 a7 a8 a9 a10 a11 a12 a13 a14 a15 a16 a17 a18 a19 a20 = true) :
    StF a0 a1 a2 a3 a4 ∧ (0 ≤ a15 ∧ a15 ≤ 1000000000000000) ∧ (0 ≤ a16 ∧ a16 ≤ 1000000000000000) ∧ (0 ≤ a17 ∧ a17 ≤ 1000000000000000) ∧ (0 ≤ a18 ∧ a18 ≤ 1000000000000000) := by
  simp only [qr1, qk8, Bool.and_eq_true, qjf] at h
  exact ⟨stF.1 h.1, h.2.2.2.1.1, h.2.2.2.1.2.1, h.2.2.2.1.2.2.1, h.2.2.2.1.2.2.2⟩
theorem qm9 {c d : Int} (h1 : 1 ≤ c) (h2 : c ≤ 10000) (h3 : 0 ≤ d) (h4 : d ≤ 1000) : 0 ≤ c * d ∧ c * d ≤ 10000000 := by
  refine ⟨Int.mul_nonneg (by omega) h3, ?_⟩
  calc c * d ≤ 10000 * d := Int.mul_le_mul_of_nonneg_right h2 h3
    _ ≤ 10000 * 1000 := Int.mul_le_mul_of_nonneg_left h4 (by omega)
theorem qcg (k : Nat) (hk : 2000000 ≤ k) (a0 : Int) (a1z : Bool) (a1 : List (Int × Int × Int)) (a2z : Bool) (a2 : List Int) (a3z : Bool) (a3 : List Int) (a4z : Bool) (a4 : List Int) (a5 : Int) (a6 : Int) (a7 : Int) (a8 : Int) (a9 : Int) (a10 : Int) (a11 : Int) (a12 : Int) (a13 : Int) (a14 : Int) (a15 : Int) (a16 : Int) (a17 : Int) (a18 : Int) (a19 : Int) (a20 : Int) (b : Int) (c : Int) (d : Int) (h1 : (a1.length : Int) ≤ 1048576) (h2 : (a2.length : Int) ≤ 1048576) (h3 : (a3.length : Int) ≤ 1048576) (h4 : (a4.length : Int) ≤ 1048576) :
    go (k + 9) spec_Drop [(.agg [(.int .i64 (a0)), (.arr false (a1z) (.r3 (a1))), (.arr false (a2z) (.ints .i64 (a2))), (.arr false (a3z) (.ints .i64 (a3))), (.arr false (a4z) (.ints .i64 (a4))), (.int .i64 (a5)), (.int .i64 (a6)), (.int .i64 (a7)), (.int .i64 (a8)), (.int .i64 (a9)), (.int .i64 (a10)), (.int .i64 (a11)), (.int .i64 (a12)), (.int .i64 (a13)), (.int .i64 (a14)), (.int .i64 (a15)), (.int .i64 (a16)), (.int .i64 (a17)), (.int .i64 (a18)), (.int .i64 (a19)), (.int .i64 (a20))]), (.int .i64 (b)), (.int .i64 (c)), (.int .i64 (d))] = cond (qfn a0 a1 a2 a3 a4 a5 a6 a7 a8 a9 a10 a11 a12 a13 a14 a15 a16 a17 a18 a19 a20 b c d) (some [.agg [.int .i64 (a0), .arr true false (.r3 (a1)), .arr true false (.ints .i64 (a2.set (qk3 a0 a1 b).toNat (a2.getD (qk3 a0 a1 b).toNat 0 + c))), .arr true false (.ints .i64 (a3.set (qk3 a0 a1 b).toNat (a3.getD (qk3 a0 a1 b).toNat 0 + c * d))), .arr true false (.ints .i64 (a4)), .int .i64 (a5), .int .i64 (a6), .int .i64 (a7), .int .i64 (a8), .int .i64 (a9), .int .i64 (a10), .int .i64 (a11), .int .i64 (a12), .int .i64 (a13), .int .i64 (a14), .int .i64 (a15 + c), .int .i64 (a16), .int .i64 (a17 + c * d), .int .i64 (a18), .int .i64 (a19), .int .i64 (a20)], .bool true]) (some [.agg [.int .i64 (a0), .arr true false (.r3 (a1)), .arr true false (.ints .i64 (a2)), .arr true false (.ints .i64 (a3)), .arr true false (.ints .i64 (a4)), .int .i64 (a5), .int .i64 (a6), .int .i64 (a7), .int .i64 (a8), .int .i64 (a9), .int .i64 (a10), .int .i64 (a11), .int .i64 (a12), .int .i64 (a13), .int .i64 (a14), .int .i64 (a15), .int .i64 (a16), .int .i64 (a17), .int .i64 (a18), .int .i64 (a19), .int .i64 (a20)], .bool false]) := by
  rw [qgz]
  simp (disch := omega) only [qay, nth0, nth1, nth2, nth3, bit, qef, qeg, qer, qew, qex, qey, qez, qe0, qe1, qe2, qeh, qei, qej, qek, qel, qem, qen, qeo, qep, qeq, qes, qet, qeu, qev, qrf, qre, qrg, qnd, qn3, qn5, qjh, qa5, qqo, nI, qfb, qe9, Bool.not_true, Bool.not_false, Bool.and_true, Bool.true_and, Bool.and_false, Bool.false_and, Bool.or_true, Bool.true_or, Bool.or_false, Bool.false_or, beq_self_eq_true, dTT, dFF, dT, dF, bigI, big0, qnc, qr4, qr5, List.length_set, List.length_replicate, Int.toNat_natCast, qed, qee, imax, imin, qd4, qc4, qda]
  unfold qfn
  cases g1 : qr1 a0 a1 a2 a3 a4 a5 a6 a7 a8 a9 a10 a11 a12 a13 a14 a15 a16 a17 a18 a19 a20
  · simp only [Bool.not_false, qfb, qe9, Bool.false_and]
  cases g2 : inR c 1 10000
  · simp only [Bool.not_false, Bool.not_true, qfb, qe9, Bool.false_and, Bool.true_and]
  cases g3 : inR d 0 1000
  · simp only [Bool.not_false, Bool.not_true, qfb, qe9, Bool.false_and, Bool.true_and]
  obtain ⟨F, b1, b2, b3, b4⟩ := qr2 g1
  have := F.len; have := F.ml; have := F.tl; have := F.bl; have := F.rr; have sm := F.msum
  have i2 := qjf.1 g2; have i3 := qjf.1 g3
  have mm := qm9 i2.1 i2.2 i3.1 i3.2
  have lf := qk4 a0 a1 b
  simp only [Bool.not_true, qe9, Bool.true_and]
  rw [qdp _ (by omega) _ _ (by omega) F.mmem]
  by_cases q : isum a2 + c ≤ 10000000
  case neg => simp (disch := omega) only [qay, nth0, nth1, nth2, nth3, bit, qef, qeg, qer, qew, qex, qey, qez, qe0, qe1, qe2, qeh, qei, qej, qek, qel, qem, qen, qeo, qep, qeq, qes, qet, qeu, qev, qrf, qre, qrg, qnd, qn3, qn5, qjh, qa5, qqo, nI, qfb, qe9, Bool.not_true, Bool.not_false, Bool.and_true, Bool.true_and, Bool.and_false, Bool.false_and, Bool.or_true, Bool.true_or, Bool.or_false, Bool.false_or, beq_self_eq_true, dTT, dFF, dT, dF, bigI, big0, qnc, qr4, qr5, List.length_set, List.length_replicate, Int.toNat_natCast, qed, qee, imax, imin]
  by_cases q2 : 0 ≤ qk3 a0 a1 b
  case neg => simp (disch := omega) only [qay, nth0, nth1, nth2, nth3, bit, qef, qeg, qer, qew, qex, qey, qez, qe0, qe1, qe2, qeh, qei, qej, qek, qel, qem, qen, qeo, qep, qeq, qes, qet, qeu, qev, qrf, qre, qrg, qnd, qn3, qn5, qjh, qa5, qqo, nI, qfb, qe9, Bool.not_true, Bool.not_false, Bool.and_true, Bool.true_and, Bool.and_false, Bool.false_and, Bool.or_true, Bool.true_or, Bool.or_false, Bool.false_or, beq_self_eq_true, dTT, dFF, dT, dF, bigI, big0, qnc, qr4, qr5, List.length_set, List.length_replicate, Int.toNat_natCast, qed, qee, imax, imin, qco]
  have fa := F.at (qk3 a0 a1 b).toNat
  obtain ⟨i, hi⟩ : ∃ i : Nat, qk3 a0 a1 b = (i : Int) := ⟨(qk3 a0 a1 b).toNat, by omega⟩
  rw [hi] at fa
  rw [Int.toNat_natCast] at fa
  simp (disch := omega) only [qay, nth0, nth1, nth2, nth3, bit, qef, qeg, qer, qew, qex, qey, qez, qe0, qe1, qe2, qeh, qei, qej, qek, qel, qem, qen, qeo, qep, qeq, qes, qet, qeu, qev, qrf, qre, qrg, qnd, qn3, qn5, qjh, qa5, qqo, nI, qfb, qe9, Bool.not_true, Bool.not_false, Bool.and_true, Bool.true_and, Bool.and_false, Bool.false_and, Bool.or_true, Bool.true_or, Bool.or_false, Bool.false_or, beq_self_eq_true, dTT, dFF, dT, dF, bigI, big0, qnc, qr4, qr5, List.length_set, List.length_replicate, Int.toNat_natCast, qed, qee, imax, imin, qco, hi, qg8, Int.add_zero]
end Go.Proofs.YtjfjniebmdafeaaGreatDoor
end
section
namespace Go.Proofs.YtjfjniebmdafeaaGreatDoor
open Go.Ev
set_option maxRecDepth 20000
structure Wd where
  r : Int
  s : S3
  b : List Int
  p : Pl
  k : Int
  ld : Ld
  f : Int
  g : Int
abbrev wdR (w : Wd) : D := .agg [.int .i64 (w.r), .arr false false (.r3 (w.s.1)), .arr false false (.ints .i64 (w.s.2.1)), .arr false false (.ints .i64 (w.s.2.2)), .arr false false (.ints .i64 (w.b)), .int .i64 (w.p.bi), .int .i64 (w.p.bs), .int .i64 (w.p.bo), .int .i64 (w.p.rain), .int .i64 (w.p.loss), .int .i64 (w.p.dec), .int .i64 (w.p.high), .int .i64 (w.p.low), .int .i64 (w.p.every), .int .i64 (w.k), .int .i64 (w.ld.mi), .int .i64 (w.ld.mo), .int .i64 (w.ld.ti), .int .i64 (w.ld.ou), .int .i64 (w.f), .int .i64 (w.g)]
abbrev wdO (w : Wd) : D := .agg [.int .i64 (w.r), .arr true false (.r3 (w.s.1)), .arr true false (.ints .i64 (w.s.2.1)), .arr true false (.ints .i64 (w.s.2.2)), .arr true false (.ints .i64 (w.b)), .int .i64 (w.p.bi), .int .i64 (w.p.bs), .int .i64 (w.p.bo), .int .i64 (w.p.rain), .int .i64 (w.p.loss), .int .i64 (w.p.dec), .int .i64 (w.p.high), .int .i64 (w.p.low), .int .i64 (w.p.every), .int .i64 (w.k), .int .i64 (w.ld.mi), .int .i64 (w.ld.mo), .int .i64 (w.ld.ti), .int .i64 (w.ld.ou), .int .i64 (w.f), .int .i64 (w.g)]
def wdOk (w : Wd) : Bool := qr1 w.r w.s.1 w.s.2.1 w.s.2.2 w.b w.p.bi w.p.bs w.p.bo w.p.rain w.p.loss w.p.dec w.p.high w.p.low w.p.every w.k w.ld.mi w.ld.mo w.ld.ti w.ld.ou w.f w.g
structure Sml (w : Wd) : Prop where
  h1 : (w.s.1.length : Int) ≤ 1048576
  h2 : (w.s.2.1.length : Int) ≤ 1048576
  h3 : (w.s.2.2.length : Int) ≤ 1048576
  h4 : (w.b.length : Int) ≤ 1048576
structure LdB (l : Ld) (B : Int) : Prop where
  mi : 0 ≤ l.mi ∧ l.mi ≤ B
  mo : 0 ≤ l.mo ∧ l.mo ≤ B
  ti : 0 ≤ l.ti ∧ l.ti ≤ B
  ou : 0 ≤ l.ou ∧ l.ou ≤ B
theorem qnx {p : Pl} (h : qny p.bi p.bs p.bo p.rain p.loss p.dec p.high p.low p.every = true) : PlF p := by
  simp only [qny, qa6, Bool.and_eq_true, qjf] at h
  exact ⟨by omega, by omega, by omega, by omega, by omega, by omega, by omega, by omega, by omega⟩
structure WdF (w : Wd) : Prop where
  F : StF w.r w.s.1 w.s.2.1 w.s.2.2 w.b
  P : PlF w.p
  k : 0 ≤ w.k ∧ w.k ≤ 100000
  L : LdB w.ld 1000000000000000
  f : isum w.s.2.1 - w.ld.mi + w.ld.mo = w.f
  g : isum w.s.2.2 - w.ld.ti + w.ld.ou = w.g
theorem wdF {w : Wd} (h : wdOk w = true) : WdF w := by
  unfold wdOk qr1 qk8 at h
  simp only [Bool.and_eq_true, decide_eq_true_eq] at h
  obtain ⟨h1, h2, h3, ⟨h4, h5, h6, h7⟩, h8, h9⟩ := h
  exact ⟨stF.1 h1, qnx h2, qjf.1 h3, ⟨qjf.1 h4, qjf.1 h5, qjf.1 h6, qjf.1 h7⟩, h8, h9⟩
theorem StF.sml {w : Wd} (F : StF w.r w.s.1 w.s.2.1 w.s.2.2 w.b) : Sml w := by
  have := F.len; have := F.ml; have := F.tl; have := F.bl; have := F.rr
  exact ⟨by omega, by omega, by omega, by omega⟩
def Wd.next (w : Wd) : Wd := { w with s := (mac w.p w.b w.k w.s).1, k := w.k + 1, ld := w.ld.add (mac w.p w.b w.k w.s).2 }
def advN : Nat → Wd → Wd
  | 0, w => w
  | n + 1, w => advN n w.next
structure Adv (w : Wd) (i : Nat) : Prop where
  F : StF w.r w.s.1 w.s.2.1 w.s.2.2 w.b
  P : PlF w.p
  k : 0 ≤ w.k ∧ w.k ≤ 100000 + i
  L : LdB w.ld (1000000000000000 + 40000000000 * i)
theorem Adv.next {w : Wd} {i : Nat} (A : Adv w i) : Adv w.next (i + 1) := by
  have h := qmm (s := w.s) A.F A.P w.k
  have a := A.k; have l := A.L; have q := h.2
  have l1 := l.mi; have l2 := l.mo; have l3 := l.ti; have l4 := l.ou
  have q1 := q.mi; have q2 := q.mo; have q3 := q.ti; have q4 := q.ou
  refine ⟨h.1, A.P, ?_, ⟨?_, ?_, ?_, ?_⟩⟩
  · show 0 ≤ w.k + 1 ∧ w.k + 1 ≤ _; omega
  · show 0 ≤ w.ld.mi + _ ∧ w.ld.mi + _ ≤ _; omega
  · show 0 ≤ w.ld.mo + _ ∧ w.ld.mo + _ ≤ _; omega
  · show 0 ≤ w.ld.ti + _ ∧ w.ld.ti + _ ≤ _; omega
  · show 0 ≤ w.ld.ou + _ ∧ w.ld.ou + _ ≤ _; omega
theorem qd5 (k : Nat) (hk : 2000000 ≤ k) (w : Wd) (h : Sml w) : go (k + 3) spec_l36Copy [wdR w] = some [wdO w] := qd4 k hk _ _ _ _ _ _ _ _ _ _ _ _ _ _ _ _ _ _ _ _ _ _ _ _ _ h.h1 h.h2 h.h3 h.h4
theorem qc5 (k : Nat) (hk : 2000000 ≤ k) (w : Wd) (h : Sml w) : go (k + 8) spec_WorldOk [wdR w] = some [.bool (wdOk w)] := qc4 k hk _ _ _ _ _ _ _ _ _ _ _ _ _ _ _ _ _ _ _ _ _ _ _ _ _ h.h1 h.h4
set_option maxHeartbeats 1000000 in
theorem qly (k : Nat) (hk : 2000000 ≤ k) (fu : List (Nat × Nat)) (c : Int) (hc : c ≤ 100) (z2 : Bool) (l3 : List Cell) (z4 : Bool) (l5 : List Int) (z6 : Bool) (l7 : List Int) (z8 : Bool) (l9 : List Int) (x10 x11 x12 x13 x14 x15 x16 x17 x18 x19 x20 x21 x22 x23 x24 x25 x26 : Int) : ∀ (N n i : Nat) (w : Wd), (i : Int) + n = c → n < N → Adv w i →
    lp (k + 8) spec_Advance [] fu 5 (N) (qou c (i : Int) z2 l3 z4 l5 z6 l7 z8 l9 x10 x11 x12 x13 x14 x15 x16 x17 x18 x19 x20 x21 x22 x23 x24 x25 x26 false w.s.1 false w.s.2.1 false w.s.2.2 false w.b w.r w.p.bi w.p.bs w.p.bo w.p.rain w.p.loss w.p.dec w.p.high w.p.low w.p.every w.k w.ld.mi w.ld.mo w.ld.ti w.ld.ou w.f w.g) = some [wdO (advN n w), .bool true]
  | 0, n, i, w, hi, hN, A => by omega
  | N + 1, 0, i, w, hi, hN, A => by
    rw [qkd]
    have eC := qd5 (k + 5) (by omega) w A.F.sml
    simp (disch := omega) only [qay, nth0, nth1, nth2, nth3, bit, qef, qeg, qer, qew, qex, qey, qez, qe0, qe1, qe2, qeh, qei, qej, qek, qel, qem, qen, qeo, qep, qeq, qes, qet, qeu, qev, qrf, qre, qrg, qnd, qn3, qn5, qjh, qa5, qqo, nI, qfb, qe9, Bool.not_true, Bool.not_false, Bool.and_true, Bool.true_and, Bool.and_false, Bool.false_and, Bool.or_true, Bool.true_or, Bool.or_false, Bool.false_or, beq_self_eq_true, dTT, dFF, dT, dF, bigI, big0, qnc, qr4, qr5, List.length_set, List.length_replicate, Int.toNat_natCast, qed, qee, imax, imin, eC]
    rfl
  | N + 1, n + 1, i, w, hi, hN, A => by
    rw [qkd]
    have a := A.k; have l := A.L
    have h := (qmm (s := w.s) A.F A.P w.k).2
    have l1 := l.mi; have l2 := l.mo; have l3' := l.ti; have l4 := l.ou
    have q1 := h.mi; have q2 := h.mo; have q3 := h.ti; have q4 := h.ou
    have eM := qd1 k (by omega) w.r w.s w.b A.F w.p A.P w.k (by omega)
    have eL := qcr (k + 7) w.ld (mac w.p w.b w.k w.s).2 (by omega) (by omega) (by omega) (by omega)
    have IH := qly k hk fu c hc z2 l3 z4 l5 z6 l7 z8 l9 x10 x11 x12 x13 x14 x15 x16 x17 x18 x19 x20 x21 x22 x23 x24 x25 x26 N n (i + 1) w.next (by omega) (by omega) A.next
    rw [show advN (n + 1) w = advN n w.next from rfl]
    simp only [Wd.next] at IH ⊢
    simp (disch := omega) only [qay, nth0, nth1, nth2, nth3, bit, qef, qeg, qer, qew, qex, qey, qez, qe0, qe1, qe2, qeh, qei, qej, qek, qel, qem, qen, qeo, qep, qeq, qes, qet, qeu, qev, qrf, qre, qrg, qnd, qn3, qn5, qjh, qa5, qqo, nI, qfb, qe9, Bool.not_true, Bool.not_false, Bool.and_true, Bool.true_and, Bool.and_false, Bool.false_and, Bool.or_true, Bool.true_or, Bool.or_false, Bool.false_or, beq_self_eq_true, dTT, dFF, dT, dF, bigI, big0, qnc, qr4, qr5, List.length_set, List.length_replicate, Int.toNat_natCast, qed, qee, imax, imin, eM, eL, IH]
def qal (w : Wd) (n : Int) : Bool := wdOk w && inR n 0 100
def adv (w : Wd) (n : Int) : Wd := cond (qal w n) (advN n.toNat w) w
theorem WdF.adv {w : Wd} (h : WdF w) : Adv w 0 := ⟨h.F, h.P, by have := h.k; omega, ⟨by have := h.L.mi; omega, by have := h.L.mo; omega, by have := h.L.ti; omega, by have := h.L.ou; omega⟩⟩
theorem qca (k : Nat) (hk : 2000000 ≤ k) (w : Wd) (n : Int) (h : Sml w) : go (k + 9) spec_Advance [wdR w, .int .i64 n] = some [wdO (adv w n), .bool (qal w n)] := by
  rw [qgt]
  have eC := qd5 (k + 5) (by omega) w h
  have eO := qc5 k (by omega) w h
  unfold adv qal
  cases g : wdOk w
  · rw [g] at eO
    simp (disch := omega) only [qay, nth0, nth1, nth2, nth3, bit, qef, qeg, qer, qew, qex, qey, qez, qe0, qe1, qe2, qeh, qei, qej, qek, qel, qem, qen, qeo, qep, qeq, qes, qet, qeu, qev, qrf, qre, qrg, qnd, qn3, qn5, qjh, qa5, qqo, nI, qfb, qe9, Bool.not_true, Bool.not_false, Bool.and_true, Bool.true_and, Bool.and_false, Bool.false_and, Bool.or_true, Bool.true_or, Bool.or_false, Bool.false_or, beq_self_eq_true, dTT, dFF, dT, dF, bigI, big0, qnc, qr4, qr5, List.length_set, List.length_replicate, Int.toNat_natCast, qed, qee, imax, imin, eC, eO]
  rw [g] at eO
  cases g2 : inR n 0 100
  · simp (disch := omega) only [qay, nth0, nth1, nth2, nth3, bit, qef, qeg, qer, qew, qex, qey, qez, qe0, qe1, qe2, qeh, qei, qej, qek, qel, qem, qen, qeo, qep, qeq, qes, qet, qeu, qev, qrf, qre, qrg, qnd, qn3, qn5, qjh, qa5, qqo, nI, qfb, qe9, Bool.not_true, Bool.not_false, Bool.and_true, Bool.true_and, Bool.and_false, Bool.false_and, Bool.or_true, Bool.true_or, Bool.or_false, Bool.false_or, beq_self_eq_true, dTT, dFF, dT, dF, bigI, big0, qnc, qr4, qr5, List.length_set, List.length_replicate, Int.toNat_natCast, qed, qee, imax, imin, eC, eO, qda, g2]
  have b := qjf.1 g2
  have e := qly k hk [] n b.2 true [] true [] true [] true [] 0 0 0 0 0 0 0 0 0 0 0 0 0 0 0 0 0 (k + 8) n.toNat 0 w (by omega) (by omega) (wdF g).adv
  rw [show ((0 : Nat) : Int) = 0 from rfl] at e
  simp (disch := omega) only [qay, nth0, nth1, nth2, nth3, bit, qef, qeg, qer, qew, qex, qey, qez, qe0, qe1, qe2, qeh, qei, qej, qek, qel, qem, qen, qeo, qep, qeq, qes, qet, qeu, qev, qrf, qre, qrg, qnd, qn3, qn5, qjh, qa5, qqo, nI, qfb, qe9, Bool.not_true, Bool.not_false, Bool.and_true, Bool.true_and, Bool.and_false, Bool.false_and, Bool.or_true, Bool.true_or, Bool.or_false, Bool.false_or, beq_self_eq_true, dTT, dFF, dT, dF, bigI, big0, qnc, qr4, qr5, List.length_set, List.length_replicate, Int.toNat_natCast, qed, qee, imax, imin, eC, eO, qda, g2]
  exact e
end Go.Proofs.YtjfjniebmdafeaaGreatDoor
end
section
namespace Go.Proofs.YtjfjniebmdafeaaGreatDoor
open Go.Ev
set_option maxRecDepth 20000
def qfp (w : Wd) (p m h : Int) : Bool := qfn w.r w.s.1 w.s.2.1 w.s.2.2 w.b w.p.bi w.p.bs w.p.bo w.p.rain w.p.loss w.p.dec w.p.high w.p.low w.p.every w.k w.ld.mi w.ld.mo w.ld.ti w.ld.ou w.f w.g p m h
def drp1 (w : Wd) (p m h : Int) : Wd := { w with s := (w.s.1, w.s.2.1.set (qk3 w.r w.s.1 p).toNat (w.s.2.1.getD (qk3 w.r w.s.1 p).toNat 0 + m), w.s.2.2.set (qk3 w.r w.s.1 p).toNat (w.s.2.2.getD (qk3 w.r w.s.1 p).toNat 0 + m * h)), ld := { w.ld with mi := w.ld.mi + m, ti := w.ld.ti + m * h } }
def drp (w : Wd) (p m h : Int) : Wd := cond (qfp w p m h) (drp1 w p m h) w
theorem qch (k : Nat) (hk : 2000000 ≤ k) (w : Wd) (p m h : Int) (S : Sml w) : go (k + 9) spec_Drop [wdR w, .int .i64 p, .int .i64 m, .int .i64 h] = some [wdO (drp w p m h), .bool (qfp w p m h)] := by
  have e := qcg k hk w.r false w.s.1 false w.s.2.1 false w.s.2.2 false w.b w.p.bi w.p.bs w.p.bo w.p.rain w.p.loss w.p.dec w.p.high w.p.low w.p.every w.k w.ld.mi w.ld.mo w.ld.ti w.ld.ou w.f w.g p m h S.h1 S.h2 S.h3 S.h4
  refine e.trans ?_
  unfold drp
  cases g : qfp w p m h
  · unfold qfp at g; rw [g]; rfl
  · unfold qfp at g; rw [g]; rfl
end Go.Proofs.YtjfjniebmdafeaaGreatDoor
end
section
namespace Go.Proofs.YtjfjniebmdafeaaGreatDoor
open Go.Ev
set_option maxRecDepth 20000
theorem y1 : ({ data := #[(32 : UInt8)] } : ByteArray) = ba [32] := Eq.trans rfl rfl
theorem y2 : ({ data := #[(114 : UInt8), (117 : UInt8), (110 : UInt8)] } : ByteArray) = ba [114, 117, 110] := Eq.trans rfl rfl
theorem y3 : ({ data := #[(114 : UInt8), (97 : UInt8), (105 : UInt8), (110 : UInt8)] } : ByteArray) = ba [114, 97, 105, 110] := Eq.trans rfl rfl
theorem y4 : ({ data := #[(108 : UInt8), (111 : UInt8), (115 : UInt8), (115 : UInt8)] } : ByteArray) = ba [108, 111, 115, 115] := Eq.trans rfl rfl
theorem y0 : ({ data := #[] } : ByteArray) = ba [] := Eq.trans rfl rfl
end Go.Proofs.YtjfjniebmdafeaaGreatDoor
end
section
namespace Go.Proofs.YtjfjniebmdafeaaGreatDoor
open Go.Ev
set_option maxRecDepth 20000
def dgS (x v m t : Int) : Int := Int.tmod (((x * 31 + v) * 31 + m) * 31 + t) 1000003
def dgA (l : List Cell) (m t : List Int) : Nat → Int
  | 0 => 1
  | n + 1 => dgS (dgA l m t n) (qla l n) (m.getD n 0) (t.getD n 0)
def dgB (x : Int) (b : List Int) : Nat → Int
  | 0 => x
  | n + 1 => Int.tmod (dgB x b n * 31 + b.getD n 0) 1000003
theorem qrb {x : Int} (h : 0 ≤ x) : 0 ≤ Int.tmod x 1000003 ∧ Int.tmod x 1000003 ≤ 1000002 := by
  rw [Int.tmod_eq_emod_of_nonneg h]; omega
theorem qfk {r : Int} {l : List Cell} {m t b : List Int} (F : StF r l m t b) : ∀ n, 0 ≤ dgA l m t n ∧ dgA l m t n ≤ 1000002
  | 0 => ⟨by show (0 : Int) ≤ 1; omega, by show (1 : Int) ≤ 1000002; omega⟩
  | n + 1 => by
    have ih := qfk F n
    have a := F.at n
    have lv := qm3 l r 0 F.mesh n
    unfold dgA dgS
    exact qrb (by omega)
theorem qfl {r : Int} {l : List Cell} {m t b : List Int} (F : StF r l m t b) (x : Int) (hx : 0 ≤ x ∧ x ≤ 1000002) : ∀ n, 0 ≤ dgB x b n ∧ dgB x b n ≤ 1000002
  | 0 => hx
  | n + 1 => by
    have ih := qfl F x hx n
    have a := F.bedAt n
    unfold dgB
    exact qrb (by omega)
def dig (l : List Cell) (m t b : List Int) : Int := dgB (dgA l m t l.length) b b.length
theorem qfm {r : Int} {l : List Cell} {m t b : List Int} (F : StF r l m t b) : 0 ≤ dig l m t b ∧ dig l m t b ≤ 1000002 := qfl F _ (qfk F _) _
theorem qlp (k : Nat) (hk : 2000000 ≤ k) (fu : List (Nat × Nat)) (r : Int) (z4 : Bool) (l : List Cell) (m t b : List Int) (F : StF r l m t b) (x : Int) (hx : 0 ≤ x ∧ x ≤ 1000002) : ∀ (N i : Nat), i ≤ b.length → b.length - i < N →
    lp (k + 8) impl_DigestOf [] fu 10 (N) (qok (dgB x b i) (b.length : Int) (i : Int) z4 b) = some [.int .i64 (dgB x b b.length)]
  | 0, i, hi, hN => by omega
  | N + 1, i, hi, hN => by
    rw [qj2]
    have bd := qfl F x hx i; have ba := F.bedAt i; have bl := F.bl; have rr := F.rr
    by_cases g : i < b.length
    · have IH := qlp k hk fu r z4 l m t b F x hx N (i + 1) (by omega) (by omega)
      rw [dgB] at IH
      simp (disch := omega) only [qay, nth0, nth1, nth2, nth3, bit, qef, qeg, qer, qew, qex, qey, qez, qe0, qe1, qe2, qeh, qei, qej, qek, qel, qem, qen, qeo, qep, qeq, qes, qet, qeu, qev, qrf, qre, qrg, qnd, qn3, qn5, qjh, qa5, qqo, nI, qfb, qe9, Bool.not_true, Bool.not_false, Bool.and_true, Bool.true_and, Bool.and_false, Bool.false_and, Bool.or_true, Bool.true_or, Bool.or_false, Bool.false_or, beq_self_eq_true, dTT, dFF, dT, dF, bigI, big0, qnc, qr4, qr5, List.length_set, List.length_replicate, Int.toNat_natCast, qed, qee, imax, imin, IH]
    · obtain rfl : i = b.length := by omega
      simp (disch := omega) only [qay, nth0, nth1, nth2, nth3, bit, qef, qeg, qer, qew, qex, qey, qez, qe0, qe1, qe2, qeh, qei, qej, qek, qel, qem, qen, qeo, qep, qeq, qes, qet, qeu, qev, qrf, qre, qrg, qnd, qn3, qn5, qjh, qa5, qqo, nI, qfb, qe9, Bool.not_true, Bool.not_false, Bool.and_true, Bool.true_and, Bool.and_false, Bool.false_and, Bool.or_true, Bool.true_or, Bool.or_false, Bool.false_or, beq_self_eq_true, dTT, dFF, dT, dF, bigI, big0, qnc, qr4, qr5, List.length_set, List.length_replicate, Int.toNat_natCast, qed, qee, imax, imin]
theorem qlq (k : Nat) (hk : 2000000 ≤ k) (fu : List (Nat × Nat)) (r : Int) (z1 z2 z3 z4 : Bool) (l : List Cell) (m t b : List Int) (F : StF r l m t b) : ∀ (N i : Nat), i ≤ l.length → l.length - i < N →
    lp (k + 8) impl_DigestOf [] fu 5 (N) (qol (dgA l m t i) (l.length : Int) (i : Int) z1 l z2 m z3 t z4 b r) = some [.int .i64 (dig l m t b)]
  | 0, i, hi, hN => by omega
  | N + 1, i, hi, hN => by
    rw [qj3]
    have bd := qfk F i; have a := F.at i; have lv := qm3 l r 0 F.mesh i; have ml := F.ml; have tl := F.tl; have bl := F.bl; have rr := F.rr; have ll := F.len
    simp only [qla] at lv
    by_cases g : i < l.length
    · have IH := qlq k hk fu r z1 z2 z3 z4 l m t b F N (i + 1) (by omega) (by omega)
      rw [dgA, dgS] at IH
      simp only [qla] at IH
      simp (disch := omega) only [qay, nth0, nth1, nth2, nth3, bit, qef, qeg, qer, qew, qex, qey, qez, qe0, qe1, qe2, qeh, qei, qej, qek, qel, qem, qen, qeo, qep, qeq, qes, qet, qeu, qev, qrf, qre, qrg, qnd, qn3, qn5, qjh, qa5, qqo, nI, qfb, qe9, Bool.not_true, Bool.not_false, Bool.and_true, Bool.true_and, Bool.and_false, Bool.false_and, Bool.or_true, Bool.true_or, Bool.or_false, Bool.false_or, beq_self_eq_true, dTT, dFF, dT, dF, bigI, big0, qnc, qr4, qr5, List.length_set, List.length_replicate, Int.toNat_natCast, qed, qee, imax, imin, IH]
    · obtain rfl : i = l.length := by omega
      have e9 := qlp k hk fu r z4 l m t b F (dgA l m t l.length) bd (k + 8) 0 (by omega) (by omega)
      rw [show dgB (dgA l m t l.length) b 0 = dgA l m t l.length from rfl, show ((0 : Nat) : Int) = 0 from rfl] at e9
      simp (disch := omega) only [qay, nth0, nth1, nth2, nth3, bit, qef, qeg, qer, qew, qex, qey, qez, qe0, qe1, qe2, qeh, qei, qej, qek, qel, qem, qen, qeo, qep, qeq, qes, qet, qeu, qev, qrf, qre, qrg, qnd, qn3, qn5, qjh, qa5, qqo, nI, qfb, qe9, Bool.not_true, Bool.not_false, Bool.and_true, Bool.true_and, Bool.and_false, Bool.false_and, Bool.or_true, Bool.true_or, Bool.or_false, Bool.false_or, beq_self_eq_true, dTT, dFF, dT, dF, bigI, big0, qnc, qr4, qr5, List.length_set, List.length_replicate, Int.toNat_natCast, qed, qee, imax, imin, e9]
      rfl
theorem qba (k : Nat) (hk : 2000000 ≤ k) (r : Int) (z1 z2 z3 z4 : Bool) (l : List Cell) (m t b : List Int) (F : StF r l m t b) : go (k + 9) impl_DigestOf [.agg [.int .i64 (r), .arr false (z1) (.r3 (l)), .arr false (z2) (.ints .i64 (m)), .arr false (z3) (.ints .i64 (t)), .arr false (z4) (.ints .i64 (b))]] = some [.int .i64 (dig l m t b)] := by
  rw [qfs]
  have ll := F.len; have bl := F.bl; have rr := F.rr
  have eS := qbo k (by omega) r z1 l z2 m z3 t z4 b (by omega) (by omega)
  rw [stF.2 F] at eS
  have e := qlq k hk [] r z1 z2 z3 z4 l m t b F (k + 8) 0 (by omega) (by omega)
  rw [show dgA l m t 0 = 1 from rfl, show ((0 : Nat) : Int) = 0 from rfl] at e
  simp (disch := omega) only [qay, nth0, nth1, nth2, nth3, bit, qef, qeg, qer, qew, qex, qey, qez, qe0, qe1, qe2, qeh, qei, qej, qek, qel, qem, qen, qeo, qep, qeq, qes, qet, qeu, qev, qrf, qre, qrg, qnd, qn3, qn5, qjh, qa5, qqo, nI, qfb, qe9, Bool.not_true, Bool.not_false, Bool.and_true, Bool.true_and, Bool.and_false, Bool.false_and, Bool.or_true, Bool.true_or, Bool.or_false, Bool.false_or, beq_self_eq_true, dTT, dFF, dT, dF, bigI, big0, qnc, qr4, qr5, List.length_set, List.length_replicate, Int.toNat_natCast, qed, qee, imax, imin, eS]
  exact e
theorem qi2 {r : Int} {l : List Cell} (g : qmx r 0 l = true) : fmeshL r l = fmTo l l.length := by unfold fmeshL; rw [qm4, g]; rfl
def ln (w : List UInt8) (x : Int) : List UInt8 := spacedL w [x]
def fwL (w : Wd) : List ByteArray := [ba (ln [115, 116, 101, 112] w.k), ba ([109, 101, 115, 104, 32] ++ fmeshL w.r w.s.1), ba (ln [109, 97, 115, 115] (isum w.s.2.1)), ba (ln [116, 114, 97, 99, 101, 114] (isum w.s.2.2)), ba (ln [105, 110] w.ld.mi), ba (ln [111, 117, 116] w.ld.mo), ba (ln [100, 105, 103, 101, 115, 116] (dig w.s.1 w.s.2.1 w.s.2.2 w.b))]
def fwT (w : Wd) : List ByteArray := cond (wdOk w) (fwL w) []
theorem qjd {x : Int} (h : -1000000000000000000 ≤ x ∧ x ≤ 1000000000000000000) : inI64 x = true := by
  unfold inI64; rw [decide_eq_true (by omega : -9223372036854775808 ≤ x), decide_eq_true (by omega : x ≤ 9223372036854775807)]; rfl
theorem qi5 {r : Int} {l : List Cell} (g : qmx r 0 l = true) : (fmeshL r l).length ≤ 5000 := by
  rw [qi2 g]
  have L := qm2 g
  have ln := qi1 l (fun i hi => by
      have h := qm3 l r 0 g i
      simp only [qla] at h
      exact qjd (by omega)) l.length (Nat.le_refl _)
  omega
theorem qbf (k : Nat) (hk : 2000000 ≤ k) (w : Wd) (S : Sml w) : go (k + 10) impl_FormatWorld [wdR w] = some [.arr true (!wdOk w) (.strs (fwT w))] := by
  rw [qfw]
  have h1 := S.h1; have h2 := S.h2; have h3 := S.h3; have h4 := S.h4
  have eW := qbr k (by omega) w.r false w.s.1 false w.s.2.1 false w.s.2.2 false w.b w.p.bi w.p.bs w.p.bo w.p.rain w.p.loss w.p.dec w.p.high w.p.low w.p.every w.k w.ld.mi w.ld.mo w.ld.ti w.ld.ou w.f w.g (by omega) (by omega)
  rw [show qr1 w.r w.s.1 w.s.2.1 w.s.2.2 w.b w.p.bi w.p.bs w.p.bo w.p.rain w.p.loss w.p.dec w.p.high w.p.low w.p.every w.k w.ld.mi w.ld.mo w.ld.ti w.ld.ou w.f w.g = wdOk w from rfl] at eW
  unfold fwT
  cases g : wdOk w
  · rw [g] at eW
    simp (disch := omega) only [qay, nth0, nth1, nth2, nth3, bit, qef, qeg, qer, qew, qex, qey, qez, qe0, qe1, qe2, qeh, qei, qej, qek, qel, qem, qen, qeo, qep, qeq, qes, qet, qeu, qev, qrf, qre, qrg, qnd, qn3, qn5, qjh, qa5, qqo, nI, qfb, qe9, Bool.not_true, Bool.not_false, Bool.and_true, Bool.true_and, Bool.and_false, Bool.false_and, Bool.or_true, Bool.true_or, Bool.or_false, Bool.false_or, beq_self_eq_true, dTT, dFF, dT, dF, bigI, big0, qnc, qr4, qr5, List.length_set, List.length_replicate, Int.toNat_natCast, qed, qee, imax, imin, eW]
  rw [g] at eW
  have F := wdF g
  have s1 := qjo _ F.F.mmem; have s2 := qjo _ F.F.tmem
  have ll := F.F.len; have ml := F.F.ml; have tl := F.F.tl; have bl := F.F.bl; have rr := F.F.rr
  have k0 := F.k; have l1 := F.L.mi; have l2 := F.L.mo
  have db := qfm F.F
  have fz := qi5 F.F.mesh
  have i1 : inI64 w.k = true := qjd (by omega)
  have i2 : inI64 (isum w.s.2.1) = true := qjd (by omega)
  have i3 : inI64 (isum w.s.2.2) = true := qjd (by omega)
  have i4 : inI64 w.ld.mi = true := qjd (by omega)
  have i5 : inI64 w.ld.mo = true := qjd (by omega)
  have i6 : inI64 (dig w.s.1 w.s.2.1 w.s.2.2 w.b) = true := qjd (by omega)
  have sp := fun (wd : List UInt8) (x : Int) (h : wd.length ≤ 1000) (hx : inI64 x = true) => qb3 (k + 8) (ba wd) false [x] (by rw [qaq]; exact h) (by simp) (by simp [hx])
  have a1 := sp [115, 116, 101, 112] _ (by decide) i1
  have a2 := sp [109, 97, 115, 115] _ (by decide) i2
  have a3 := sp [116, 114, 97, 99, 101, 114] _ (by decide) i3
  have a4 := sp [105, 110] _ (by decide) i4
  have a5 := sp [111, 117, 116] _ (by decide) i5
  have a6 := sp [100, 105, 103, 101, 115, 116] _ (by decide) i6
  clear sp
  simp only [qap] at a1 a2 a3 a4 a5 a6
  have b1 := qb4 (k + 8) (by omega) false w.s.2.1 (by omega) F.F.mmem
  have b2 := qb4 (k + 8) (by omega) false w.s.2.2 (by omega) F.F.tmem
  have b3 := qbe (k + 8) w.r false w.s.1 (by omega)
  have b4 := qba k (by omega) w.r false false false false w.s.1 w.s.2.1 w.s.2.2 w.b F.F
  have q2 : ({ data := #[(109 : UInt8), (101 : UInt8), (115 : UInt8), (104 : UInt8), (32 : UInt8)] } : ByteArray) = ba [109, 101, 115, 104, 32] := Eq.trans rfl rfl
  simp (disch := omega) only [qay, nth0, nth1, nth2, nth3, bit, qef, qeg, qer, qew, qex, qey, qez, qe0, qe1, qe2, qeh, qei, qej, qek, qel, qem, qen, qeo, qep, qeq, qes, qet, qeu, qev, qrf, qre, qrg, qnd, qn3, qn5, qjh, qa5, qqo, nI, qfb, qe9, Bool.not_true, Bool.not_false, Bool.and_true, Bool.true_and, Bool.and_false, Bool.false_and, Bool.or_true, Bool.true_or, Bool.or_false, Bool.false_or, beq_self_eq_true, dTT, dFF, dT, dF, bigI, big0, qnc, qr4, qr5, List.length_set, List.length_replicate, Int.toNat_natCast, qed, qee, imax, imin, eW, a1, b3, b1, a2, b2, a3, a4, a5, b4, a6, q2, qao, qaq, List.length_append, List.length_cons, List.length_nil]
  rfl
end Go.Proofs.YtjfjniebmdafeaaGreatDoor
end
section
namespace Go.Proofs.YtjfjniebmdafeaaGreatDoor
open Go.Ev
theorem qil (k : Nat) (v0 : Bool) (v1 : List Int) (v2 v3 : Int) : go (k + 1) spec_l18Plan [(.ptr true [(.arr false (v0) (.ints IntKind.u8 (v1))), (.int .i64 (v2)), (.int .i64 (v3))])] =
 (go k spec_l13Border [(.ptr true [(.arr false (v0) (.ints IntKind.u8 (v1))), (.int .i64 (v2)), (.int .i64 (v3))])]).bind fun r0 =>
 (go k spec_l01Below [(.ptr true [(.arr false (v0) (.ints IntKind.u8 (v1))), (.int .i64 (D.toInt (D.cell 1 (nth r0 1)))), (.int .i64 (D.toInt (D.cell 2 (nth r0 1))))]), (.int .i64 ((2 : Int)))]).bind fun r1 =>
 (go k spec_l01Below [(.ptr true [(.arr false (v0) (.ints IntKind.u8 (v1))), (.int .i64 (D.toInt (D.cell 1 (nth r1 1)))), (.int .i64 (D.toInt (D.cell 2 (nth r1 1))))]), (.int .i64 ((900 : Int)))]).bind fun r2 =>
 (go k spec_l01Below [(.ptr true [(.arr false (v0) (.ints IntKind.u8 (v1))), (.int .i64 (D.toInt (D.cell 1 (nth r2 1)))), (.int .i64 (D.toInt (D.cell 2 (nth r2 1))))]), (.int .i64 ((2 : Int)))]).bind fun r3 =>
 (go k spec_l01Below [(.ptr true [(.arr false (v0) (.ints IntKind.u8 (v1))), (.int .i64 (D.toInt (D.cell 1 (nth r3 1)))), (.int .i64 (D.toInt (D.cell 2 (nth r3 1))))]), (.int .i64 ((400 : Int)))]).bind fun r4 =>
 (go k spec_l01Below [(.ptr true [(.arr false (v0) (.ints IntKind.u8 (v1))), (.int .i64 (D.toInt (D.cell 1 (nth r4 1)))), (.int .i64 (D.toInt (D.cell 2 (nth r4 1))))]), (.int .i64 ((2 : Int)))]).bind fun r5 =>
 (go k spec_l01Below [(.ptr true [(.arr false (v0) (.ints IntKind.u8 (v1))), (.int .i64 (D.toInt (D.cell 1 (nth r5 1)))), (.int .i64 (D.toInt (D.cell 2 (nth r5 1))))]), (.int .i64 ((200 : Int)))]).bind fun r6 =>
 (go k spec_l01Below [(.ptr true [(.arr false (v0) (.ints IntKind.u8 (v1))), (.int .i64 (D.toInt (D.cell 1 (nth r6 1)))), (.int .i64 (D.toInt (D.cell 2 (nth r6 1))))]), (.int .i64 ((4000 : Int)))]).bind fun r7 =>
 (go k spec_l01Below [(.ptr true [(.arr false (v0) (.ints IntKind.u8 (v1))), (.int .i64 (D.toInt (D.cell 1 (nth r7 1)))), (.int .i64 (D.toInt (D.cell 2 (nth r7 1))))]), (.int .i64 ((300 : Int)))]).bind fun r8 =>
 (go k spec_l01Below [(.ptr true [(.arr false (v0) (.ints IntKind.u8 (v1))), (.int .i64 (D.toInt (D.cell 1 (nth r8 1)))), (.int .i64 (D.toInt (D.cell 2 (nth r8 1))))]), (.int .i64 ((3 : Int)))]).bind fun r9 =>
 some [(.agg [(.int .i64 (D.toInt (D.cell 0 (nth r0 0)))), (.int .i64 (D.toInt (D.cell 1 (nth r0 0)))), (.int .i64 (D.toInt (D.cell 2 (nth r0 0)))), (.int .i64 (IntKind.wrap .i64 (D.toInt (nth r1 0) * D.toInt (nth r2 0)))), (.int .i64 (IntKind.wrap .i64 (D.toInt (nth r3 0) * D.toInt (nth r4 0)))), (.int .i64 (IntKind.wrap .i64 (D.toInt (nth r5 0) * D.toInt (nth r6 0)))), (.int .i64 (IntKind.wrap .i64 ((200 : Int) + D.toInt (nth r7 0)))), (.int .i64 (D.toInt (nth r8 0))), (.int .i64 (D.toInt (nth r9 0)))]), (.ptr true [(.arr false (v0) (.ints IntKind.u8 (v1))), (.int .i64 (D.toInt (D.cell 1 (nth r9 1)))), (.int .i64 (D.toInt (D.cell 2 (nth r9 1))))])] := by kernel_rfl
theorem qic (k : Nat) (v0 : Bool) (v1 : List Int) (v2 v3 : Int) : go (k + 1) spec_l13Border [(.ptr true [(.arr false (v0) (.ints IntKind.u8 (v1))), (.int .i64 (v2)), (.int .i64 (v3))])] =
 (go k spec_l01Below [(.ptr true [(.arr false (v0) (.ints IntKind.u8 (v1))), (.int .i64 (v2)), (.int .i64 (v3))]), (.int .i64 ((2 : Int)))]).bind fun r0 =>
 (go k spec_l01Below [(.ptr true [(.arr false (v0) (.ints IntKind.u8 (v1))), (.int .i64 (D.toInt (D.cell 1 (nth r0 1)))), (.int .i64 (D.toInt (D.cell 2 (nth r0 1))))]), (.int .i64 ((3000 : Int)))]).bind fun r1 =>
 (go k spec_l01Below [(.ptr true [(.arr false (v0) (.ints IntKind.u8 (v1))), (.int .i64 (D.toInt (D.cell 1 (nth r1 1)))), (.int .i64 (D.toInt (D.cell 2 (nth r1 1))))]), (.int .i64 ((1001 : Int)))]).bind fun r2 =>
 (go k spec_l01Below [(.ptr true [(.arr false (v0) (.ints IntKind.u8 (v1))), (.int .i64 (D.toInt (D.cell 1 (nth r2 1)))), (.int .i64 (D.toInt (D.cell 2 (nth r2 1))))]), (.int .i64 ((2 : Int)))]).bind fun r3 =>
 (go k spec_l01Below [(.ptr true [(.arr false (v0) (.ints IntKind.u8 (v1))), (.int .i64 (D.toInt (D.cell 1 (nth r3 1)))), (.int .i64 (D.toInt (D.cell 2 (nth r3 1))))]), (.int .i64 ((251 : Int)))]).bind fun r4 =>
 some [(.agg [(.int .i64 (IntKind.wrap .i64 (D.toInt (nth r0 0) * D.toInt (nth r1 0)))), (.int .i64 (D.toInt (nth r2 0))), (.int .i64 (IntKind.wrap .i64 (D.toInt (nth r3 0) * D.toInt (nth r4 0))))]), (.ptr true [(.arr false (v0) (.ints IntKind.u8 (v1))), (.int .i64 (D.toInt (D.cell 1 (nth r4 1)))), (.int .i64 (D.toInt (D.cell 2 (nth r4 1))))])] := by kernel_rfl
def qpj (x0 : Int) (z1 : Bool) (l2 : List Int) (x3 x4 : Int) (z5 : Bool) (l6 : List (Int × Int × Int)) (z7 : Bool) (l8 : List Int) (z9 : Bool) (l10 : List Int) (z11 : Bool) (l12 : List Int) (x13 x14 x15 x16 x17 x18 x19 x20 x21 x22 x23 x24 x25 x26 x27 x28 x29 : Int) (z30 : Bool) (l31 : List (Int × Int × Int)) (z32 : Bool) (l33 : List Int) (z34 : Bool) (l35 : List Int) (z36 : Bool) (l37 : List Int) (x38 x39 x40 x41 x42 x43 x44 x45 x46 x47 x48 x49 x50 x51 x52 x53 x54 : Int) : St := ⟨fill 38 [(0, (.ptr 1 (0) (0))), (2, (.ptr 6 (0) (0))), (3, (.ptr 11 (0) (0))), (5, (.int .i64 (x0)))], [(.ptr 1 (0) (0)), (.sl 0 none)], [(.arr false (z1) (.ints IntKind.u8 (l2))), (.box true [(.sl 0 none), (.int .i64 (x3)), (.int .i64 (x4))]), (.arr true (z5) (.r3 (l6))), (.arr true (z7) (.ints .i64 (l8))), (.arr true (z9) (.ints .i64 (l10))), (.arr true (z11) (.ints .i64 (l12))), (.box true [(.int .i64 (x13)), (.sl 2 none), (.sl 3 none), (.sl 4 none), (.sl 5 none), (.int .i64 (x14)), (.int .i64 (x15)), (.int .i64 (x16)), (.int .i64 (x17)), (.int .i64 (x18)), (.int .i64 (x19)), (.int .i64 (x20)), (.int .i64 (x21)), (.int .i64 (x22)), (.int .i64 (x23)), (.int .i64 (x24)), (.int .i64 (x25)), (.int .i64 (x26)), (.int .i64 (x27)), (.int .i64 (x28)), (.int .i64 (x29))]), (.arr true (z30) (.r3 (l31))), (.arr true (z32) (.ints .i64 (l33))), (.arr true (z34) (.ints .i64 (l35))), (.arr true (z36) (.ints .i64 (l37))), (.box true [(.int .i64 (x38)), (.sl 7 none), (.sl 8 none), (.sl 9 none), (.sl 10 none), (.int .i64 (x39)), (.int .i64 (x40)), (.int .i64 (x41)), (.int .i64 (x42)), (.int .i64 (x43)), (.int .i64 (x44)), (.int .i64 (x45)), (.int .i64 (x46)), (.int .i64 (x47)), (.int .i64 (x48)), (.int .i64 (x49)), (.int .i64 (x50)), (.int .i64 (x51)), (.int .i64 (x52)), (.int .i64 (x53)), (.int .i64 (x54))])]⟩
theorem qio (k : Nat) (v0 : Bool) (v1 : List Int) (v2 v3 : Int) : go (k + 1) spec_l36World [(.ptr true [(.arr false (v0) (.ints IntKind.u8 (v1))), (.int .i64 (v2)), (.int .i64 (v3))])] =
 (go k spec_l07State [(.ptr true [(.arr false (v0) (.ints IntKind.u8 (v1))), (.int .i64 (v2)), (.int .i64 (v3))])]).bind fun r0 =>
 (go k spec_l18Plan [(.ptr true [(.arr false (v0) (.ints IntKind.u8 (v1))), (.int .i64 (D.toInt (D.cell 1 (nth r0 1)))), (.int .i64 (D.toInt (D.cell 2 (nth r0 1))))])]).bind fun r1 =>
 (go k spec_WorldNew [(.agg [(.int .i64 (D.toInt (D.cell 0 (nth r0 0)))), (.arr false (D.nil (D.cell 1 (nth r0 0))) (.r3 (D.r3 (D.cell 1 (nth r0 0))))), (.arr false (D.nil (D.cell 2 (nth r0 0))) (.ints .i64 (D.ints (D.cell 2 (nth r0 0))))), (.arr false (D.nil (D.cell 3 (nth r0 0))) (.ints .i64 (D.ints (D.cell 3 (nth r0 0))))), (.arr false (D.nil (D.cell 4 (nth r0 0))) (.ints .i64 (D.ints (D.cell 4 (nth r0 0)))))]), (.agg [(.int .i64 (D.toInt (D.cell 0 (nth r1 0)))), (.int .i64 (D.toInt (D.cell 1 (nth r1 0)))), (.int .i64 (D.toInt (D.cell 2 (nth r1 0)))), (.int .i64 (D.toInt (D.cell 3 (nth r1 0)))), (.int .i64 (D.toInt (D.cell 4 (nth r1 0)))), (.int .i64 (D.toInt (D.cell 5 (nth r1 0)))), (.int .i64 (D.toInt (D.cell 6 (nth r1 0)))), (.int .i64 (D.toInt (D.cell 7 (nth r1 0)))), (.int .i64 (D.toInt (D.cell 8 (nth r1 0))))])]).bind fun r2 =>
 lp k spec_l36World [(.ptr true [(.arr false (v0) (.ints IntKind.u8 (v1))), (.int .i64 (v2)), (.int .i64 (v3))])] [] 3 k (qpj (0 : Int) v0 v1 (D.toInt (D.cell 1 (nth r1 1))) (D.toInt (D.cell 2 (nth r1 1))) true ([]) true ([]) true ([]) true ([]) (0 : Int) (0 : Int) (0 : Int) (0 : Int) (0 : Int) (0 : Int) (0 : Int) (0 : Int) (0 : Int) (0 : Int) (0 : Int) (0 : Int) (0 : Int) (0 : Int) (0 : Int) (0 : Int) (0 : Int) (D.nil (D.cell 1 (nth r2 0))) (D.r3 (D.cell 1 (nth r2 0))) (D.nil (D.cell 2 (nth r2 0))) (D.ints (D.cell 2 (nth r2 0))) (D.nil (D.cell 3 (nth r2 0))) (D.ints (D.cell 3 (nth r2 0))) (D.nil (D.cell 4 (nth r2 0))) (D.ints (D.cell 4 (nth r2 0))) (D.toInt (D.cell 0 (nth r2 0))) (D.toInt (D.cell 5 (nth r2 0))) (D.toInt (D.cell 6 (nth r2 0))) (D.toInt (D.cell 7 (nth r2 0))) (D.toInt (D.cell 8 (nth r2 0))) (D.toInt (D.cell 9 (nth r2 0))) (D.toInt (D.cell 10 (nth r2 0))) (D.toInt (D.cell 11 (nth r2 0))) (D.toInt (D.cell (12 : Nat) (nth r2 0))) (D.toInt (D.cell (13 : Nat) (nth r2 0))) (D.toInt (D.cell (14 : Nat) (nth r2 0))) (D.toInt (D.cell (15 : Nat) (nth r2 0))) (D.toInt (D.cell (16 : Nat) (nth r2 0))) (D.toInt (D.cell (17 : Nat) (nth r2 0))) (D.toInt (D.cell (18 : Nat) (nth r2 0))) (D.toInt (D.cell (19 : Nat) (nth r2 0))) (D.toInt (D.cell (20 : Nat) (nth r2 0)))) := by kernel_rfl
theorem qk2 (k n : Nat) (fu : List (Nat × Nat)) (v0 : Bool) (v1 : List Int) (v2 v3 x0 : Int) (z1 : Bool) (l2 : List Int) (x3 x4 : Int) (z5 : Bool) (l6 : List (Int × Int × Int)) (z7 : Bool) (l8 : List Int) (z9 : Bool) (l10 : List Int) (z11 : Bool) (l12 : List Int) (x13 x14 x15 x16 x17 x18 x19 x20 x21 x22 x23 x24 x25 x26 x27 x28 x29 : Int) (z30 : Bool) (l31 : List (Int × Int × Int)) (z32 : Bool) (l33 : List Int) (z34 : Bool) (l35 : List Int) (z36 : Bool) (l37 : List Int) (x38 x39 x40 x41 x42 x43 x44 x45 x46 x47 x48 x49 x50 x51 x52 x53 x54 : Int) : lp k spec_l36World [(.ptr true [(.arr false (v0) (.ints IntKind.u8 (v1))), (.int .i64 (v2)), (.int .i64 (v3))])] fu 3 (n + 1) (qpj x0 z1 l2 x3 x4 z5 l6 z7 l8 z9 l10 z11 l12 x13 x14 x15 x16 x17 x18 x19 x20 x21 x22 x23 x24 x25 x26 x27 x28 x29 z30 l31 z32 l33 z34 l35 z36 l37 x38 x39 x40 x41 x42 x43 x44 x45 x46 x47 x48 x49 x50 x51 x52 x53 x54) =
 (go k spec_l01Below [(.ptr true [(.arr false (z1) (.ints IntKind.u8 (l2))), (.int .i64 (x3)), (.int .i64 (x4))]), (.int .i64 ((3 : Int)))]).bind fun r0 =>
 cond (decide (x0 < D.toInt (nth r0 0)))
 ((go k spec_Advance [(.agg [(.int .i64 (x38)), (.arr false (z30) (.r3 (l31))), (.arr false (z32) (.ints .i64 (l33))), (.arr false (z34) (.ints .i64 (l35))), (.arr false (z36) (.ints .i64 (l37))), (.int .i64 (x39)), (.int .i64 (x40)), (.int .i64 (x41)), (.int .i64 (x42)), (.int .i64 (x43)), (.int .i64 (x44)), (.int .i64 (x45)), (.int .i64 (x46)), (.int .i64 (x47)), (.int .i64 (x48)), (.int .i64 (x49)), (.int .i64 (x50)), (.int .i64 (x51)), (.int .i64 (x52)), (.int .i64 (x53)), (.int .i64 (x54))]), (.int .i64 ((1 : Int)))]).bind fun r1 =>
 (go k spec_l01Below [(.ptr true [(.arr false (z1) (.ints IntKind.u8 (l2))), (.int .i64 (D.toInt (D.cell 1 (nth r0 1)))), (.int .i64 (D.toInt (D.cell 2 (nth r0 1))))]), (.int .i64 ((40 : Int)))]).bind fun r2 =>
 (go k spec_l01Below [(.ptr true [(.arr false (z1) (.ints IntKind.u8 (l2))), (.int .i64 (D.toInt (D.cell 1 (nth r2 1)))), (.int .i64 (D.toInt (D.cell 2 (nth r2 1))))]), (.int .i64 ((900 : Int)))]).bind fun r3 =>
 (go k spec_l01Below [(.ptr true [(.arr false (z1) (.ints IntKind.u8 (l2))), (.int .i64 (D.toInt (D.cell 1 (nth r3 1)))), (.int .i64 (D.toInt (D.cell 2 (nth r3 1))))]), (.int .i64 ((1001 : Int)))]).bind fun r4 =>
 (go k spec_Drop [(.agg [(.int .i64 (D.toInt (D.cell 0 (nth r1 0)))), (.arr false (D.nil (D.cell 1 (nth r1 0))) (.r3 (D.r3 (D.cell 1 (nth r1 0))))), (.arr false (D.nil (D.cell 2 (nth r1 0))) (.ints .i64 (D.ints (D.cell 2 (nth r1 0))))), (.arr false (D.nil (D.cell 3 (nth r1 0))) (.ints .i64 (D.ints (D.cell 3 (nth r1 0))))), (.arr false (D.nil (D.cell 4 (nth r1 0))) (.ints .i64 (D.ints (D.cell 4 (nth r1 0))))), (.int .i64 (D.toInt (D.cell 5 (nth r1 0)))), (.int .i64 (D.toInt (D.cell 6 (nth r1 0)))), (.int .i64 (D.toInt (D.cell 7 (nth r1 0)))), (.int .i64 (D.toInt (D.cell 8 (nth r1 0)))), (.int .i64 (D.toInt (D.cell 9 (nth r1 0)))), (.int .i64 (D.toInt (D.cell 10 (nth r1 0)))), (.int .i64 (D.toInt (D.cell 11 (nth r1 0)))), (.int .i64 (D.toInt (D.cell (12 : Nat) (nth r1 0)))), (.int .i64 (D.toInt (D.cell (13 : Nat) (nth r1 0)))), (.int .i64 (D.toInt (D.cell (14 : Nat) (nth r1 0)))), (.int .i64 (D.toInt (D.cell (15 : Nat) (nth r1 0)))), (.int .i64 (D.toInt (D.cell (16 : Nat) (nth r1 0)))), (.int .i64 (D.toInt (D.cell (17 : Nat) (nth r1 0)))), (.int .i64 (D.toInt (D.cell (18 : Nat) (nth r1 0)))), (.int .i64 (D.toInt (D.cell (19 : Nat) (nth r1 0)))), (.int .i64 (D.toInt (D.cell (20 : Nat) (nth r1 0))))]), (.int .i64 (D.toInt (nth r2 0))), (.int .i64 (IntKind.wrap .i64 ((1 : Int) + D.toInt (nth r3 0)))), (.int .i64 (D.toInt (nth r4 0)))]).bind fun r5 =>
 lp k spec_l36World [(.ptr true [(.arr false (v0) (.ints IntKind.u8 (v1))), (.int .i64 (v2)), (.int .i64 (v3))])] fu 3 n (qpj (IntKind.wrap .i64 (x0 + (1 : Int))) z1 l2 (D.toInt (D.cell 1 (nth r4 1))) (D.toInt (D.cell 2 (nth r4 1))) z5 l6 z7 l8 z9 l10 z11 l12 x13 x14 x15 x16 x17 x18 x19 x20 x21 x22 x23 x24 x25 x26 x27 x28 x29 (D.nil (D.cell 1 (nth r5 0))) (D.r3 (D.cell 1 (nth r5 0))) (D.nil (D.cell 2 (nth r5 0))) (D.ints (D.cell 2 (nth r5 0))) (D.nil (D.cell 3 (nth r5 0))) (D.ints (D.cell 3 (nth r5 0))) (D.nil (D.cell 4 (nth r5 0))) (D.ints (D.cell 4 (nth r5 0))) (D.toInt (D.cell 0 (nth r5 0))) (D.toInt (D.cell 5 (nth r5 0))) (D.toInt (D.cell 6 (nth r5 0))) (D.toInt (D.cell 7 (nth r5 0))) (D.toInt (D.cell 8 (nth r5 0))) (D.toInt (D.cell 9 (nth r5 0))) (D.toInt (D.cell 10 (nth r5 0))) (D.toInt (D.cell 11 (nth r5 0))) (D.toInt (D.cell (12 : Nat) (nth r5 0))) (D.toInt (D.cell (13 : Nat) (nth r5 0))) (D.toInt (D.cell (14 : Nat) (nth r5 0))) (D.toInt (D.cell (15 : Nat) (nth r5 0))) (D.toInt (D.cell (16 : Nat) (nth r5 0))) (D.toInt (D.cell (17 : Nat) (nth r5 0))) (D.toInt (D.cell (18 : Nat) (nth r5 0))) (D.toInt (D.cell (19 : Nat) (nth r5 0))) (D.toInt (D.cell (20 : Nat) (nth r5 0)))))
 (some [(.agg [(.int .i64 (x38)), (.arr true (z30) (.r3 (l31))), (.arr true (z32) (.ints .i64 (l33))), (.arr true (z34) (.ints .i64 (l35))), (.arr true (z36) (.ints .i64 (l37))), (.int .i64 (x39)), (.int .i64 (x40)), (.int .i64 (x41)), (.int .i64 (x42)), (.int .i64 (x43)), (.int .i64 (x44)), (.int .i64 (x45)), (.int .i64 (x46)), (.int .i64 (x47)), (.int .i64 (x48)), (.int .i64 (x49)), (.int .i64 (x50)), (.int .i64 (x51)), (.int .i64 (x52)), (.int .i64 (x53)), (.int .i64 (x54))]), (.ptr true [(.arr false (z1) (.ints IntKind.u8 (l2))), (.int .i64 (D.toInt (D.cell 1 (nth r0 1)))), (.int .i64 (D.toInt (D.cell 2 (nth r0 1))))])]) := by kernel_rfl
def qow (x0 x1 : Int) (z2 : Bool) (l3 : List Int) (z4 : Bool) (l5 : List (Int × Int × Int)) (z6 : Bool) (l7 : List Int) (z8 : Bool) (l9 : List Int) (z10 : Bool) (l11 : List Int) (x12 x13 x14 x15 x16 x17 x18 x19 x20 x21 x22 x23 x24 x25 x26 x27 x28 : Int) : St := ⟨fill 32 [(0, (.sl 0 none)), (3, (.int .i64 (x0))), (4, (.int .i64 (x1)))], [(.sl 0 none), .un, (.ptr 5 (0) (0)), (.sl 0 none), .un, .un], [(.arr false (z2) (.ints IntKind.u8 (l3))), (.arr true (z4) (.r3 (l5))), (.arr true (z6) (.ints .i64 (l7))), (.arr true (z8) (.ints .i64 (l9))), (.arr true (z10) (.ints .i64 (l11))), (.box true [(.int .i64 (x12)), (.sl 1 none), (.sl 2 none), (.sl 3 none), (.sl 4 none), (.int .i64 (x13)), (.int .i64 (x14)), (.int .i64 (x15)), (.int .i64 (x16)), (.int .i64 (x17)), (.int .i64 (x18)), (.int .i64 (x19)), (.int .i64 (x20)), (.int .i64 (x21)), (.int .i64 (x22)), (.int .i64 (x23)), (.int .i64 (x24)), (.int .i64 (x25)), (.int .i64 (x26)), (.int .i64 (x27)), (.int .i64 (x28))])]⟩
theorem qgy (k : Nat) (az : Bool) (a : List Int) : go (k + 1) spec_DrawWorld [(.arr false (az) (.ints IntKind.u8 (a)))] =
 lp k spec_DrawWorld [] [] 2800003 k (qow (IntKind.wrap .i64 ((98231 : Int) + nI (List.length a))) (0 : Int) az a true ([]) true ([]) true ([]) true ([]) (0 : Int) (0 : Int) (0 : Int) (0 : Int) (0 : Int) (0 : Int) (0 : Int) (0 : Int) (0 : Int) (0 : Int) (0 : Int) (0 : Int) (0 : Int) (0 : Int) (0 : Int) (0 : Int) (0 : Int)) := by kernel_rfl
theorem qkf (k n : Nat) (fu : List (Nat × Nat)) (x0 x1 : Int) (z2 : Bool) (l3 : List Int) (z4 : Bool) (l5 : List (Int × Int × Int)) (z6 : Bool) (l7 : List Int) (z8 : Bool) (l9 : List Int) (z10 : Bool) (l11 : List Int) (x12 x13 x14 x15 x16 x17 x18 x19 x20 x21 x22 x23 x24 x25 x26 x27 x28 : Int) : lp k spec_DrawWorld [] fu 2800003 (n + 1) (qow x0 x1 z2 l3 z4 l5 z6 l7 z8 l9 z10 l11 x12 x13 x14 x15 x16 x17 x18 x19 x20 x21 x22 x23 x24 x25 x26 x27 x28) =
 cond (decide (x1 < nI (List.length l3)))
 (cond (decide (x1 < (4000 : Int)))
 (cond (decide ((0 : Int) ≤ x1) && decide (x1 < nI (List.length l3)))
 (lp k spec_DrawWorld [] fu 2800003 n (qow (bitN BinOp.and .i64 (IntKind.wrap .i64 (IntKind.wrap .i64 (IntKind.wrap .i64 (x0 * (131 : Int)) + IntKind.wrap .i64 (List.getD l3 (Int.toNat x1) (0 : Int))) + (7 : Int))) (1073741823 : Int)) (IntKind.wrap .i64 (x1 + (1 : Int))) z2 l3 z4 l5 z6 l7 z8 l9 z10 l11 x12 x13 x14 x15 x16 x17 x18 x19 x20 x21 x22 x23 x24 x25 x26 x27 x28))
 (none))
 ((go k spec_l36World [(.ptr true [(.arr false (z2) (.ints IntKind.u8 (l3))), (.int .i64 (0 : Int)), (.int .i64 (x0))])]).bind fun r0 =>
 some [(.agg [(.int .i64 (D.toInt (D.cell 0 (nth r0 0)))), (.arr true (D.nil (D.cell 1 (nth r0 0))) (.r3 (D.r3 (D.cell 1 (nth r0 0))))), (.arr true (D.nil (D.cell 2 (nth r0 0))) (.ints .i64 (D.ints (D.cell 2 (nth r0 0))))), (.arr true (D.nil (D.cell 3 (nth r0 0))) (.ints .i64 (D.ints (D.cell 3 (nth r0 0))))), (.arr true (D.nil (D.cell 4 (nth r0 0))) (.ints .i64 (D.ints (D.cell 4 (nth r0 0))))), (.int .i64 (D.toInt (D.cell 5 (nth r0 0)))), (.int .i64 (D.toInt (D.cell 6 (nth r0 0)))), (.int .i64 (D.toInt (D.cell 7 (nth r0 0)))), (.int .i64 (D.toInt (D.cell 8 (nth r0 0)))), (.int .i64 (D.toInt (D.cell 9 (nth r0 0)))), (.int .i64 (D.toInt (D.cell 10 (nth r0 0)))), (.int .i64 (D.toInt (D.cell 11 (nth r0 0)))), (.int .i64 (D.toInt (D.cell (12 : Nat) (nth r0 0)))), (.int .i64 (D.toInt (D.cell (13 : Nat) (nth r0 0)))), (.int .i64 (D.toInt (D.cell (14 : Nat) (nth r0 0)))), (.int .i64 (D.toInt (D.cell (15 : Nat) (nth r0 0)))), (.int .i64 (D.toInt (D.cell (16 : Nat) (nth r0 0)))), (.int .i64 (D.toInt (D.cell (17 : Nat) (nth r0 0)))), (.int .i64 (D.toInt (D.cell (18 : Nat) (nth r0 0)))), (.int .i64 (D.toInt (D.cell (19 : Nat) (nth r0 0)))), (.int .i64 (D.toInt (D.cell (20 : Nat) (nth r0 0))))])]))
 ((go k spec_l36World [(.ptr true [(.arr false (z2) (.ints IntKind.u8 (l3))), (.int .i64 (0 : Int)), (.int .i64 (x0))])]).bind fun r1 =>
 some [(.agg [(.int .i64 (D.toInt (D.cell 0 (nth r1 0)))), (.arr true (D.nil (D.cell 1 (nth r1 0))) (.r3 (D.r3 (D.cell 1 (nth r1 0))))), (.arr true (D.nil (D.cell 2 (nth r1 0))) (.ints .i64 (D.ints (D.cell 2 (nth r1 0))))), (.arr true (D.nil (D.cell 3 (nth r1 0))) (.ints .i64 (D.ints (D.cell 3 (nth r1 0))))), (.arr true (D.nil (D.cell 4 (nth r1 0))) (.ints .i64 (D.ints (D.cell 4 (nth r1 0))))), (.int .i64 (D.toInt (D.cell 5 (nth r1 0)))), (.int .i64 (D.toInt (D.cell 6 (nth r1 0)))), (.int .i64 (D.toInt (D.cell 7 (nth r1 0)))), (.int .i64 (D.toInt (D.cell 8 (nth r1 0)))), (.int .i64 (D.toInt (D.cell 9 (nth r1 0)))), (.int .i64 (D.toInt (D.cell 10 (nth r1 0)))), (.int .i64 (D.toInt (D.cell 11 (nth r1 0)))), (.int .i64 (D.toInt (D.cell (12 : Nat) (nth r1 0)))), (.int .i64 (D.toInt (D.cell (13 : Nat) (nth r1 0)))), (.int .i64 (D.toInt (D.cell (14 : Nat) (nth r1 0)))), (.int .i64 (D.toInt (D.cell (15 : Nat) (nth r1 0)))), (.int .i64 (D.toInt (D.cell (16 : Nat) (nth r1 0)))), (.int .i64 (D.toInt (D.cell (17 : Nat) (nth r1 0)))), (.int .i64 (D.toInt (D.cell (18 : Nat) (nth r1 0)))), (.int .i64 (D.toInt (D.cell (19 : Nat) (nth r1 0)))), (.int .i64 (D.toInt (D.cell (20 : Nat) (nth r1 0))))])]) := by kernel_rfl
end Go.Proofs.YtjfjniebmdafeaaGreatDoor
end
section
namespace Go.Proofs.YtjfjniebmdafeaaGreatDoor
open Go.Ev
set_option maxRecDepth 20000
structure Good (w : Wd) (K : Nat) : Prop where
  F : StF w.r w.s.1 w.s.2.1 w.s.2.2 w.b
  p : qny w.p.bi w.p.bs w.p.bo w.p.rain w.p.loss w.p.dec w.p.high w.p.low w.p.every = true
  k : 0 ≤ w.k ∧ w.k ≤ K
  L : LdB w.ld (40000000000 * K)
  f : isum w.s.2.1 - w.ld.mi + w.ld.mo = w.f
  g : isum w.s.2.2 - w.ld.ti + w.ld.ou = w.g
theorem Good.ok {w : Wd} {K : Nat} (G : Good w K) (hK : K ≤ 10000) : wdOk w = true := by
  have a := G.k; have b1 := G.L.mi; have b2 := G.L.mo; have b3 := G.L.ti; have b4 := G.L.ou
  unfold wdOk qr1 qk8
  simp only [Bool.and_eq_true, decide_eq_true_eq]
  exact ⟨stF.2 G.F, G.p, qjf.2 (by omega), ⟨qjf.2 (by omega), qjf.2 (by omega), qjf.2 (by omega), qjf.2 (by omega)⟩, G.f, G.g⟩
theorem Good.mono {w : Wd} {K N : Nat} (G : Good w K) (h : K ≤ N) : Good w N := by
  have a := G.k; have b1 := G.L.mi; have b2 := G.L.mo; have b3 := G.L.ti; have b4 := G.L.ou
  exact ⟨G.F, G.p, by omega, ⟨by omega, by omega, by omega, by omega⟩, G.f, G.g⟩
theorem Good.next {w : Wd} {K : Nat} (G : Good w K) : Good w.next (K + 1) := by
  have h := qmm (s := w.s) G.F (qnx G.p) w.k
  have a := G.k; have l := G.L; have q := h.2
  have l1 := l.mi; have l2 := l.mo; have l3 := l.ti; have l4 := l.ou
  have q1 := q.mi; have q2 := q.mo; have q3 := q.ti; have q4 := q.ou
  have qm := q.m; have qt := q.t; have ef := G.f; have eg := G.g
  refine ⟨h.1, G.p, ?_, ⟨?_, ?_, ?_, ?_⟩, ?_, ?_⟩
  · show 0 ≤ w.k + 1 ∧ w.k + 1 ≤ _; omega
  · show 0 ≤ w.ld.mi + _ ∧ w.ld.mi + _ ≤ _; omega
  · show 0 ≤ w.ld.mo + _ ∧ w.ld.mo + _ ≤ _; omega
  · show 0 ≤ w.ld.ti + _ ∧ w.ld.ti + _ ≤ _; omega
  · show 0 ≤ w.ld.ou + _ ∧ w.ld.ou + _ ≤ _; omega
  · show isum (mac w.p w.b w.k w.s).1.2.1 - (w.ld.mi + (mac w.p w.b w.k w.s).2.mi) + (w.ld.mo + (mac w.p w.b w.k w.s).2.mo) = w.f
    omega
  · show isum (mac w.p w.b w.k w.s).1.2.2 - (w.ld.ti + (mac w.p w.b w.k w.s).2.ti) + (w.ld.ou + (mac w.p w.b w.k w.s).2.ou) = w.g
    omega
theorem qaj : ∀ (n : Nat) (w : Wd) (K : Nat), Good w K → Good (advN n w) (K + n)
  | 0, w, K, G => G
  | n + 1, w, K, G => by have := qaj n w.next (K + 1) G.next; rw [show K + 1 + n = K + (n + 1) by omega] at this; exact this
theorem Good.adv {w : Wd} {K : Nat} (G : Good w K) (n : Nat) (i : Int) (h : i ≤ n) : Good (adv w i) (K + n) := by
  unfold Go.Proofs.YtjfjniebmdafeaaGreatDoor.adv
  cases g : qal w i
  · exact G.mono (by omega)
  · exact (qaj i.toNat w K G).mono (by omega)
theorem Good.drp1 {w : Wd} {K : Nat} (G : Good w K) {p m h : Int} (g : qfp w p m h = true) : Good (drp1 w p m h) (K + 1) := by
  unfold qfp qfn at g
  simp only [Bool.and_eq_true, decide_eq_true_eq, qjf] at g
  obtain ⟨g1, g2, g3, g4, g5⟩ := g
  have F := G.F
  have lf := qk4 w.r w.s.1 p
  obtain ⟨i, hi⟩ : ∃ i : Nat, qk3 w.r w.s.1 p = (i : Int) := ⟨(qk3 w.r w.s.1 p).toNat, by omega⟩
  have fl := F.len; have ml := F.ml; have tl := F.tl
  have mm := qm9 g2.1 g2.2 g3.1 g3.2
  have mh := qjg (a := m) (c := h) (by omega) g3
  have im : i < w.s.2.1.length := by omega
  have it : i < w.s.2.2.length := by omega
  have fi := F.at i
  have e1 : isum (w.s.2.1.set i (w.s.2.1.getD i 0 + m)) = isum w.s.2.1 + m := by rw [qjq _ _ _ im]; omega
  have e2 : isum (w.s.2.2.set i (w.s.2.2.getD i 0 + m * h)) = isum w.s.2.2 + m * h := by rw [qjq _ _ _ it]; omega
  have a := G.k; have b1 := G.L.mi; have b2 := G.L.mo; have b3 := G.L.ti; have b4 := G.L.ou
  have ef := G.f; have eg := G.g
  unfold Go.Proofs.YtjfjniebmdafeaaGreatDoor.drp1
  rw [hi, Int.toNat_natCast]
  refine ⟨F.mk' (by rw [List.length_set]; exact ml) (by rw [List.length_set]; exact tl) ?_ ?_, G.p, by show 0 ≤ w.k ∧ w.k ≤ _; omega, ⟨?_, ?_, ?_, ?_⟩, ?_, ?_⟩
  · intro j hj
    have fj := F.at j
    show 0 ≤ (w.s.2.1.set i (w.s.2.1.getD i 0 + m)).getD j 0 ∧ 0 ≤ (w.s.2.2.set i (w.s.2.2.getD i 0 + m * h)).getD j 0 ∧ (w.s.2.2.set i (w.s.2.2.getD i 0 + m * h)).getD j 0 ≤ 1000 * (w.s.2.1.set i (w.s.2.1.getD i 0 + m)).getD j 0
    rw [qpk im, qpk it]
    by_cases q : i = j
    · rw [if_pos q, if_pos q]; omega
    · rw [if_neg q, if_neg q]; omega
  · show isum (w.s.2.1.set i (w.s.2.1.getD i 0 + m)) ≤ 10000000; omega
  · show 0 ≤ w.ld.mi + m ∧ w.ld.mi + m ≤ _; omega
  · show 0 ≤ w.ld.mo ∧ w.ld.mo ≤ _; omega
  · show 0 ≤ w.ld.ti + m * h ∧ w.ld.ti + m * h ≤ _; omega
  · show 0 ≤ w.ld.ou ∧ w.ld.ou ≤ _; omega
  · show isum (w.s.2.1.set i (w.s.2.1.getD i 0 + m)) - (w.ld.mi + m) + w.ld.mo = w.f; omega
  · show isum (w.s.2.2.set i (w.s.2.2.getD i 0 + m * h)) - (w.ld.ti + m * h) + w.ld.ou = w.g; omega
theorem Good.drp {w : Wd} {K : Nat} (G : Good w K) (p m h : Int) : Good (drp w p m h) (K + 1) := by
  unfold Go.Proofs.YtjfjniebmdafeaaGreatDoor.drp
  cases g : qfp w p m h
  · exact G.mono (by omega)
  · exact G.drp1 g
structure Fit (w : Wd) (M : Int) : Prop where
  m : isum w.s.2.1 ≤ M
  bi : w.p.bi ≤ 3000
  rain : w.p.rain ≤ 900
theorem qnu {a : Int} (ha : 0 ≤ a ∧ a ≤ 900) (l : List Cell) : ∀ n : Nat, qqp (part a l) n ≤ 900 * n
  | 0 => by simp [qqp]
  | n + 1 => by
    have := qnu ha l n
    have h := qnv (a := a) (by omega) l n
    simp only [qqp]
    omega
theorem qi0 {p : Pl} (P : PlF p) (h1 : p.bi ≤ 3000) (h2 : p.rain ≤ 900) (l : List Cell) (b : List Int) (s : S2) : (flow p l b s).2.mi ≤ 3000 + 900 * l.length := by
  have e1 : (boS p.bi p.bs p.bo s).2.mi ≤ 3000 := by
    have := P.bi
    unfold boS
    split
    · exact h1
    · show (0 : Int) ≤ 3000; decide
  have e2 : ∀ x : S2, (raS p.rain l x).2.mi ≤ 900 * l.length := fun x => by
    unfold raS
    split
    · exact qnu ⟨P.rain.1, h2⟩ l l.length
    · show (0 : Int) ≤ _; omega
  have e2' := e2 (boS p.bi p.bs p.bo s).1
  show (boS p.bi p.bs p.bo s).2.mi + (raS p.rain l (boS p.bi p.bs p.bo s).1).2.mi + 0 + 0 ≤ _
  omega
theorem qmn {p : Pl} (P : PlF p) (h1 : p.bi ≤ 3000) (h2 : p.rain ≤ 900) (b : List Int) (k : Int) (s : S3) : (mac p b k s).2.mi ≤ 3000 + 900 * s.1.length := qi0 P h1 h2 s.1 b s.2
theorem Fit.next {w : Wd} {K : Nat} {M : Int} (G : Good w K) (T : Fit w M) : Fit w.next (M + 118200) := by
  have h := (qmm (s := w.s) G.F (qnx G.p) w.k).2
  have a := qmn (qnx G.p) T.bi T.rain w.b w.k w.s
  have l := G.F.len; have m := T.m
  have q1 := h.m; have q2 := h.mo
  exact ⟨by show isum (mac w.p w.b w.k w.s).1.2.1 ≤ _; omega, T.bi, T.rain⟩
theorem qak : ∀ (n : Nat) (w : Wd) (K : Nat) (M : Int), Good w K → Fit w M → Fit (advN n w) (M + 118200 * n)
  | 0, w, K, M, G, T => by rw [show M + 118200 * ((0 : Nat) : Int) = M by omega]; exact T
  | n + 1, w, K, M, G, T => by have := qak n w.next (K + 1) (M + 118200) G.next (T.next G); rw [show M + 118200 + 118200 * (n : Int) = M + 118200 * ((n + 1 : Nat) : Int) by omega] at this; exact this
theorem qfq {w : Wd} {M N : Int} (T : Fit w M) {p m h : Int} (hN : M + m ≤ N ∧ M ≤ N) : Fit (drp w p m h) N := by
  unfold drp
  cases g : qfp w p m h
  · exact ⟨by have := T.m; show isum w.s.2.1 ≤ _; omega, T.bi, T.rain⟩
  · unfold qfp qfn at g
    simp only [Bool.and_eq_true, decide_eq_true_eq, qjf] at g
    obtain ⟨g1, g2, g3, g4, g5⟩ := g
    have F := (wdF g1).F
    have lf := qk4 w.r w.s.1 p
    have ml := F.ml; have t := T.m
    refine ⟨?_, T.bi, T.rain⟩
    show isum (w.s.2.1.set (qk3 w.r w.s.1 p).toNat (w.s.2.1.getD (qk3 w.r w.s.1 p).toNat 0 + m)) ≤ _
    rw [qjq _ _ _ (by omega)]
    omega
theorem qam {w : Wd} {K : Nat} (G : Good w K) (hK : K ≤ 10000) (n : Nat) (hn : n ≤ 100) : adv w n = advN n w ∧ qal w n = true := by
  have e : qal w n = true := by unfold qal; rw [G.ok hK, qjf.2 (by omega)]; rfl
  exact ⟨by unfold adv; rw [e]; rfl, e⟩
end Go.Proofs.YtjfjniebmdafeaaGreatDoor
end
section
namespace Go.Proofs.YtjfjniebmdafeaaGreatDoor
open Go.Ev
set_option maxRecDepth 20000
theorem qms : ∀ (m t : List Int) (x y : Int), m.length = t.length → qmo m t = true → 0 ≤ x → x ≤ 10000000 → 0 ≤ y → y ≤ 1000 * x → qmo (m ++ [x]) (t ++ [y]) = true
  | [], [], x, y, _, _, h1, h2, h3, h4 => by simp only [List.nil_append, qmo, Bool.and_eq_true, qjf]; exact ⟨⟨h1, h2⟩, ⟨h3, h4⟩, trivial⟩
  | [], _ :: _, _, _, h, _, _, _, _, _ => by simp at h
  | _ :: _, [], _, _, h, _, _, _, _, _ => by simp at h
  | a :: m, b :: t, x, y, hl, h, h1, h2, h3, h4 => by
    simp only [List.cons_append, qmo, Bool.and_eq_true] at h ⊢
    exact ⟨h.1, h.2.1, qms m t x y (by simpa using hl) h.2.2 h1 h2 h3 h4⟩
theorem qax : ∀ (a : List Int) (x : Int), qav a = true → 0 ≤ x → x ≤ 1000000 → qav (a ++ [x]) = true
  | [], x, _, h1, h2 => by simp only [List.nil_append, qav, Bool.and_eq_true, qjf]; exact ⟨⟨h1, h2⟩, trivial⟩
  | a :: l, x, h, h1, h2 => by
    simp only [List.cons_append, qav, Bool.and_eq_true] at h ⊢
    exact ⟨h.1, qax l x h.2 h1 h2⟩
theorem qme (k : Nat) (hk : 2000000 ≤ k) (fu : List (Nat × Nat)) (v0 : Bool) (v1 : List Int) (v2 v3 : Int) (x0 : Int) (hx : 1 ≤ x0) (hx' : x0 ≤ 20000) (z : Bool) (l : List Int) (hl : (l.length : Int) ≤ 1048576) (z6 : Bool) (l7 : List Cell) (z8 : Bool) (l9 : List Int) (z10 : Bool) (l11 : List Int) (z12 : Bool) (l13 : List Int) (x14 : Int) (c : List Cell) (hc : 1 ≤ c.length) (hc' : c.length ≤ 128) (x17 : Int) (bd : List Int) (r : Int) :
    ∀ (n t : Nat) (i h : Int) (zm zt : Bool) (m tr : List Int), t ≤ c.length → c.length - t < n → 0 ≤ i → i ≤ l.length → (zm = false ∨ t = 0) → (zt = false ∨ t = 0) → m.length = t → tr.length = t → qmo m tr = true → isum m ≤ 20000 * t →
    ∃ (m' t' : List Int) (i' h' : Int), lp (k + 10) spec_l07State [(.ptr true [(.arr false (v0) (.ints IntKind.u8 (v1))), (.int .i64 (v2)), (.int .i64 (v3))])] fu 9 (n) (qo7 x0 (t : Int) z l i h z6 l7 z8 l9 z10 l11 z12 l13 x14 false c x17 zm m zt tr false bd r) = some [.agg [.int .i64 (r), .arr true (false) (.r3 (c)), .arr true (false) (.ints .i64 (m')), .arr true (false) (.ints .i64 (t')), .arr true (false) (.ints .i64 (bd))], .ptr true [.arr false (z) (.ints .u8 (l)), .int .i64 (i'), .int .i64 (h')]] ∧ (0 ≤ i' ∧ i' ≤ l.length) ∧ m'.length = c.length ∧ t'.length = c.length ∧ qmo m' t' = true ∧ isum m' ≤ 2560000
  | 0, t, i, h, zm, zt, m, tr, ht, hn, h0, h1, hzm, hzt, lm, lt, ok, sm => by omega
  | n + 1, t, i, h, zm, zt, m, tr, ht, hn, h0, h1, hzm, hzt, lm, lt, ok, sm => by
    have e := qkq (k + 10) n fu v0 v1 v2 v3 x0 (t : Int) z l i h z6 l7 z8 l9 z10 l11 z12 l13 x14 false c x17 zm m zt tr false bd r
    by_cases g : t < c.length
    · have la : ∀ x : Int, (m ++ [x]).length = t + 1 := fun x => by rw [List.length_append, lm]; rfl
      have lb : ∀ x : Int, (tr ++ [x]).length = t + 1 := fun x => by rw [List.length_append, lt]; rfl
      have step : ∀ (x y : Int), 0 ≤ x → x < 20000 → 0 ≤ y → y ≤ 1000 * x → ∀ (i2 k2 : Int), 0 ≤ i2 → i2 ≤ l.length → _ := fun x y hx0 hx1 hy0 hy1 i2 k2 hi0 hi1 =>
        qme k hk fu v0 v1 v2 v3 x0 hx hx' z l hl z6 l7 z8 l9 z10 l11 z12 l13 x14 c hc hc' x17 bd r n (t + 1) i2 k2 false false (m ++ [x]) (tr ++ [y]) (by omega) (by omega) hi0 hi1 (Or.inl rfl) (Or.inl rfl) (la x) (lb y) (qms m tr x y (by omega) ok (by omega) (by omega) hy0 hy1) (by rw [qjk]; simp only [isum]; omega)
      obtain ⟨u1, i1, k1, e1, b1, q1, r1⟩ := qc8 (k + 8) (by omega) z l i h x0 hl h0 h1 hx (by omega)
      obtain ⟨u2, i2, k2, e2, q2, r2⟩ := qdb (k + 7) (by omega) z l i1 k1 6 hl q1 r1 (by omega) (by omega)
      cases u2
      · obtain ⟨u3, i3, k3, e3, b3, q3, r3⟩ := qc8 (k + 8) (by omega) z l i2 k2 200 hl q2 r2 (by omega) (by omega)
        obtain ⟨u4, i4, k4, e4, b4, q4, r4⟩ := qc8 (k + 8) (by omega) z l i3 k3 (u1 + 1) hl q3 r3 (by omega) (by omega)
        have p0 : 0 ≤ u1 * u3 := Int.mul_nonneg b1.1 b3.1
        have p1 : u1 * u3 ≤ u1 * 199 := Int.mul_le_mul_of_nonneg_left (by omega) b1.1
        obtain ⟨m', t', i', h', e5, p5⟩ := step u1 (u1 * u3 + u4) (by omega) (by omega) (by omega) (by omega) i4 k4 q4 r4
        simp (disch := omega) only [qay, nth0, nth1, nth2, nth3, bit, qef, qeg, qer, qew, qex, qey, qez, qe0, qe1, qe2, qeh, qei, qej, qek, qel, qem, qen, qeo, qep, qeq, qes, qet, qeu, qev, qrf, qre, qrg, qnd, qn3, qn5, qjh, qa5, qqo, nI, qfb, qe9, Bool.not_true, Bool.not_false, Bool.and_true, Bool.true_and, Bool.and_false, Bool.false_and, Bool.or_true, Bool.true_or, Bool.or_false, Bool.false_or, beq_self_eq_true, dTT, dFF, dT, dF, bigI, big0, qnc, qr4, qr5, List.length_set, List.length_replicate, Int.toNat_natCast, qed, qee, imax, imin, e1, qn0, qn1, qn2, e2, e3, e4, la, lb, e5] at e
        exact ⟨m', t', i', h', e, p5⟩
      · obtain ⟨u0, i0, k0, e0, b0, q0, r0⟩ := qc8 (k + 8) (by omega) z l i2 k2 3 hl q2 r2 (by omega) (by omega)
        obtain ⟨u3, i3, k3, e3, b3, q3, r3⟩ := qc8 (k + 8) (by omega) z l i0 k0 200 hl q0 r0 (by omega) (by omega)
        obtain ⟨u4, i4, k4, e4, b4, q4, r4⟩ := qc8 (k + 8) (by omega) z l i3 k3 (u0 + 1) hl q3 r3 (by omega) (by omega)
        have p0 : 0 ≤ u0 * u3 := Int.mul_nonneg b0.1 b3.1
        have p1 : u0 * u3 ≤ u0 * 199 := Int.mul_le_mul_of_nonneg_left (by omega) b0.1
        obtain ⟨m', t', i', h', e5, p5⟩ := step u0 (u0 * u3 + u4) (by omega) (by omega) (by omega) (by omega) i4 k4 q4 r4
        simp (disch := omega) only [qay, nth0, nth1, nth2, nth3, bit, qef, qeg, qer, qew, qex, qey, qez, qe0, qe1, qe2, qeh, qei, qej, qek, qel, qem, qen, qeo, qep, qeq, qes, qet, qeu, qev, qrf, qre, qrg, qnd, qn3, qn5, qjh, qa5, qqo, nI, qfb, qe9, Bool.not_true, Bool.not_false, Bool.and_true, Bool.true_and, Bool.and_false, Bool.false_and, Bool.or_true, Bool.true_or, Bool.or_false, Bool.false_or, beq_self_eq_true, dTT, dFF, dT, dF, bigI, big0, qnc, qr4, qr5, List.length_set, List.length_replicate, Int.toNat_natCast, qed, qee, imax, imin, e1, qn0, qn1, qn2, e2, e0, e3, e4, la, lb, e5] at e
        exact ⟨m', t', i', h', e, p5⟩
    · have : zm = false := by rcases hzm with h | h <;> omega
      subst this
      have : zt = false := by rcases hzt with h | h <;> omega
      subst this
      simp (disch := omega) only [qay, nth0, nth1, nth2, nth3, bit, qef, qeg, qer, qew, qex, qey, qez, qe0, qe1, qe2, qeh, qei, qej, qek, qel, qem, qen, qeo, qep, qeq, qes, qet, qeu, qev, qrf, qre, qrg, qnd, qn3, qn5, qjh, qa5, qqo, nI, qfb, qe9, Bool.not_true, Bool.not_false, Bool.and_true, Bool.true_and, Bool.and_false, Bool.false_and, Bool.or_true, Bool.true_or, Bool.or_false, Bool.false_or, beq_self_eq_true, dTT, dFF, dT, dF, bigI, big0, qnc, qr4, qr5, List.length_set, List.length_replicate, Int.toNat_natCast, qed, qee, imax, imin] at e
      exact ⟨m, tr, i, h, e, ⟨h0, h1⟩, by omega, by omega, ok, by omega⟩
theorem qmd (k : Nat) (hk : 2000000 ≤ k) (fu : List (Nat × Nat)) (v0 : Bool) (v1 : List Int) (v2 v3 : Int) (z : Bool) (l : List Int) (hl : (l.length : Int) ≤ 1048576) (z6 : Bool) (l7 : List Cell) (z8 : Bool) (l9 : List Int) (z10 : Bool) (l11 : List Int) (z12 : Bool) (l13 : List Int) (x14 : Int) (c : List Cell) (R : Nat) (hR : 1 ≤ R) (hR' : R ≤ 3) (hm : qmx R 0 c = true) (hu : unb c < 0) :
    ∀ (n t : Nat) (i h : Int) (zb : Bool) (bd : List Int), t ≤ R → R - t < n → 0 ≤ i → i ≤ l.length → (zb = false ∨ t = 0) → bd.length = t → qav bd = true →
    ∃ (m' t' bd' : List Int) (i' h' : Int), lp (k + 10) spec_l07State [(.ptr true [(.arr false (v0) (.ints IntKind.u8 (v1))), (.int .i64 (v2)), (.int .i64 (v3))])] fu 4 (n) (qo6 (t : Int) z l i h z6 l7 z8 l9 z10 l11 z12 l13 x14 false c (R : Int) true [] true [] zb bd (R : Int)) = some [.agg [.int .i64 ((R : Int)), .arr true (false) (.r3 (c)), .arr true (false) (.ints .i64 (m')), .arr true (false) (.ints .i64 (t')), .arr true (false) (.ints .i64 (bd'))], .ptr true [.arr false (z) (.ints .u8 (l)), .int .i64 (i'), .int .i64 (h')]] ∧ (0 ≤ i' ∧ i' ≤ l.length) ∧ StF (R : Int) c m' t' bd' ∧ isum m' ≤ 2560000
  | 0, t, i, h, zb, bd, ht, hn, h0, h1, hz, lb, ok => by omega
  | n + 1, t, i, h, zb, bd, ht, hn, h0, h1, hz, lb, ok => by
    have e := qkp (k + 10) n fu v0 v1 v2 v3 (t : Int) z l i h z6 l7 z8 l9 z10 l11 z12 l13 x14 false c (R : Int) true [] true [] zb bd (R : Int)
    by_cases g : t < R
    · have la : ∀ x : Int, (bd ++ [x]).length = t + 1 := fun x => by rw [List.length_append, lb]; rfl
      obtain ⟨u1, i1, k1, e1, b1, q1, r1⟩ := qc8 (k + 8) (by omega) z l i h 4 hl h0 h1 (by omega) (by omega)
      obtain ⟨u2, i2, k2, e2, b2, q2, r2⟩ := qc8 (k + 8) (by omega) z l i1 k1 5000 hl q1 r1 (by omega) (by omega)
      have p0 : 0 ≤ u1 * u2 := Int.mul_nonneg b1.1 b2.1
      have p1 : u1 * u2 ≤ u1 * 4999 := Int.mul_le_mul_of_nonneg_left (by omega) b1.1
      obtain ⟨m', t', bd', i', h', e5, p5⟩ := qmd k hk fu v0 v1 v2 v3 z l hl z6 l7 z8 l9 z10 l11 z12 l13 x14 c R hR hR' hm hu n (t + 1) i2 k2 false (bd ++ [u1 * u2]) (by omega) (by omega) q2 r2 (Or.inl rfl) (la _) (qax bd _ ok p0 (by omega))
      simp (disch := omega) only [qay, nth0, nth1, nth2, nth3, bit, qef, qeg, qer, qew, qex, qey, qez, qe0, qe1, qe2, qeh, qei, qej, qek, qel, qem, qen, qeo, qep, qeq, qes, qet, qeu, qev, qrf, qre, qrg, qnd, qn3, qn5, qjh, qa5, qqo, nI, qfb, qe9, Bool.not_true, Bool.not_false, Bool.and_true, Bool.true_and, Bool.and_false, Bool.false_and, Bool.or_true, Bool.true_or, Bool.or_false, Bool.false_or, beq_self_eq_true, dTT, dFF, dT, dF, bigI, big0, qnc, qr4, qr5, List.length_set, List.length_replicate, Int.toNat_natCast, qed, qee, imax, imin, e1, qn0, qn1, qn2, e2, la, e5] at e
      exact ⟨m', t', bd', i', h', e, p5⟩
    · have : zb = false := by rcases hz with h | h <;> omega
      subst this
      obtain ⟨u1, i1, k1, e1, b1, q1, r1⟩ := qc8 (k + 8) (by omega) z l i h 20000 hl h0 h1 (by omega) (by omega)
      have ml := qm2 hm
      obtain ⟨m', t', i', h', e5, p5, lm, lt, mk, sm⟩ := qme k hk fu v0 v1 v2 v3 (1 + u1) (by omega) (by omega) z l hl z6 l7 z8 l9 z10 l11 z12 l13 x14 c ml.1 ml.2 (R : Int) bd (R : Int) (k + 10) 0 i1 k1 true true [] [] (by omega) (by omega) q1 r1 (Or.inr rfl) (Or.inr rfl) rfl rfl rfl (by simp [isum])
      rw [show ((0 : Nat) : Int) = 0 from rfl] at e5
      simp (disch := omega) only [qay, nth0, nth1, nth2, nth3, bit, qef, qeg, qer, qew, qex, qey, qez, qe0, qe1, qe2, qeh, qei, qej, qek, qel, qem, qen, qeo, qep, qeq, qes, qet, qeu, qev, qrf, qre, qrg, qnd, qn3, qn5, qjh, qa5, qqo, nI, qfb, qe9, Bool.not_true, Bool.not_false, Bool.and_true, Bool.true_and, Bool.and_false, Bool.false_and, Bool.or_true, Bool.true_or, Bool.or_false, Bool.false_or, beq_self_eq_true, dTT, dFF, dT, dF, bigI, big0, qnc, qr4, qr5, List.length_set, List.length_replicate, Int.toNat_natCast, qed, qee, imax, imin, e1, qn0, qn1, qn2, e5] at e
      exact ⟨m', t', bd, i', h', e, p5, ⟨hm, hu, lm, lt, by omega, mk, ok, by omega⟩, sm⟩
theorem qdo (k : Nat) (hk : 2000000 ≤ k) (z : Bool) (l : List Int) (i h : Int) (hl : (l.length : Int) ≤ 1048576) (h0 : 0 ≤ i) (h1 : i ≤ l.length) :
    ∃ (r : Int) (c : List Cell) (m t b : List Int) (i' h' : Int), go (k + 11) spec_l07State [.ptr true [.arr false (z) (.ints .u8 (l)), .int .i64 (i), .int .i64 (h)]] = some [.agg [.int .i64 (r), .arr true (false) (.r3 (c)), .arr true (false) (.ints .i64 (m)), .arr true (false) (.ints .i64 (t)), .arr true (false) (.ints .i64 (b))], .ptr true [.arr false (z) (.ints .u8 (l)), .int .i64 (i'), .int .i64 (h')]] ∧ (0 ≤ i' ∧ i' ≤ l.length) ∧ StF r c m t b ∧ r ≤ 3 ∧ isum m ≤ 2560000 := by
  have e := qh1 (k + 10) z l i h
  obtain ⟨r, c, i1, k1, e1, q1, hm, hu, r3⟩ := qdj k (by omega) z l i h hl h0 h1
  have rr := (qm1 _ _ _ hm).1
  obtain ⟨R, rfl⟩ : ∃ R : Nat, r = (R : Int) := ⟨r.toNat, by omega⟩
  obtain ⟨m', t', bd', i', h', e5, p5, S, sm⟩ := qmd k hk [] z l i h z l hl true [] true [] true [] true [] 0 c R (by omega) (by omega) hm hu (k + 10) 0 i1 k1 true [] (by omega) (by omega) q1.1 q1.2 (Or.inr rfl) rfl rfl
  rw [show ((0 : Nat) : Int) = 0 from rfl] at e5
  simp (disch := omega) only [qay, nth0, nth1, nth2, nth3, bit, qef, qeg, qer, qew, qex, qey, qez, qe0, qe1, qe2, qeh, qei, qej, qek, qel, qem, qen, qeo, qep, qeq, qes, qet, qeu, qev, qrf, qre, qrg, qnd, qn3, qn5, qjh, qa5, qqo, nI, qfb, qe9, Bool.not_true, Bool.not_false, Bool.and_true, Bool.true_and, Bool.and_false, Bool.false_and, Bool.or_true, Bool.true_or, Bool.or_false, Bool.false_or, beq_self_eq_true, dTT, dFF, dT, dF, bigI, big0, qnc, qr4, qr5, List.length_set, List.length_replicate, Int.toNat_natCast, qed, qee, imax, imin, e1, qn0, qn1, qn2, e5] at e
  exact ⟨_, _, _, _, _, _, _, e, p5, S, r3, sm⟩
end Go.Proofs.YtjfjniebmdafeaaGreatDoor
end
section
namespace Go.Proofs.YtjfjniebmdafeaaGreatDoor
open Go.Ev
set_option maxRecDepth 20000
theorem qna {u v B : Int} (hu : 0 ≤ u ∧ u < 2) (hv : 0 ≤ v ∧ v < B) : 0 ≤ u * v ∧ u * v < B := by
  have h1 : 0 ≤ u * v := Int.mul_nonneg hu.1 hv.1
  have h2 : u * v ≤ 1 * v := Int.mul_le_mul_of_nonneg_right (by omega) hv.1
  omega
theorem qdx (k : Nat) (hk : 2000000 ≤ k) (z : Bool) (l : List Int) (i h : Int) (hl : (l.length : Int) ≤ 1048576) (h0 : 0 ≤ i) (h1 : i ≤ l.length) :
    ∃ (b0 b1 b2 i' h' : Int), go (k + 3) spec_l13Border [.ptr true [.arr false (z) (.ints .u8 (l)), .int .i64 (i), .int .i64 (h)]] = some [.agg [.int .i64 b0, .int .i64 b1, .int .i64 b2], .ptr true [.arr false (z) (.ints .u8 (l)), .int .i64 (i'), .int .i64 (h')]] ∧ (0 ≤ i' ∧ i' ≤ l.length) ∧ qa6 b0 b1 b2 = true ∧ b0 ≤ 3000 := by
  have e := qic (k + 2) z l i h
  obtain ⟨u1, i1, k1, e1, b1, q1, r1⟩ := qc8 k (by omega) z l i h 2 hl h0 h1 (by omega) (by omega)
  obtain ⟨u2, i2, k2, e2, b2, q2, r2⟩ := qc8 k (by omega) z l i1 k1 3000 hl q1 r1 (by omega) (by omega)
  obtain ⟨u3, i3, k3, e3, b3, q3, r3⟩ := qc8 k (by omega) z l i2 k2 1001 hl q2 r2 (by omega) (by omega)
  obtain ⟨u4, i4, k4, e4, b4, q4, r4⟩ := qc8 k (by omega) z l i3 k3 2 hl q3 r3 (by omega) (by omega)
  obtain ⟨u5, i5, k5, e5, b5, q5, r5⟩ := qc8 k (by omega) z l i4 k4 251 hl q4 r4 (by omega) (by omega)
  have m1 := qna b1 b2; have m2 := qna b4 b5
  simp (disch := omega) only [qay, nth0, nth1, nth2, nth3, bit, qef, qeg, qer, qew, qex, qey, qez, qe0, qe1, qe2, qeh, qei, qej, qek, qel, qem, qen, qeo, qep, qeq, qes, qet, qeu, qev, qrf, qre, qrg, qnd, qn3, qn5, qjh, qa5, qqo, nI, qfb, qe9, Bool.not_true, Bool.not_false, Bool.and_true, Bool.true_and, Bool.and_false, Bool.false_and, Bool.or_true, Bool.true_or, Bool.or_false, Bool.false_or, beq_self_eq_true, dTT, dFF, dT, dF, bigI, big0, qnc, qr4, qr5, List.length_set, List.length_replicate, Int.toNat_natCast, qed, qee, imax, imin, e1, e2, e3, e4, e5, qn0, qn1, qn2] at e
  exact ⟨_, _, _, _, _, e, ⟨q5, r5⟩, by simp only [qa6, Bool.and_eq_true, qjf]; omega, by omega⟩
structure PlD (p : Pl) : Prop where
  ok : qny p.bi p.bs p.bo p.rain p.loss p.dec p.high p.low p.every = true
  bi : p.bi ≤ 3000
  rain : p.rain ≤ 900
theorem qd2 (k : Nat) (hk : 2000000 ≤ k) (z : Bool) (l : List Int) (i h : Int) (hl : (l.length : Int) ≤ 1048576) (h0 : 0 ≤ i) (h1 : i ≤ l.length) :
    ∃ (p : Pl) (i' h' : Int), go (k + 4) spec_l18Plan [.ptr true [.arr false (z) (.ints .u8 (l)), .int .i64 (i), .int .i64 (h)]] = some [plD p, .ptr true [.arr false (z) (.ints .u8 (l)), .int .i64 (i'), .int .i64 (h')]] ∧ (0 ≤ i' ∧ i' ≤ l.length) ∧ PlD p := by
  have e := qil (k + 3) z l i h
  obtain ⟨c0, c1, c2, i1, k1, e1, ⟨q1, r1⟩, hb, hc⟩ := qdx k (by omega) z l i h hl h0 h1
  obtain ⟨u2, i2, k2, e2, b2, q2, r2⟩ := qc8 (k + 1) (by omega) z l i1 k1 2 hl q1 r1 (by omega) (by omega)
  obtain ⟨u3, i3, k3, e3, b3, q3, r3⟩ := qc8 (k + 1) (by omega) z l i2 k2 900 hl q2 r2 (by omega) (by omega)
  obtain ⟨u4, i4, k4, e4, b4, q4, r4⟩ := qc8 (k + 1) (by omega) z l i3 k3 2 hl q3 r3 (by omega) (by omega)
  obtain ⟨u5, i5, k5, e5, b5, q5, r5⟩ := qc8 (k + 1) (by omega) z l i4 k4 400 hl q4 r4 (by omega) (by omega)
  obtain ⟨u6, i6, k6, e6, b6, q6, r6⟩ := qc8 (k + 1) (by omega) z l i5 k5 2 hl q5 r5 (by omega) (by omega)
  obtain ⟨u7, i7, k7, e7, b7, q7, r7⟩ := qc8 (k + 1) (by omega) z l i6 k6 200 hl q6 r6 (by omega) (by omega)
  obtain ⟨u8, i8, k8, e8, b8, q8, r8⟩ := qc8 (k + 1) (by omega) z l i7 k7 4000 hl q7 r7 (by omega) (by omega)
  obtain ⟨u9, i9, k9, e9, b9, q9, r9⟩ := qc8 (k + 1) (by omega) z l i8 k8 300 hl q8 r8 (by omega) (by omega)
  obtain ⟨u10, i10, k10, e10, b10, q10, r10⟩ := qc8 (k + 1) (by omega) z l i9 k9 3 hl q9 r9 (by omega) (by omega)
  have m1 := qna b2 b3; have m2 := qna b4 b5; have m3 := qna b6 b7
  simp (disch := omega) only [qay, nth0, nth1, nth2, nth3, bit, qef, qeg, qer, qew, qex, qey, qez, qe0, qe1, qe2, qeh, qei, qej, qek, qel, qem, qen, qeo, qep, qeq, qes, qet, qeu, qev, qrf, qre, qrg, qnd, qn3, qn5, qjh, qa5, qqo, nI, qfb, qe9, Bool.not_true, Bool.not_false, Bool.and_true, Bool.true_and, Bool.and_false, Bool.false_and, Bool.or_true, Bool.true_or, Bool.or_false, Bool.false_or, beq_self_eq_true, dTT, dFF, dT, dF, bigI, big0, qnc, qr4, qr5, List.length_set, List.length_replicate, Int.toNat_natCast, qed, qee, imax, imin, e1, e2, e3, e4, e5, e6, e7, e8, e9, e10, qn0, qn1, qn2] at e
  refine ⟨⟨c0, c1, c2, u2 * u3, u4 * u5, u6 * u7, 200 + u8, u9, u10⟩, _, _, e, ⟨q10, r10⟩, ⟨?_, hc, by show u2 * u3 ≤ 900; omega⟩⟩
  simp only [qny, Bool.and_eq_true, qjf]; exact ⟨hb, by omega, by omega, by omega, by omega, by omega, by omega⟩
def nwW (r : Int) (l : List Cell) (m t b : List Int) (p : Pl) : Wd := ⟨r, (l, m, t), b, p, 0, ⟨0, 0, 0, 0⟩, isum m, isum t⟩
theorem z0 : (0 : Int) ≤ 0 ∧ (0 : Int) ≤ ((0 : Nat) : Int) := by decide
theorem z0' : (0 : Int) ≤ 0 ∧ (0 : Int) ≤ 40000000000 * ((0 : Nat) : Int) := by decide
theorem qnf {r : Int} {l : List Cell} {m t b : List Int} (F : StF r l m t b) {p : Pl} (P : PlD p) : Good (nwW r l m t b p) 0 :=
  ⟨F, P.ok, z0, ⟨z0', z0', z0', z0'⟩, by show isum m - 0 + 0 = isum m; omega, by show isum t - 0 + 0 = isum t; omega⟩
theorem qc3 (k : Nat) (hk : 2000000 ≤ k) (r : Int) (l : List Cell) (m t b : List Int) (F : StF r l m t b) (p : Pl) (P : PlD p) :
    go (k + 8) spec_WorldNew [.agg [.int .i64 (r), .arr false (false) (.r3 (l)), .arr false (false) (.ints .i64 (m)), .arr false (false) (.ints .i64 (t)), .arr false (false) (.ints .i64 (b))], plD p] = some [wdO (nwW r l m t b p), .bool true] := by
  have := F.len; have := F.bl; have := F.rr
  have e := qc2 k hk r l m t b p.bi p.bs p.bo p.rain p.loss p.dec p.high p.low p.every (by omega) (by omega)
  rw [stF.2 F, P.ok] at e
  exact e
theorem qmg (k : Nat) (hk : 2000000 ≤ k) (fu : List (Nat × Nat)) (v0 : Bool) (v1 : List Int) (v2 v3 : Int) (z : Bool) (l : List Int) (hl : (l.length : Int) ≤ 1048576) (z5 : Bool) (l6 : List Cell) (z7 : Bool) (l8 : List Int) (z9 : Bool) (l10 : List Int) (z11 : Bool) (l12 : List Int) (x13 x14 x15 x16 x17 x18 x19 x20 x21 x22 x23 x24 x25 x26 x27 x28 x29 : Int) :
    ∀ (n i : Nat) (j h : Int) (w : Wd), i ≤ 2 → 2 - i < n → 0 ≤ j → j ≤ l.length → Good w (2 * i) → Fit w (2560000 + 119100 * i) →
    ∃ (w' : Wd) (j' h' : Int), lp (k + 11) spec_l36World [(.ptr true [(.arr false (v0) (.ints IntKind.u8 (v1))), (.int .i64 (v2)), (.int .i64 (v3))])] fu 3 (n) (qpj (i : Int) z l j h z5 l6 z7 l8 z9 l10 z11 l12 x13 x14 x15 x16 x17 x18 x19 x20 x21 x22 x23 x24 x25 x26 x27 x28 x29 false w.s.1 false w.s.2.1 false w.s.2.2 false w.b w.r w.p.bi w.p.bs w.p.bo w.p.rain w.p.loss w.p.dec w.p.high w.p.low w.p.every w.k w.ld.mi w.ld.mo w.ld.ti w.ld.ou w.f w.g) = some [wdO w', .ptr true [.arr false (z) (.ints .u8 (l)), .int .i64 (j'), .int .i64 (h')]] ∧ Good w' 4 ∧ Fit w' 2800000
  | 0, i, j, h, w, hi, hn, h0, h1, G, T => by omega
  | n + 1, i, j, h, w, hi, hn, h0, h1, G, T => by
    have e := qk2 (k + 11) n fu v0 v1 v2 v3 (i : Int) z l j h z5 l6 z7 l8 z9 l10 z11 l12 x13 x14 x15 x16 x17 x18 x19 x20 x21 x22 x23 x24 x25 x26 x27 x28 x29 false w.s.1 false w.s.2.1 false w.s.2.2 false w.b w.r w.p.bi w.p.bs w.p.bo w.p.rain w.p.loss w.p.dec w.p.high w.p.low w.p.every w.k w.ld.mi w.ld.mo w.ld.ti w.ld.ou w.f w.g
    obtain ⟨u1, i1, k1, e1, b1, q1, r1⟩ := qc8 (k + 9) (by omega) z l j h 3 hl h0 h1 (by omega) (by omega)
    by_cases g : (i : Int) < u1
    · have S := G.F.sml
      obtain ⟨u2, i2, k2, e2, b2, q2, r2⟩ := qc8 (k + 9) (by omega) z l i1 k1 40 hl q1 r1 (by omega) (by omega)
      obtain ⟨u3, i3, k3, e3, b3, q3, r3⟩ := qc8 (k + 9) (by omega) z l i2 k2 900 hl q2 r2 (by omega) (by omega)
      obtain ⟨u4, i4, k4, e4, b4, q4, r4⟩ := qc8 (k + 9) (by omega) z l i3 k3 1001 hl q3 r3 (by omega) (by omega)
      have eA := qca (k + 2) (by omega) w 1 S
      have A := qam G (by omega) 1 (by omega)
      have GA := qaj 1 w _ G
      have TA := qak 1 w _ _ G T
      rw [show ((1 : Nat) : Int) = 1 from rfl] at A
      rw [A.1] at eA
      have eD := qch (k + 2) (by omega) (advN 1 w) u2 (1 + u3) u4 GA.F.sml
      have GD := GA.drp u2 (1 + u3) u4
      have TD : Fit (drp (advN 1 w) u2 (1 + u3) u4) (2560000 + 119100 * (i + 1 : Nat)) := qfq TA (by omega)
      obtain ⟨w', j', h', e5, p5⟩ := qmg k hk fu v0 v1 v2 v3 z l hl z5 l6 z7 l8 z9 l10 z11 l12 x13 x14 x15 x16 x17 x18 x19 x20 x21 x22 x23 x24 x25 x26 x27 x28 x29 n (i + 1) i4 k4 (drp (advN 1 w) u2 (1 + u3) u4) (by omega) (by omega) q4 r4 (GD.mono (by omega)) TD
      simp (disch := omega) only [qay, nth0, nth1, nth2, nth3, bit, qef, qeg, qer, qew, qex, qey, qez, qe0, qe1, qe2, qeh, qei, qej, qek, qel, qem, qen, qeo, qep, qeq, qes, qet, qeu, qev, qrf, qre, qrg, qnd, qn3, qn5, qjh, qa5, qqo, nI, qfb, qe9, Bool.not_true, Bool.not_false, Bool.and_true, Bool.true_and, Bool.and_false, Bool.false_and, Bool.or_true, Bool.true_or, Bool.or_false, Bool.false_or, beq_self_eq_true, dTT, dFF, dT, dF, bigI, big0, qnc, qr4, qr5, List.length_set, List.length_replicate, Int.toNat_natCast, qed, qee, imax, imin, e1, qn0, qn1, qn2, eA, e2, e3, e4, eD, e5] at e
      exact ⟨w', j', h', e, p5⟩
    · simp (disch := omega) only [qay, nth0, nth1, nth2, nth3, bit, qef, qeg, qer, qew, qex, qey, qez, qe0, qe1, qe2, qeh, qei, qej, qek, qel, qem, qen, qeo, qep, qeq, qes, qet, qeu, qev, qrf, qre, qrg, qnd, qn3, qn5, qjh, qa5, qqo, nI, qfb, qe9, Bool.not_true, Bool.not_false, Bool.and_true, Bool.true_and, Bool.and_false, Bool.false_and, Bool.or_true, Bool.true_or, Bool.or_false, Bool.false_or, beq_self_eq_true, dTT, dFF, dT, dF, bigI, big0, qnc, qr4, qr5, List.length_set, List.length_replicate, Int.toNat_natCast, qed, qee, imax, imin, e1, qn0, qn1, qn2] at e
      exact ⟨w, _, _, e, G.mono (by omega), ⟨by have := T.m; omega, T.bi, T.rain⟩⟩
theorem qd6 (k : Nat) (hk : 2000000 ≤ k) (z : Bool) (l : List Int) (i h : Int) (hl : (l.length : Int) ≤ 1048576) (h0 : 0 ≤ i) (h1 : i ≤ l.length) :
    ∃ (w : Wd) (i' h' : Int), go (k + 12) spec_l36World [.ptr true [.arr false (z) (.ints .u8 (l)), .int .i64 (i), .int .i64 (h)]] = some [wdO w, .ptr true [.arr false (z) (.ints .u8 (l)), .int .i64 (i'), .int .i64 (h')]] ∧ Good w 4 ∧ Fit w 2800000 := by
  have e := qio (k + 11) z l i h
  obtain ⟨r, c, m, t, b, i1, k1, e1, q1, F, r3, sm⟩ := qdo k (by omega) z l i h hl h0 h1
  obtain ⟨p, i2, k2, e2, q2, P⟩ := qd2 (k + 7) (by omega) z l i1 k1 hl q1.1 q1.2
  have eN := qc3 (k + 3) (by omega) r c m t b F p P
  obtain ⟨w', j', h', e5, p5⟩ := qmg k hk [] z l i h z l hl true [] true [] true [] true [] 0 0 0 0 0 0 0 0 0 0 0 0 0 0 0 0 0 (k + 11) 0 i2 k2 (nwW r c m t b p) (by omega) (by omega) q2.1 q2.2 (qnf F P) ⟨by show isum m ≤ _; omega, P.bi, P.rain⟩
  rw [show ((0 : Nat) : Int) = 0 from rfl] at e5
  unfold nwW at e5 eN
  simp (disch := omega) only [qay, nth0, nth1, nth2, nth3, bit, qef, qeg, qer, qew, qex, qey, qez, qe0, qe1, qe2, qeh, qei, qej, qek, qel, qem, qen, qeo, qep, qeq, qes, qet, qeu, qev, qrf, qre, qrg, qnd, qn3, qn5, qjh, qa5, qqo, nI, qfb, qe9, Bool.not_true, Bool.not_false, Bool.and_true, Bool.true_and, Bool.and_false, Bool.false_and, Bool.or_true, Bool.true_or, Bool.or_false, Bool.false_or, beq_self_eq_true, dTT, dFF, dT, dF, bigI, big0, qnc, qr4, qr5, List.length_set, List.length_replicate, Int.toNat_natCast, qed, qee, imax, imin, e1, qn0, qn1, qn2, e2, eN, e5] at e
  exact ⟨w', j', h', e, p5⟩
theorem ql0 (k : Nat) (hk : 2000000 ≤ k) (fu : List (Nat × Nat)) (z : Bool) (l : List Int) (hl : (l.length : Int) ≤ 1048576) (z4 : Bool) (l5 : List Cell) (z6 : Bool) (l7 : List Int) (z8 : Bool) (l9 : List Int) (z10 : Bool) (l11 : List Int) (x12 x13 x14 x15 x16 x17 x18 x19 x20 x21 x22 x23 x24 x25 x26 x27 x28 : Int) :
    ∀ (n t : Nat) (h : Int), t ≤ l.length → l.length - t < n →
    ∃ w : Wd, lp (k + 12) spec_DrawWorld [] fu 2800003 (n) (qow h (t : Int) z l z4 l5 z6 l7 z8 l9 z10 l11 x12 x13 x14 x15 x16 x17 x18 x19 x20 x21 x22 x23 x24 x25 x26 x27 x28) = some [wdO w] ∧ Good w 4 ∧ Fit w 2800000
  | 0, t, h, ht, hn => by omega
  | n + 1, t, h, ht, hn => by
    have e := qkf (k + 12) n fu h (t : Int) z l z4 l5 z6 l7 z8 l9 z10 l11 x12 x13 x14 x15 x16 x17 x18 x19 x20 x21 x22 x23 x24 x25 x26 x27 x28
    obtain ⟨w, i1, h1, e1, p1⟩ := qd6 k (by omega) z l 0 h hl (by omega) (by omega)
    by_cases g : t < l.length
    · by_cases g2 : (t : Int) < 4000
      · simp (disch := omega) only [qay, nth0, nth1, nth2, nth3, bit, qef, qeg, qer, qew, qex, qey, qez, qe0, qe1, qe2, qeh, qei, qej, qek, qel, qem, qen, qeo, qep, qeq, qes, qet, qeu, qev, qrf, qre, qrg, qnd, qn3, qn5, qjh, qa5, qqo, nI, qfb, qe9, Bool.not_true, Bool.not_false, Bool.and_true, Bool.true_and, Bool.and_false, Bool.false_and, Bool.or_true, Bool.true_or, Bool.or_false, Bool.false_or, beq_self_eq_true, dTT, dFF, dT, dF, bigI, big0, qnc, qr4, qr5, List.length_set, List.length_replicate, Int.toNat_natCast, qed, qee, imax, imin] at e
        obtain ⟨w, e3, p3⟩ := ql0 k hk fu z l hl z4 l5 z6 l7 z8 l9 z10 l11 x12 x13 x14 x15 x16 x17 x18 x19 x20 x21 x22 x23 x24 x25 x26 x27 x28 n (t + 1) _ (by omega) (by omega)
        exact ⟨w, e.trans e3, p3⟩
      · simp (disch := omega) only [qay, nth0, nth1, nth2, nth3, bit, qef, qeg, qer, qew, qex, qey, qez, qe0, qe1, qe2, qeh, qei, qej, qek, qel, qem, qen, qeo, qep, qeq, qes, qet, qeu, qev, qrf, qre, qrg, qnd, qn3, qn5, qjh, qa5, qqo, nI, qfb, qe9, Bool.not_true, Bool.not_false, Bool.and_true, Bool.true_and, Bool.and_false, Bool.false_and, Bool.or_true, Bool.true_or, Bool.or_false, Bool.false_or, beq_self_eq_true, dTT, dFF, dT, dF, bigI, big0, qnc, qr4, qr5, List.length_set, List.length_replicate, Int.toNat_natCast, qed, qee, imax, imin, e1, qn0, qn1, qn2] at e
        exact ⟨w, e, p1⟩
    · simp (disch := omega) only [qay, nth0, nth1, nth2, nth3, bit, qef, qeg, qer, qew, qex, qey, qez, qe0, qe1, qe2, qeh, qei, qej, qek, qel, qem, qen, qeo, qep, qeq, qes, qet, qeu, qev, qrf, qre, qrg, qnd, qn3, qn5, qjh, qa5, qqo, nI, qfb, qe9, Bool.not_true, Bool.not_false, Bool.and_true, Bool.true_and, Bool.and_false, Bool.false_and, Bool.or_true, Bool.true_or, Bool.or_false, Bool.false_or, beq_self_eq_true, dTT, dFF, dT, dF, bigI, big0, qnc, qr4, qr5, List.length_set, List.length_replicate, Int.toNat_natCast, qed, qee, imax, imin, e1, qn0, qn1, qn2] at e
      exact ⟨w, e, p1⟩
theorem qcf (k : Nat) (hk : 2000000 ≤ k) (z : Bool) (l : List Int) (hl : (l.length : Int) ≤ 1048576) :
    ∃ w : Wd, go (k + 13) spec_DrawWorld [.arr false z (.ints .u8 l)] = some [wdO w] ∧ Good w 4 ∧ Fit w 2800000 := by
  have e := qgy (k + 12) z l
  obtain ⟨w, e3, p3⟩ := ql0 k hk [] z l hl true [] true [] true [] true [] 0 0 0 0 0 0 0 0 0 0 0 0 0 0 0 0 0 (k + 12) 0 (IntKind.wrap .i64 (98231 + nI l.length)) (by omega) (by omega)
  rw [show ((0 : Nat) : Int) = 0 from rfl] at e3
  exact ⟨w, e.trans e3, p3⟩
end Go.Proofs.YtjfjniebmdafeaaGreatDoor
end
section
namespace Go.Proofs.YtjfjniebmdafeaaGreatDoor
open Go.Ev
def qom (x0 x1 x2 x3 x4 x5 : Int) (z6 : Bool) (l7 : List (Int × Int × Int)) (z8 : Bool) (l9 : List Int) (z10 : Bool) (l11 : List Int) (z12 : Bool) (l13 : List Int) (x14 : Int) (z15 : Bool) (l16 : List Int) : St := ⟨fill 40 [(1, (.int .i64 (x0))), (2, (.ptr 4 (0) (0))), (5, (.sl 5 none)), (8, (.int IntKind.u8 (x1))), (15, (.sl 0 none)), (16, (.int .i64 (x2))), (17, (.int .i64 (x3))), (29, (.int .i64 (x4))), (30, (.int .i64 (x5)))], [], [(.arr false (z6) (.r3 (l7))), (.arr false (z8) (.ints .i64 (l9))), (.arr false (z10) (.ints .i64 (l11))), (.arr false (z12) (.ints .i64 (l13))), (.box true [(.int .i64 (x14)), (.sl 0 none), (.sl 1 none), (.sl 2 none), (.sl 3 none)]), (.arr true (z15) (.ints IntKind.u8 (l16)))]⟩
def qon (x0 x1 x2 : Int) (z3 : Bool) (l4 : List (Int × Int × Int)) (z5 : Bool) (l6 : List Int) (z7 : Bool) (l8 : List Int) (z9 : Bool) (l10 : List Int) (x11 : Int) (z12 : Bool) (l13 : List Int) : St := ⟨fill 40 [(1, (.int .i64 (x0))), (2, (.ptr 4 (0) (0))), (5, (.sl 5 none)), (15, (.sl 0 none)), (16, (.int .i64 (x1))), (17, (.int .i64 (x2)))], [], [(.arr false (z3) (.r3 (l4))), (.arr false (z5) (.ints .i64 (l6))), (.arr false (z7) (.ints .i64 (l8))), (.arr false (z9) (.ints .i64 (l10))), (.box true [(.int .i64 (x11)), (.sl 0 none), (.sl 1 none), (.sl 2 none), (.sl 3 none)]), (.arr true (z12) (.ints IntKind.u8 (l13)))]⟩
theorem qft (k : Nat) (a0 : Int) (a1z : Bool) (a1 : List (Int × Int × Int)) (a2z : Bool) (a2 : List Int) (a3z : Bool) (a3 : List Int) (a4z : Bool) (a4 : List Int) (b : Int) : go (k + 1) impl_FormatBars [(.agg [(.int .i64 (a0)), (.arr false (a1z) (.r3 (a1))), (.arr false (a2z) (.ints .i64 (a2))), (.arr false (a3z) (.ints .i64 (a3))), (.arr false (a4z) (.ints .i64 (a4)))]), (.int .i64 (b))] =
 (go k impl_StateOk [(.agg [(.int .i64 (a0)), (.arr false (a1z) (.r3 (a1))), (.arr false (a2z) (.ints .i64 (a2))), (.arr false (a3z) (.ints .i64 (a3))), (.arr false (a4z) (.ints .i64 (a4)))])]).bind fun r0 =>
 cond (!bit (nth r0 0))
 (some [(.str ({ data := #[] }))])
 (lp k impl_FormatBars [] [] 5 k (qon b (nI (List.length a1)) (0 : Int) a1z a1 a2z a2 a3z a3 a4z a4 a0 false ([]))) := by kernel_rfl
theorem qj4 (k n : Nat) (fu : List (Nat × Nat)) (x0 x1 x2 x3 x4 x5 : Int) (z6 : Bool) (l7 : List (Int × Int × Int)) (z8 : Bool) (l9 : List Int) (z10 : Bool) (l11 : List Int) (z12 : Bool) (l13 : List Int) (x14 : Int) (z15 : Bool) (l16 : List Int) : lp k impl_FormatBars [] fu 11 (n + 1) (qom x0 x1 x2 x3 x4 x5 z6 l7 z8 l9 z10 l11 z12 l13 x14 z15 l16) =
 cond (decide (x5 < x4))
 (cond (decide (List.length (l16 ++ [x1]) ≤ bigLen))
 (lp k impl_FormatBars [] fu 11 n (qom x0 x1 x2 x3 x4 (IntKind.wrap .i64 (x5 + (1 : Int))) z6 l7 z8 l9 z10 l11 z12 l13 x14 (z15 && decide (List.length (l16 ++ [x1]) = 0)) (l16 ++ [x1])))
 (none))
 (lp k impl_FormatBars [] fu 5 (fuelOf fu 5) (qon x0 x2 (IntKind.wrap .i64 (x3 + (1 : Int))) z6 l7 z8 l9 z10 l11 z12 l13 x14 z15 l16)) := by kernel_rfl
theorem qj5 (k n : Nat) (fu : List (Nat × Nat)) (x0 x1 x2 : Int) (z3 : Bool) (l4 : List (Int × Int × Int)) (z5 : Bool) (l6 : List Int) (z7 : Bool) (l8 : List Int) (z9 : Bool) (l10 : List Int) (x11 : Int) (z12 : Bool) (l13 : List Int) : lp k impl_FormatBars [] fu 5 (n + 1) (qon x0 x1 x2 z3 l4 z5 l6 z7 l8 z9 l10 x11 z12 l13) =
 cond (decide (x2 < x1))
 (cond (decide ((0 : Int) ≤ x2) && decide (x2 < nI (List.length l4)))
 ((go k impl_State_surface [(.agg [(.int .i64 (x11)), (.arr false (z3) (.r3 (l4))), (.arr false (z5) (.ints .i64 (l6))), (.arr false (z7) (.ints .i64 (l8))), (.arr false (z9) (.ints .i64 (l10)))]), (.int .i64 (x2))]).bind fun r0 =>
 cond (decide (D.toInt (nth r0 0) < x0))
 ((go k impl_WidthOf [(.int .i64 (Prod.fst (Prod.snd (List.getD l4 (Int.toNat x2) zz3))))]).bind fun r1 =>
 lp k impl_FormatBars [] ((5, n) :: fu) 11 k (qom x0 ((46 : Int)) x1 x2 (D.toInt (nth r1 0)) (0 : Int) z3 l4 z5 l6 z7 l8 z9 l10 x11 z12 l13))
 ((go k impl_WidthOf [(.int .i64 (Prod.fst (Prod.snd (List.getD l4 (Int.toNat x2) zz3))))]).bind fun r2 =>
 lp k impl_FormatBars [] ((5, n) :: fu) 11 k (qom x0 ((35 : Int)) x1 x2 (D.toInt (nth r2 0)) (0 : Int) z3 l4 z5 l6 z7 l8 z9 l10 x11 z12 l13)))
 (none))
 (some [(.str (strL l13))]) := by kernel_rfl

end Go.Proofs.YtjfjniebmdafeaaGreatDoor
end
section
namespace Go.Proofs.YtjfjniebmdafeaaGreatDoor
open Go.Ev
theorem qn9 {α : Type} (out : List α) (v : α) (n : Nat) : (out ++ [v]) ++ List.replicate n v = out ++ List.replicate (n + 1) v := by
  rw [List.append_assoc]; rfl
def mark (l : List Cell) (m b : List Int) (h : Int) (i : Nat) : Int := cond (decide (surf l m b i < h)) 46 35
def bars (l : List Cell) (m b : List Int) (h : Int) : Nat → Nat → List Int
  | 0, _ => []
  | n + 1, i => List.replicate (qrw (l.getD i zz3).2.1).toNat (mark l m b h i) ++ bars l m b h n (i + 1)
theorem qlr (k : Nat) (hk : 2000000 ≤ k) (fu : List (Nat × Nat)) (z1 z2 z3 z4 : Bool) (l : List Cell) (m t b : List Int) (r h v L : Int) (i : Nat) (hi : i ≤ 200) (w : Nat) (hw : w ≤ 16) : ∀ (n j : Nat) (out : List Int), j ≤ w → w - j < n → out.length ≤ 100000 + j →
    lp (k + 8) impl_FormatBars [] fu 11 (n) (qom h v L (i : Int) (w : Int) (j : Int) z1 l z2 m z3 t z4 b r false out) = lp (k + 8) impl_FormatBars [] fu 5 (fuelOf fu 5) (qon h L ((i + 1 : Nat) : Int) z1 l z2 m z3 t z4 b r false (out ++ List.replicate (w - j) v))
  | 0, j, out, hj, hn, ho => by omega
  | n + 1, j, out, hj, hn, ho => by
    rw [qj4]
    by_cases g : j < w
    · have e := qlr k hk fu z1 z2 z3 z4 l m t b r h v L i hi w hw n (j + 1) (out ++ [v]) (by omega) (by omega) (by simp; omega)
      rw [qn9, show w - (j + 1) + 1 = w - j by omega] at e
      simp (disch := omega) only [qay, nth0, nth1, nth2, nth3, bit, qef, qeg, qer, qew, qex, qey, qez, qe0, qe1, qe2, qeh, qei, qej, qek, qel, qem, qen, qeo, qep, qeq, qes, qet, qeu, qev, qrf, qre, qrg, qnd, qn3, qn5, qjh, qa5, qqo, nI, qfb, qe9, Bool.not_true, Bool.not_false, Bool.and_true, Bool.true_and, Bool.and_false, Bool.false_and, Bool.or_true, Bool.true_or, Bool.or_false, Bool.false_or, beq_self_eq_true, dTT, dFF, dT, dF, bigI, big0, qnc, qr4, qr5, List.length_set, List.length_replicate, Int.toNat_natCast, qed, qee, imax, imin, List.length_append, List.length_cons, List.length_nil]
      exact e
    · simp (disch := omega) only [qay, nth0, nth1, nth2, nth3, bit, qef, qeg, qer, qew, qex, qey, qez, qe0, qe1, qe2, qeh, qei, qej, qek, qel, qem, qen, qeo, qep, qeq, qes, qet, qeu, qev, qrf, qre, qrg, qnd, qn3, qn5, qjh, qa5, qqo, nI, qfb, qe9, Bool.not_true, Bool.not_false, Bool.and_true, Bool.true_and, Bool.and_false, Bool.false_and, Bool.or_true, Bool.true_or, Bool.or_false, Bool.false_or, beq_self_eq_true, dTT, dFF, dT, dF, bigI, big0, qnc, qr4, qr5, List.length_set, List.length_replicate, Int.toNat_natCast, qed, qee, imax, imin]
      rw [show w - j = 0 by omega]; simp
theorem qls (k : Nat) (hk : 2000000 ≤ k) (z1 z2 z3 z4 : Bool) (l : List Cell) (m t b : List Int) (r h : Int) (F : StF r l m t b) : ∀ (n : Nat) (fu : List (Nat × Nat)) (i : Nat) (out : List Int), i ≤ l.length → l.length - i < n → out.length ≤ 16 * i →
    lp (k + 8) impl_FormatBars [] fu 5 (n) (qon h (l.length : Int) (i : Int) z1 l z2 m z3 t z4 b r false out) = some [.str (strL (out ++ bars l m b h (l.length - i) i))]
  | 0, fu, i, out, hi, hn, ho => by omega
  | n + 1, fu, i, out, hi, hn, ho => by
    have hl := F.len; have hm := F.ml
    rw [qj5]
    by_cases g : i < l.length
    · have hw := qry (l.getD i zz3).2.1
      obtain ⟨w, hw'⟩ : ∃ w : Nat, qrw (l.getD i zz3).2.1 = (w : Int) := ⟨(qrw (l.getD i zz3).2.1).toNat, by omega⟩
      rw [show l.length - i = (l.length - (i + 1)) + 1 by omega, bars, hw', Int.toNat_natCast, ← List.append_assoc]
      have es := qb5 (k + 8 - 1) (by omega) r z1 z2 z3 z4 l m t b F i g
      rw [show k + 8 - 1 + 1 = k + 8 by omega] at es
      obtain ⟨S, hS⟩ : ∃ S, surf l m b i = S := ⟨_, rfl⟩
      rw [hS] at es
      simp (disch := omega) only [nI, dT, dF, qfb, Bool.and_true, Int.toNat_natCast]
      rw [es, qay, nth0, qrf]
      by_cases hd : S < h
      · have hmk : mark l m b h i = 46 := by unfold mark; rw [hS, dT hd]; rfl
        have e := qlr k hk ((5, n) :: fu) z1 z2 z3 z4 l m t b r h 46 (l.length : Int) i (by omega) w (by omega) (k + 8) 0 out (by omega) (by omega) (by omega)
        have e2 := qls k hk z1 z2 z3 z4 l m t b r h F n ((5, n) :: fu) (i + 1) (out ++ List.replicate w 46) (by omega) (by omega) (by simp; omega)
        rw [qi7, Nat.sub_zero] at e
        rw [hmk, dT hd, qfb, qbp _ (by omega), qay, nth0, qrf, hw']
        exact Eq.trans e e2
      · have hmk : mark l m b h i = 35 := by unfold mark; rw [hS, dF hd]; rfl
        have e := qlr k hk ((5, n) :: fu) z1 z2 z3 z4 l m t b r h 35 (l.length : Int) i (by omega) w (by omega) (k + 8) 0 out (by omega) (by omega) (by omega)
        have e2 := qls k hk z1 z2 z3 z4 l m t b r h F n ((5, n) :: fu) (i + 1) (out ++ List.replicate w 35) (by omega) (by omega) (by simp; omega)
        rw [qi7, Nat.sub_zero] at e
        rw [hmk, dF hd, qe9, qbp _ (by omega), qay, nth0, qrf, hw']
        exact Eq.trans e e2
    · simp (disch := omega) only [qay, nth0, nth1, nth2, nth3, bit, qef, qeg, qer, qew, qex, qey, qez, qe0, qe1, qe2, qeh, qei, qej, qek, qel, qem, qen, qeo, qep, qeq, qes, qet, qeu, qev, qrf, qre, qrg, qnd, qn3, qn5, qjh, qa5, qqo, nI, qfb, qe9, Bool.not_true, Bool.not_false, Bool.and_true, Bool.true_and, Bool.and_false, Bool.false_and, Bool.or_true, Bool.true_or, Bool.or_false, Bool.false_or, beq_self_eq_true, dTT, dFF, dT, dF, bigI, big0, qnc, qr4, qr5, List.length_set, List.length_replicate, Int.toNat_natCast, qed, qee, imax, imin]
      rw [show l.length - i = 0 by omega]; simp [bars]
theorem qbb (k : Nat) (hk : 2000000 ≤ k) (a0 : Int) (a1z : Bool) (a1 : List (Int × Int × Int)) (a2z : Bool) (a2 : List Int) (a3z : Bool) (a3 : List Int) (a4z : Bool) (a4 : List Int) (b : Int) (h1 : (a1.length : Int) ≤ 1048576) (h2 : (a4.length : Int) ≤ 1048576) : go (k + 9) impl_FormatBars [(.agg [(.int .i64 (a0)), (.arr false (a1z) (.r3 (a1))), (.arr false (a2z) (.ints .i64 (a2))), (.arr false (a3z) (.ints .i64 (a3))), (.arr false (a4z) (.ints .i64 (a4)))]), (.int .i64 (b))] = some [.str (strL (cond (stOk a0 a1 a2 a3 a4) (bars a1 a2 a4 b a1.length 0) []))] := by
  rw [qft]
  simp (disch := omega) only [qay, nth0, nth1, nth2, nth3, bit, qef, qeg, qer, qew, qex, qey, qez, qe0, qe1, qe2, qeh, qei, qej, qek, qel, qem, qen, qeo, qep, qeq, qes, qet, qeu, qev, qrf, qre, qrg, qnd, qn3, qn5, qjh, qa5, qqo, nI, qfb, qe9, Bool.not_true, Bool.not_false, Bool.and_true, Bool.true_and, Bool.and_false, Bool.false_and, Bool.or_true, Bool.true_or, Bool.or_false, Bool.false_or, beq_self_eq_true, dTT, dFF, dT, dF, bigI, big0, qnc, qr4, qr5, List.length_set, List.length_replicate, Int.toNat_natCast, qed, qee, imax, imin, qbo]
  cases g1 : stOk a0 a1 a2 a3 a4
  · rfl
  have e := qls k hk a1z a2z a3z a4z a1 a2 a3 a4 a0 b (stF.1 g1) (k + 8) [] 0 [] (by omega) (by omega) (by simp)
  simp only [List.nil_append] at e
  simp only [Bool.not_true, qe9, qfb]
  exact e
end Go.Proofs.YtjfjniebmdafeaaGreatDoor
end
section
namespace Go.Proofs.YtjfjniebmdafeaaGreatDoor
open Go.Ev
set_option maxRecDepth 20000
theorem qb9 (k : Nat) (hk : 2000000 ≤ k) (z : Bool) (l : List Int) : go (k + 1) laws_big [.arr false z (.ints .u8 l)] = some [.bool (decide (1048576 < (l.length : Int)))] := by
  rw [qgq]
theorem qcz (k : Nat) (hk : 2000000 ≤ k) (z1 z2 z3 z4 : Bool) (r : Int) (l : List Cell) (m t b : List Int) (F : StF r l m t b) : go (k + 8) spec_TotalMass [.agg [.int .i64 (r), .arr false (z1) (.r3 (l)), .arr false (z2) (.ints .i64 (m)), .arr false (z3) (.ints .i64 (t)), .arr false (z4) (.ints .i64 (b))]] = some [.int .i64 (isum m)] := by
  rw [qhg]
  have := F.len; have := F.ml; have := F.tl; have := F.rr; have := F.bl
  have g := stF.2 F
  have eS := qdp (k + 6) (by omega) z2 m (by omega) F.mmem
  simp (disch := omega) only [qay, nth0, nth1, nth2, nth3, bit, qef, qeg, qer, qew, qex, qey, qez, qe0, qe1, qe2, qeh, qei, qej, qek, qel, qem, qen, qeo, qep, qeq, qes, qet, qeu, qev, qrf, qre, qrg, qnd, qn3, qn5, qjh, qa5, qqo, nI, qfb, qe9, Bool.not_true, Bool.not_false, Bool.and_true, Bool.true_and, Bool.and_false, Bool.false_and, Bool.or_true, Bool.true_or, Bool.or_false, Bool.false_or, beq_self_eq_true, dTT, dFF, dT, dF, bigI, big0, qnc, qr4, qr5, List.length_set, List.length_replicate, Int.toNat_natCast, qed, qee, imax, imin, qcy, g, eS]
def wsum : List Cell → Int
  | [] => 0
  | x :: l => qrw x.2.1 + wsum l
theorem qr7 : ∀ (l : List Cell) (r p : Int), qmx r p l = true → p + wsum l = r * 16
  | [], r, p, h => by
    simp only [qmx, Bool.and_eq_true, decide_eq_true_eq] at h
    simp only [wsum]; omega
  | x :: l, r, p, h => by
    simp only [qmx, Bool.and_eq_true, decide_eq_true_eq] at h
    have ih := qr7 l r _ h.2.2
    have e := h.2.1
    simp only [wsum]; omega
theorem qau {l : List Cell} {m b : List Int} {h v : Int} (hv : ∀ i, mark l m b h i = v) : ∀ (n i : Nat), n + i = l.length → bars l m b h n i = List.replicate (wsum (l.drop i)).toNat v ∧ 0 ≤ wsum (l.drop i)
  | 0, i, e => by
    rw [List.drop_of_length_le (by omega)]; exact ⟨rfl, by simp [wsum]⟩
  | n + 1, i, e => by
    have ih := qau hv n (i + 1) (by omega)
    rw [bars, ih.1, hv i, qfo (show i < l.length by omega) zz3, wsum]
    have w := qry (l.getD i zz3).2.1
    refine ⟨?_, by omega⟩
    rw [List.replicate_append_replicate]
    congr 1; omega
theorem qqn (n v : Nat) : strL (List.replicate n ((v : Nat) : Int)) = ba (List.replicate n (UInt8.ofNat v)) := by
  unfold strL
  rw [List.map_replicate]
  simp [ba]
theorem qql (n v i : Nat) (hi : i < n) (hv : v < 256) : strAt (ba (List.replicate n (UInt8.ofNat v))) i = (v : Int) := by
  unfold strAt
  rw [qap]
  have : (List.replicate n (UInt8.ofNat v)).getD i 0 = UInt8.ofNat v := by simp [hi]
  rw [this]
  simp; omega
theorem qbd (k : Nat) (hk : 2000000 ≤ k) (a b c d : Int) (ha : inI64 a = true) (hb : inI64 b = true) (hc : inI64 c = true) (hd : inI64 d = true) : go (k + 3) impl_FormatLedger [.agg [.int .i64 a, .int .i64 b, .int .i64 c, .int .i64 d]] = some [.str (ba (spacedL (Lib.itoa a) [b, c, d]))] := by
  rw [qfv]
  have fa := qbc k (by omega) a ha
  have fs := qb3 (k + 1) (ba (Lib.itoa a)) false [b, c, d] (by rw [qaq]; have := qjv a ha; omega) (by simp) (by simp [hb, hc, hd])
  simp (disch := omega) only [qay, nth0, nth1, nth2, nth3, bit, qef, qeg, qer, qew, qex, qey, qez, qe0, qe1, qe2, qeh, qei, qej, qek, qel, qem, qen, qeo, qep, qeq, qes, qet, qeu, qev, qrf, qre, qrg, qnd, qn3, qn5, qjh, qa5, qqo, nI, qfb, qe9, Bool.not_true, Bool.not_false, Bool.and_true, Bool.true_and, Bool.and_false, Bool.false_and, Bool.or_true, Bool.true_or, Bool.or_false, Bool.false_or, beq_self_eq_true, dTT, dFF, dT, dF, bigI, big0, qnc, qr4, qr5, List.length_set, List.length_replicate, Int.toNat_natCast, qed, qee, imax, imin, fa, fs]
theorem qju {n : Nat} (h : n < 10) : Lib.itoa (n : Int) = [UInt8.ofNat (48 + n)] := by
  unfold Lib.itoa
  rw [if_neg (by omega), Int.toNat_natCast]
  exact Lib.decDigits_one h
theorem qk9 : spacedL (Lib.itoa 1) [0, 0, -2] = [49, 32, 48, 32, 48, 32, 45, 50] := by
  have e1 : Lib.itoa 1 = [49] := qju (n := 1) (by omega)
  have e0 : Lib.itoa 0 = [48] := qju (n := 0) (by omega)
  have e2 : Lib.itoa (-2) = [45, 50] := by
    unfold Lib.itoa
    rw [if_pos (by omega)]
    have : Lib.decDigits (Int.natAbs (-2)) = [50] := Lib.decDigits_one (i := 2) (by omega)
    rw [this]
  unfold spacedL
  simp only [List.flatMap_cons, List.flatMap_nil, e0, e1, e2]
  rfl
theorem qln (k : Nat) (hk : 2000000 ≤ k) (fu : List (Nat × Nat)) (w : Wd) (F : StF w.r w.s.1 w.s.2.1 w.s.2.2 w.b) (hw : wdOk w = true) (z1 z2 z3 z4 z : Bool) (n : Nat) (hn : n ≤ 1000) : ∀ (N i : Nat), i ≤ n → n - i < N →
    lp (k + 13) laws_FnReports [] fu 10 (N) (qos (ba (List.replicate n (UInt8.ofNat 35))) (ba (List.replicate n (UInt8.ofNat 46))) (i : Int) z1 w.s.1 z2 w.s.2.1 z3 w.s.2.2 z4 w.b w.r w.p.bi w.p.bs w.p.bo w.p.rain w.p.loss w.p.dec w.p.high w.p.low w.p.every w.k w.ld.mi w.ld.mo w.ld.ti w.ld.ou w.f w.g z (fwL w)) = some [.bool true]
  | 0, i, hi, hN => by omega
  | N + 1, i, hi, hN => by
    rw [qkb]
    have s1 := qaq (List.replicate n (UInt8.ofNat 35)); have s2 := qaq (List.replicate n (UInt8.ofNat 46))
    rw [List.length_replicate] at s1 s2
    by_cases g : i < n
    · have IH := qln k hk fu w F hw z1 z2 z3 z4 z n hn N (i + 1) (by omega) (by omega)
      have a1 := qql n 35 i g (by omega); have a2 := qql n 46 i g (by omega)
      rw [show ((35 : Nat) : Int) = 35 from rfl] at a1
      rw [show ((46 : Nat) : Int) = 46 from rfl] at a2
      simp (disch := omega) only [qay, nth0, nth1, nth2, nth3, bit, qef, qeg, qer, qew, qex, qey, qez, qe0, qe1, qe2, qeh, qei, qej, qek, qel, qem, qen, qeo, qep, qeq, qes, qet, qeu, qev, qrf, qre, qrg, qnd, qn3, qn5, qjh, qa5, qqo, nI, qfb, qe9, Bool.not_true, Bool.not_false, Bool.and_true, Bool.true_and, Bool.and_false, Bool.false_and, Bool.or_true, Bool.true_or, Bool.or_false, Bool.false_or, beq_self_eq_true, dTT, dFF, dT, dF, bigI, big0, qnc, qr4, qr5, List.length_set, List.length_replicate, Int.toNat_natCast, qed, qee, imax, imin, s1, s2, a1, a2, decide_true]
      exact IH
    · obtain rfl : i = n := by omega
      have FF := wdF hw
      have k0 := FF.k
      have sm := qjo _ F.mmem; have ml := F.ml; have ll := F.len
      have i1 : inI64 w.k = true := qjd (by omega)
      have i2 : inI64 (isum w.s.2.1) = true := qjd (by omega)
      have f1 := qcj (k + 11) (by omega) _ i1
      have f2 := qcj (k + 11) (by omega) _ i2
      have f3 := qcz (k + 5) (by omega) z1 z2 z3 z4 w.r w.s.1 w.s.2.1 w.s.2.2 w.b F
      have f4 := qbd (k + 10) (by omega) 1 0 0 (-2) (by decide) (by decide) (by decide) (by decide)
      rw [qk9] at f4
      have y1 := qjv _ i1; have y2 := qjv _ i2
      have q1 : ({ data := #[(115 : UInt8), (116 : UInt8), (101 : UInt8), (112 : UInt8), (32 : UInt8)] } : ByteArray) = ba [115, 116, 101, 112, 32] := Eq.trans rfl rfl
      have q3 : ({ data := #[(109 : UInt8), (97 : UInt8), (115 : UInt8), (115 : UInt8), (32 : UInt8)] } : ByteArray) = ba [109, 97, 115, 115, 32] := Eq.trans rfl rfl
      have q4 : ({ data := #[(49 : UInt8), (32 : UInt8), (48 : UInt8), (32 : UInt8), (48 : UInt8), (32 : UInt8), (45 : UInt8), (50 : UInt8)] } : ByteArray) = ba [49, 32, 48, 32, 48, 32, 45, 50] := Eq.trans rfl rfl
      have fl : (fwL w).length = 7 := rfl
      have t2 : Int.toNat 2 = 2 := rfl
      have t0 : Int.toNat 0 = 0 := rfl
      have g0 : (fwL w).getD 0 ByteArray.empty = ba ([115, 116, 101, 112, 32] ++ Lib.itoa w.k) := by simp [fwL, ln, spacedL]
      have g2 : (fwL w).getD 2 ByteArray.empty = ba ([109, 97, 115, 115, 32] ++ Lib.itoa (isum w.s.2.1)) := by simp [fwL, ln, spacedL]
      simp (disch := omega) only [qay, nth0, nth1, nth2, nth3, bit, qef, qeg, qer, qew, qex, qey, qez, qe0, qe1, qe2, qeh, qei, qej, qek, qel, qem, qen, qeo, qep, qeq, qes, qet, qeu, qev, qrf, qre, qrg, qnd, qn3, qn5, qjh, qa5, qqo, nI, qfb, qe9, Bool.not_true, Bool.not_false, Bool.and_true, Bool.true_and, Bool.and_false, Bool.false_and, Bool.or_true, Bool.true_or, Bool.or_false, Bool.false_or, beq_self_eq_true, dTT, dFF, dT, dF, bigI, big0, qnc, qr4, qr5, List.length_set, List.length_replicate, Int.toNat_natCast, qed, qee, imax, imin, s1, s2, fl, t0, t2, g0, g2, f1, f2, f3, f4, q1, q3, q4, qao, qaq, decide_true, List.length_append, List.length_cons, List.length_nil]
theorem law_FnReports (k : Nat) (hk : 2000000 ≤ k) (az : Bool) (a : List Int) : go (k + 14) laws_FnReports [(.arr false (az) (.ints IntKind.u8 (a)))] = some [.bool true] := by
  by_cases h : 1048576 < (a.length : Int)
  · rw [qgp]; simp (disch := omega) only [qay, nth0, nth1, nth2, nth3, bit, qef, qeg, qer, qew, qex, qey, qez, qe0, qe1, qe2, qeh, qei, qej, qek, qel, qem, qen, qeo, qep, qeq, qes, qet, qeu, qev, qrf, qre, qrg, qnd, qn3, qn5, qjh, qa5, qqo, nI, qfb, qe9, Bool.not_true, Bool.not_false, Bool.and_true, Bool.true_and, Bool.and_false, Bool.false_and, Bool.or_true, Bool.true_or, Bool.or_false, Bool.false_or, beq_self_eq_true, dTT, dFF, dT, dF, bigI, big0, qnc, qr4, qr5, List.length_set, List.length_replicate, Int.toNat_natCast, qed, qee, imax, imin, qb9]
  have h : (a.length : Int) ≤ 1048576 := by omega
  obtain ⟨w, eD, G, T⟩ := qcf k (by omega) az a h
  have hw := G.ok (by omega)
  have F := G.F
  have eW := qbf (k + 3) (by omega) w F.sml
  have ef : fwT w = fwL w := by unfold fwT; rw [hw]; rfl
  rw [ef, hw] at eW
  have L := F.len; have bl := F.bl; have rr := F.rr
  have eB := fun x => qbb (k + 4) (by omega) w.r false w.s.1 false w.s.2.1 false w.s.2.2 false w.b x (by omega) (by omega)
  have e0 := eB 0
  have e1 := eB 1000000000
  clear eB
  have m0 : ∀ i, mark w.s.1 w.s.2.1 w.b 0 i = ((35 : Nat) : Int) := fun i => by
    have := qqv F i
    unfold mark; rw [dF (by omega)]; rfl
  have m1 : ∀ i, mark w.s.1 w.s.2.1 w.b 1000000000 i = ((46 : Nat) : Int) := fun i => by
    have := qqv F i
    unfold mark; rw [dT (by omega)]; rfl
  have ws := qr7 _ _ _ F.mesh
  have b0 := (qau m0 w.s.1.length 0 (by omega)).1
  have b1 := (qau m1 w.s.1.length 0 (by omega)).1
  rw [List.drop_zero] at b0 b1
  rw [stF.2 F, qfb, b0, qqn] at e0
  rw [stF.2 F, qfb, b1, qqn] at e1
  obtain ⟨n, hn⟩ : ∃ n, (wsum w.s.1).toNat = n := ⟨_, rfl⟩
  rw [hn] at e0 e1
  have hr : (n : Int) = 16 * w.r := by omega
  have s1 := qaq (List.replicate n (UInt8.ofNat 35)); have s2 := qaq (List.replicate n (UInt8.ofNat 46))
  rw [List.length_replicate] at s1 s2
  have eM := qln k hk [] w F hw false false false false false n (by omega) (k + 13) 0 (by omega) (by omega)
  rw [show ((0 : Nat) : Int) = 0 from rfl] at eM
  rw [qgp]
  simp (disch := omega) only [qay, nth0, nth1, nth2, nth3, bit, qef, qeg, qer, qew, qex, qey, qez, qe0, qe1, qe2, qeh, qei, qej, qek, qel, qem, qen, qeo, qep, qeq, qes, qet, qeu, qev, qrf, qre, qrg, qnd, qn3, qn5, qjh, qa5, qqo, nI, qfb, qe9, Bool.not_true, Bool.not_false, Bool.and_true, Bool.true_and, Bool.and_false, Bool.false_and, Bool.or_true, Bool.true_or, Bool.or_false, Bool.false_or, beq_self_eq_true, dTT, dFF, dT, dF, bigI, big0, qnc, qr4, qr5, List.length_set, List.length_replicate, Int.toNat_natCast, qed, qee, imax, imin, qb9, eD, eW, e0, e1, s1, s2, hr]
  exact eM
end Go.Proofs.YtjfjniebmdafeaaGreatDoor
end
