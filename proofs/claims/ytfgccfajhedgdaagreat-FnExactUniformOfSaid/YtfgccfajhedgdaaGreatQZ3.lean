/- What the program's functions compute, and plain facts of it (part 3). No condition beyond those that each theorem states. -/
import Derived.Test.YtfgccfajhedgdaaGreatQZ2
set_option linter.unusedVariables false
set_option linter.unusedSimpArgs false
section
namespace Go.Proofs.YtfgccfajhedgdaaGreat
open Go.Ev
set_option maxRecDepth 20000
theorem qb3 (k : Nat) (hk : 2000000 ≤ k) (x y : Cell) : go (k + 3) spec_Contains [qdk x, qdk y] = some [.bool (cov x y)] := by
  rw [qfx]
  unfold cov
  cases hx : cid x
  · simp (disch := omega) only [qaf, nth0, nth1, nth2, nth3, bit, qcw, qcx, qc8, qdd, qde, qdf, qdg, qdh, qdi, qdj, qcy, qcz, qc0, qc1, qc2, qc3, qc4, qc5, qc6, qc7, qc9, qda, qdb, qdc, qni, qnh, qnj, qkc, qky, qkz, qg6, qag, qm5, nI, qds, qdq, Bool.not_true, Bool.not_false, Bool.and_true, Bool.true_and, Bool.and_false, Bool.false_and, Bool.or_true, Bool.true_or, Bool.or_false, Bool.false_or, beq_self_eq_true, dTT, dFF, dT, dF, bigI, big0, qkb, qn6, qn7, List.length_set, List.length_replicate, Int.toNat_natCast, qcu, qcv, imax, imin, qb5, hx]
  cases hy : cid y
  · simp (disch := omega) only [qaf, nth0, nth1, nth2, nth3, bit, qcw, qcx, qc8, qdd, qde, qdf, qdg, qdh, qdi, qdj, qcy, qcz, qc0, qc1, qc2, qc3, qc4, qc5, qc6, qc7, qc9, qda, qdb, qdc, qni, qnh, qnj, qkc, qky, qkz, qg6, qag, qm5, nI, qds, qdq, Bool.not_true, Bool.not_false, Bool.and_true, Bool.true_and, Bool.and_false, Bool.false_and, Bool.or_true, Bool.true_or, Bool.or_false, Bool.false_or, beq_self_eq_true, dTT, dFF, dT, dF, bigI, big0, qkb, qn6, qn7, List.length_set, List.length_replicate, Int.toNat_natCast, qcu, qcv, imax, imin, qb5, hx, hy]
  have a := qg4 hx; have b := qg4 hy
  have a3 := qg5.1 a.2.2.1; have b3 := qg5.1 b.2.2.1
  by_cases h1 : x.1 = y.1
  case neg => simp (disch := omega) only [qaf, nth0, nth1, nth2, nth3, bit, qcw, qcx, qc8, qdd, qde, qdf, qdg, qdh, qdi, qdj, qcy, qcz, qc0, qc1, qc2, qc3, qc4, qc5, qc6, qc7, qc9, qda, qdb, qdc, qni, qnh, qnj, qkc, qky, qkz, qg6, qag, qm5, nI, qds, qdq, Bool.not_true, Bool.not_false, Bool.and_true, Bool.true_and, Bool.and_false, Bool.false_and, Bool.or_true, Bool.true_or, Bool.or_false, Bool.false_or, beq_self_eq_true, dTT, dFF, dT, dF, bigI, big0, qkb, qn6, qn7, List.length_set, List.length_replicate, Int.toNat_natCast, qcu, qcv, imax, imin, qb5, hx, hy]
  by_cases h2 : x.2.1 ≤ y.2.1
  case neg => simp (disch := omega) only [qaf, nth0, nth1, nth2, nth3, bit, qcw, qcx, qc8, qdd, qde, qdf, qdg, qdh, qdi, qdj, qcy, qcz, qc0, qc1, qc2, qc3, qc4, qc5, qc6, qc7, qc9, qda, qdb, qdc, qni, qnh, qnj, qkc, qky, qkz, qg6, qag, qm5, nI, qds, qdq, Bool.not_true, Bool.not_false, Bool.and_true, Bool.true_and, Bool.and_false, Bool.false_and, Bool.or_true, Bool.true_or, Bool.or_false, Bool.false_or, beq_self_eq_true, dTT, dFF, dT, dF, bigI, big0, qkb, qn6, qn7, List.length_set, List.length_replicate, Int.toNat_natCast, qcu, qcv, imax, imin, qb5, hx, hy]
  have e := qdw hx hy h2
  simp (disch := omega) only [qaf, nth0, nth1, nth2, nth3, bit, qcw, qcx, qc8, qdd, qde, qdf, qdg, qdh, qdi, qdj, qcy, qcz, qc0, qc1, qc2, qc3, qc4, qc5, qc6, qc7, qc9, qda, qdb, qdc, qni, qnh, qnj, qkc, qky, qkz, qg6, qag, qm5, nI, qds, qdq, Bool.not_true, Bool.not_false, Bool.and_true, Bool.true_and, Bool.and_false, Bool.false_and, Bool.or_true, Bool.true_or, Bool.or_false, Bool.false_or, beq_self_eq_true, dTT, dFF, dT, dF, bigI, big0, qkb, qn6, qn7, List.length_set, List.length_replicate, Int.toNat_natCast, qcu, qcv, imax, imin, qb5, hx, hy, e]
theorem qjk (k : Nat) (hk : 2000000 ≤ k) (fu : List (Nat × Nat)) (z z' : Bool) (l m : List Cell) (r r' : Int) (hl : l.length ≤ 1048576) (hm : m.length ≤ 1048576) : ∀ (N i : Nat), i ≤ l.length → l.length - i < N →
    lp (k + 1) spec_l17Strange [] fu 2 (N) (qmh (i : Int) z l r z' m r') = some [.int .i64 (fstG (fun x => decide (lof m x < 0)) (l.drop i) i)]
  | 0, i, hi, hN => by omega
  | N + 1, i, hi, hN => by
    rw [qia]
    by_cases g : i < l.length
    · have IH := qjk k hk fu z z' l m r r' hl hm N (i + 1) (by omega) (by omega)
      have eL := qb7 k (by omega) r' z' m (l.getD i zz3) (by omega)
      rw [qd3 g zz3, fstG]
      by_cases h : lof m (l.getD i zz3) < 0
      · rw [if_pos (dT h)]; simp (disch := omega) only [qaf, nth0, nth1, nth2, nth3, bit, qcw, qcx, qc8, qdd, qde, qdf, qdg, qdh, qdi, qdj, qcy, qcz, qc0, qc1, qc2, qc3, qc4, qc5, qc6, qc7, qc9, qda, qdb, qdc, qni, qnh, qnj, qkc, qky, qkz, qg6, qag, qm5, nI, qds, qdq, Bool.not_true, Bool.not_false, Bool.and_true, Bool.true_and, Bool.and_false, Bool.false_and, Bool.or_true, Bool.true_or, Bool.or_false, Bool.false_or, beq_self_eq_true, dTT, dFF, dT, dF, bigI, big0, qkb, qn6, qn7, List.length_set, List.length_replicate, Int.toNat_natCast, qcu, qcv, imax, imin, eL, h]
      · rw [if_neg (by rw [dF h]; decide)]
        simp (disch := omega) only [qaf, nth0, nth1, nth2, nth3, bit, qcw, qcx, qc8, qdd, qde, qdf, qdg, qdh, qdi, qdj, qcy, qcz, qc0, qc1, qc2, qc3, qc4, qc5, qc6, qc7, qc9, qda, qdb, qdc, qni, qnh, qnj, qkc, qky, qkz, qg6, qag, qm5, nI, qds, qdq, Bool.not_true, Bool.not_false, Bool.and_true, Bool.true_and, Bool.and_false, Bool.false_and, Bool.or_true, Bool.true_or, Bool.or_false, Bool.false_or, beq_self_eq_true, dTT, dFF, dT, dF, bigI, big0, qkb, qn6, qn7, List.length_set, List.length_replicate, Int.toNat_natCast, qcu, qcv, imax, imin, eL, h, IH]
    · rw [List.drop_of_length_le (by omega)]; simp (disch := omega) only [qaf, nth0, nth1, nth2, nth3, bit, qcw, qcx, qc8, qdd, qde, qdf, qdg, qdh, qdi, qdj, qcy, qcz, qc0, qc1, qc2, qc3, qc4, qc5, qc6, qc7, qc9, qda, qdb, qdc, qni, qnh, qnj, qkc, qky, qkz, qg6, qag, qm5, nI, qds, qdq, Bool.not_true, Bool.not_false, Bool.and_true, Bool.true_and, Bool.and_false, Bool.false_and, Bool.or_true, Bool.true_or, Bool.or_false, Bool.false_or, beq_self_eq_true, dTT, dFF, dT, dF, bigI, big0, qkb, qn6, qn7, List.length_set, List.length_replicate, Int.toNat_natCast, qcu, qcv, imax, imin]; rfl
theorem qcg (k : Nat) (hk : 2000000 ≤ k) (z z' : Bool) (l m : List Cell) (r r' : Int) (hl : l.length ≤ 1048576) (hm : m.length ≤ 1048576) : go (k + 2) spec_l17Strange [.agg [.int .i64 r, .arr false z (.r3 l)], .agg [.int .i64 r', .arr false z' (.r3 m)]] = some [.int .i64 (qm3 m l)] := by
  rw [qgn]
  exact qjk k hk [] z z' l m r r' hl hm _ 0 (by omega) (by omega)
theorem qka (x y : Cell) : (!(decide (x.1 = y.1) && (decide (x.2.1 = y.2.1) && (decide (x.2.2 = y.2.2) && true)))) = decide (x ≠ y) := by
  rw [Bool.eq_iff_iff]
  simp only [Bool.and_true, Bool.not_eq_true', ← Bool.not_eq_true, Bool.and_eq_true, decide_eq_true_eq]
  exact ⟨fun h e => h (by subst e; exact ⟨rfl, rfl, rfl⟩), fun h e => h (Prod.ext e.1 (Prod.ext e.2.1 e.2.2))⟩
theorem qjl (k : Nat) (hk : 2000000 ≤ k) (fu : List (Nat × Nat)) (z : Bool) (l : List Cell) (r : Int) (x : Cell) (hl : l.length ≤ 1048576) : ∀ (N i : Nat), i ≤ l.length → l.length - i < N →
    lp (k + 3) spec_l17Within [] fu 2 (N) (qmi (i : Int) z l r x.1 x.2.1 x.2.2) = some [.bool ((l.drop i).any fun y => decide (y ≠ x) && cov x y)]
  | 0, i, hi, hN => by omega
  | N + 1, i, hi, hN => by
    rw [qib]
    by_cases g : i < l.length
    · have IH := qjl k hk fu z l r x hl N (i + 1) (by omega) (by omega)
      have eC := qb3 k (by omega) x (l.getD i zz3)
      have ne := qka (l.getD i zz3) x
      rw [qd3 g zz3, List.any_cons]
      simp only [Int.toNat_natCast]
      rw [ne]
      cases h : decide (l.getD i zz3 ≠ x)
      · simp (disch := omega) only [qaf, nth0, nth1, nth2, nth3, bit, qcw, qcx, qc8, qdd, qde, qdf, qdg, qdh, qdi, qdj, qcy, qcz, qc0, qc1, qc2, qc3, qc4, qc5, qc6, qc7, qc9, qda, qdb, qdc, qni, qnh, qnj, qkc, qky, qkz, qg6, qag, qm5, nI, qds, qdq, Bool.not_true, Bool.not_false, Bool.and_true, Bool.true_and, Bool.and_false, Bool.false_and, Bool.or_true, Bool.true_or, Bool.or_false, Bool.false_or, beq_self_eq_true, dTT, dFF, dT, dF, bigI, big0, qkb, qn6, qn7, List.length_set, List.length_replicate, Int.toNat_natCast, qcu, qcv, imax, imin, IH]
      · cases h2 : cov x (l.getD i zz3)
        · simp (disch := omega) only [qaf, nth0, nth1, nth2, nth3, bit, qcw, qcx, qc8, qdd, qde, qdf, qdg, qdh, qdi, qdj, qcy, qcz, qc0, qc1, qc2, qc3, qc4, qc5, qc6, qc7, qc9, qda, qdb, qdc, qni, qnh, qnj, qkc, qky, qkz, qg6, qag, qm5, nI, qds, qdq, Bool.not_true, Bool.not_false, Bool.and_true, Bool.true_and, Bool.and_false, Bool.false_and, Bool.or_true, Bool.true_or, Bool.or_false, Bool.false_or, beq_self_eq_true, dTT, dFF, dT, dF, bigI, big0, qkb, qn6, qn7, List.length_set, List.length_replicate, Int.toNat_natCast, qcu, qcv, imax, imin, eC, h2, IH]
        · simp (disch := omega) only [qaf, nth0, nth1, nth2, nth3, bit, qcw, qcx, qc8, qdd, qde, qdf, qdg, qdh, qdi, qdj, qcy, qcz, qc0, qc1, qc2, qc3, qc4, qc5, qc6, qc7, qc9, qda, qdb, qdc, qni, qnh, qnj, qkc, qky, qkz, qg6, qag, qm5, nI, qds, qdq, Bool.not_true, Bool.not_false, Bool.and_true, Bool.true_and, Bool.and_false, Bool.false_and, Bool.or_true, Bool.true_or, Bool.or_false, Bool.false_or, beq_self_eq_true, dTT, dFF, dT, dF, bigI, big0, qkb, qn6, qn7, List.length_set, List.length_replicate, Int.toNat_natCast, qcu, qcv, imax, imin, eC, h2]
    · rw [List.drop_of_length_le (by omega)]; simp (disch := omega) only [qaf, nth0, nth1, nth2, nth3, bit, qcw, qcx, qc8, qdd, qde, qdf, qdg, qdh, qdi, qdj, qcy, qcz, qc0, qc1, qc2, qc3, qc4, qc5, qc6, qc7, qc9, qda, qdb, qdc, qni, qnh, qnj, qkc, qky, qkz, qg6, qag, qm5, nI, qds, qdq, Bool.not_true, Bool.not_false, Bool.and_true, Bool.true_and, Bool.and_false, Bool.false_and, Bool.or_true, Bool.true_or, Bool.or_false, Bool.false_or, beq_self_eq_true, dTT, dFF, dT, dF, bigI, big0, qkb, qn6, qn7, List.length_set, List.length_replicate, Int.toNat_natCast, qcu, qcv, imax, imin]; rfl
theorem qcj (k : Nat) (hk : 2000000 ≤ k) (z : Bool) (l : List Cell) (r : Int) (x : Cell) (hl : l.length ≤ 1048576) : go (k + 4) spec_l17Within [.agg [.int .i64 r, .arr false z (.r3 l)], qdk x] = some [.bool (qn4 l x)] := by
  rw [qgo]
  exact qjl k hk [] z l r x hl _ 0 (by omega) (by omega)
theorem qjg (k : Nat) (hk : 2000000 ≤ k) (fu : List (Nat × Nat)) (z : Bool) (l : List Cell) (r : Int) (x : Cell) (hl : l.length ≤ 1048576) : ∀ (N i : Nat), i ≤ l.length → l.length - i < N →
    lp (k + 3) spec_l17Outer [] fu 2 (N) (qmg (i : Int) z l r x.1 x.2.1 x.2.2) = some [.int .i64 (fstG (fun y => cov y x) (l.drop i) i)]
  | 0, i, hi, hN => by omega
  | N + 1, i, hi, hN => by
    rw [qh9]
    by_cases g : i < l.length
    · have IH := qjg k hk fu z l r x hl N (i + 1) (by omega) (by omega)
      have eC := qb3 k (by omega) (l.getD i zz3) x
      rw [qd3 g zz3, fstG]
      by_cases h : cov (l.getD i zz3) x = true
      · rw [if_pos h]; simp (disch := omega) only [qaf, nth0, nth1, nth2, nth3, bit, qcw, qcx, qc8, qdd, qde, qdf, qdg, qdh, qdi, qdj, qcy, qcz, qc0, qc1, qc2, qc3, qc4, qc5, qc6, qc7, qc9, qda, qdb, qdc, qni, qnh, qnj, qkc, qky, qkz, qg6, qag, qm5, nI, qds, qdq, Bool.not_true, Bool.not_false, Bool.and_true, Bool.true_and, Bool.and_false, Bool.false_and, Bool.or_true, Bool.true_or, Bool.or_false, Bool.false_or, beq_self_eq_true, dTT, dFF, dT, dF, bigI, big0, qkb, qn6, qn7, List.length_set, List.length_replicate, Int.toNat_natCast, qcu, qcv, imax, imin, eC, h]
      · rw [if_neg h]
        have h : cov (l.getD i zz3) x = false := by simpa using h
        simp (disch := omega) only [qaf, nth0, nth1, nth2, nth3, bit, qcw, qcx, qc8, qdd, qde, qdf, qdg, qdh, qdi, qdj, qcy, qcz, qc0, qc1, qc2, qc3, qc4, qc5, qc6, qc7, qc9, qda, qdb, qdc, qni, qnh, qnj, qkc, qky, qkz, qg6, qag, qm5, nI, qds, qdq, Bool.not_true, Bool.not_false, Bool.and_true, Bool.true_and, Bool.and_false, Bool.false_and, Bool.or_true, Bool.true_or, Bool.or_false, Bool.false_or, beq_self_eq_true, dTT, dFF, dT, dF, bigI, big0, qkb, qn6, qn7, List.length_set, List.length_replicate, Int.toNat_natCast, qcu, qcv, imax, imin, eC, h, IH]
    · rw [List.drop_of_length_le (by omega)]; simp (disch := omega) only [qaf, nth0, nth1, nth2, nth3, bit, qcw, qcx, qc8, qdd, qde, qdf, qdg, qdh, qdi, qdj, qcy, qcz, qc0, qc1, qc2, qc3, qc4, qc5, qc6, qc7, qc9, qda, qdb, qdc, qni, qnh, qnj, qkc, qky, qkz, qg6, qag, qm5, nI, qds, qdq, Bool.not_true, Bool.not_false, Bool.and_true, Bool.true_and, Bool.and_false, Bool.false_and, Bool.or_true, Bool.true_or, Bool.or_false, Bool.false_or, beq_self_eq_true, dTT, dFF, dT, dF, bigI, big0, qkb, qn6, qn7, List.length_set, List.length_replicate, Int.toNat_natCast, qcu, qcv, imax, imin]; rfl
theorem qca (k : Nat) (hk : 2000000 ≤ k) (z : Bool) (l : List Cell) (r : Int) (x : Cell) (hl : l.length ≤ 1048576) : go (k + 4) spec_l17Outer [.agg [.int .i64 r, .arr false z (.r3 l)], qdk x] = some [.int .i64 (qkr l x)] := by
  rw [qgm]
  exact qjg k hk [] z l r x hl _ 0 (by omega) (by omega)
theorem qjb (k : Nat) (hk : 2000000 ≤ k) (fu : List (Nat × Nat)) (z : Bool) (l : List Cell) (r : Int) (x : Cell) (hl : l.length ≤ 1048576) : ∀ (N i : Nat) (best : Int), i ≤ l.length → l.length - i < N → -1 ≤ best → best < l.length →
    lp (k + 3) spec_l17Deepest [] fu 3 (N) (qmf best (i : Int) z l r x.1 x.2.1 x.2.2) = some [.int .i64 (qdz x l (l.drop i) i best)]
  | 0, i, best, hi, hN, h0, h1 => by omega
  | N + 1, i, best, hi, hN, h0, h1 => by
    rw [qh8]
    by_cases g : i < l.length
    · have eC := qb3 k (by omega) x (l.getD i zz3)
      rw [qd3 g zz3, qdz]
      cases hc : cov x (l.getD i zz3)
      · rw [Bool.false_and, if_neg (by decide)]
        have IH := qjb k hk fu z l r x hl N (i + 1) best (by omega) (by omega) h0 h1
        simp (disch := omega) only [qaf, nth0, nth1, nth2, nth3, bit, qcw, qcx, qc8, qdd, qde, qdf, qdg, qdh, qdi, qdj, qcy, qcz, qc0, qc1, qc2, qc3, qc4, qc5, qc6, qc7, qc9, qda, qdb, qdc, qni, qnh, qnj, qkc, qky, qkz, qg6, qag, qm5, nI, qds, qdq, Bool.not_true, Bool.not_false, Bool.and_true, Bool.true_and, Bool.and_false, Bool.false_and, Bool.or_true, Bool.true_or, Bool.or_false, Bool.false_or, beq_self_eq_true, dTT, dFF, dT, dF, bigI, big0, qkb, qn6, qn7, List.length_set, List.length_replicate, Int.toNat_natCast, qcu, qcv, imax, imin, eC, hc, IH]
      · rw [Bool.true_and]
        by_cases h2 : best < 0
        · rw [if_pos (by rw [dT h2]; rfl)]
          have IH := qjb k hk fu z l r x hl N (i + 1) (i : Int) (by omega) (by omega) (by omega) (by omega)
          simp (disch := omega) only [qaf, nth0, nth1, nth2, nth3, bit, qcw, qcx, qc8, qdd, qde, qdf, qdg, qdh, qdi, qdj, qcy, qcz, qc0, qc1, qc2, qc3, qc4, qc5, qc6, qc7, qc9, qda, qdb, qdc, qni, qnh, qnj, qkc, qky, qkz, qg6, qag, qm5, nI, qds, qdq, Bool.not_true, Bool.not_false, Bool.and_true, Bool.true_and, Bool.and_false, Bool.false_and, Bool.or_true, Bool.true_or, Bool.or_false, Bool.false_or, beq_self_eq_true, dTT, dFF, dT, dF, bigI, big0, qkb, qn6, qn7, List.length_set, List.length_replicate, Int.toNat_natCast, qcu, qcv, imax, imin, eC, hc, IH]
        · obtain ⟨c, rfl⟩ : ∃ c : Nat, best = (c : Int) := ⟨best.toNat, by omega⟩
          rw [show (decide ((c : Int) < 0) || decide (qic l (c : Int).toNat < (l.getD i zz3).2.1)) = decide (qic l c < (l.getD i zz3).2.1) by rw [dF h2, Bool.false_or, Int.toNat_natCast]]
          by_cases h3 : qic l c < (l.getD i zz3).2.1
          · rw [if_pos (dT h3)]
            have IH := qjb k hk fu z l r x hl N (i + 1) (i : Int) (by omega) (by omega) (by omega) (by omega)
            simp (disch := omega) only [qaf, nth0, nth1, nth2, nth3, bit, qcw, qcx, qc8, qdd, qde, qdf, qdg, qdh, qdi, qdj, qcy, qcz, qc0, qc1, qc2, qc3, qc4, qc5, qc6, qc7, qc9, qda, qdb, qdc, qni, qnh, qnj, qkc, qky, qkz, qg6, qag, qm5, nI, qds, qdq, Bool.not_true, Bool.not_false, Bool.and_true, Bool.true_and, Bool.and_false, Bool.false_and, Bool.or_true, Bool.true_or, Bool.or_false, Bool.false_or, beq_self_eq_true, dTT, dFF, dT, dF, bigI, big0, qkb, qn6, qn7, List.length_set, List.length_replicate, Int.toNat_natCast, qcu, qcv, imax, imin, eC, hc, IH]
          · rw [if_neg (by rw [dF h3]; decide)]
            have IH := qjb k hk fu z l r x hl N (i + 1) (c : Int) (by omega) (by omega) (by omega) (by omega)
            simp (disch := omega) only [qaf, nth0, nth1, nth2, nth3, bit, qcw, qcx, qc8, qdd, qde, qdf, qdg, qdh, qdi, qdj, qcy, qcz, qc0, qc1, qc2, qc3, qc4, qc5, qc6, qc7, qc9, qda, qdb, qdc, qni, qnh, qnj, qkc, qky, qkz, qg6, qag, qm5, nI, qds, qdq, Bool.not_true, Bool.not_false, Bool.and_true, Bool.true_and, Bool.and_false, Bool.false_and, Bool.or_true, Bool.true_or, Bool.or_false, Bool.false_or, beq_self_eq_true, dTT, dFF, dT, dF, bigI, big0, qkb, qn6, qn7, List.length_set, List.length_replicate, Int.toNat_natCast, qcu, qcv, imax, imin, eC, hc, IH]
    · rw [List.drop_of_length_le (by omega), qdz]; simp (disch := omega) only [qaf, nth0, nth1, nth2, nth3, bit, qcw, qcx, qc8, qdd, qde, qdf, qdg, qdh, qdi, qdj, qcy, qcz, qc0, qc1, qc2, qc3, qc4, qc5, qc6, qc7, qc9, qda, qdb, qdc, qni, qnh, qnj, qkc, qky, qkz, qg6, qag, qm5, nI, qds, qdq, Bool.not_true, Bool.not_false, Bool.and_true, Bool.true_and, Bool.and_false, Bool.false_and, Bool.or_true, Bool.true_or, Bool.or_false, Bool.false_or, beq_self_eq_true, dTT, dFF, dT, dF, bigI, big0, qkb, qn6, qn7, List.length_set, List.length_replicate, Int.toNat_natCast, qcu, qcv, imax, imin]
theorem qb4 (k : Nat) (hk : 2000000 ≤ k) (z : Bool) (l : List Cell) (r : Int) (x : Cell) (hl : l.length ≤ 1048576) : go (k + 4) spec_l17Deepest [.agg [.int .i64 r, .arr false z (.r3 l)], qdk x] = some [.int .i64 (deep l x)] := by
  rw [qgl]
  exact qjb k hk [] z l r x hl _ 0 (-1) (by omega) (by omega) (by omega) (by omega)
theorem qje (k : Nat) (hk : 2000000 ≤ k) (fu : List (Nat × Nat)) (L p : Nat) (R : Int) (hL : L ≤ 4) (hp : p ≤ 7) (z4 : Bool) (l5 : List Cell) (x6 x9 : Int) (acc : List Cell) (ha : acc.length ≤ 1000) : ∀ (N i : Nat) (z : Bool), i ≤ 2 ^ L → 2 ^ L - i < N → (z = false ∨ i = 0) →
    lp (k + 1) spec_MeshNew [] fu 8 (N) (ql8 R (L : Int) (p : Int) (i : Int) z4 l5 x6 z (acc ++ rowN (p : Int) (L : Int) i) x9) = lp (k + 1) spec_MeshNew [] fu 5 (fuelOf fu 5) (ql7 R (L : Int) ((p + 1 : Nat) : Int) z4 l5 x6 false (acc ++ rowN (p : Int) (L : Int) (2 ^ L)) x9)
  | 0, i, z, hi, hN, hz => by omega
  | N + 1, i, z, hi, hN, hz => by
    rw [qh1]
    have w16 := qnk hL
    have ep : IntKind.wrap .i64 ((1 : Int) * (2 : Int) ^ shiftN .i64 (L : Int)) = ((2 ^ L : Nat) : Int) := (pw (qg5.2 (by omega))).trans w16.2
    generalize hw : 2 ^ L = w at *
    have w1 := w16.1
    by_cases g : i < w
    · have IH := qje k hk fu L p R hL hp z4 l5 x6 x9 acc ha N (i + 1) false (by omega) (by omega) (Or.inl rfl)
      have e : acc ++ rowN (p : Int) (L : Int) (i + 1) = acc ++ rowN (p : Int) (L : Int) i ++ [((p : Int), (L : Int), (i : Int))] := by rw [rowN, List.append_assoc]
      rw [e, hw] at IH
      have la : (acc ++ rowN (p : Int) (L : Int) i ++ [((p : Int), (L : Int), (i : Int))]).length = acc.length + i + 1 := by rw [List.length_append, List.length_append, qll]; rfl
      simp (disch := omega) only [qaf, nth0, nth1, nth2, nth3, bit, qcw, qcx, qc8, qdd, qde, qdf, qdg, qdh, qdi, qdj, qcy, qcz, qc0, qc1, qc2, qc3, qc4, qc5, qc6, qc7, qc9, qda, qdb, qdc, qni, qnh, qnj, qkc, qky, qkz, qg6, qag, qm5, nI, qds, qdq, Bool.not_true, Bool.not_false, Bool.and_true, Bool.true_and, Bool.and_false, Bool.false_and, Bool.or_true, Bool.true_or, Bool.or_false, Bool.false_or, beq_self_eq_true, dTT, dFF, dT, dF, bigI, big0, qkb, qn6, qn7, List.length_set, List.length_replicate, Int.toNat_natCast, qcu, qcv, imax, imin, ep, la, Bool.and_false, IH]
    · have hi' : i = w := by omega
      subst hi'
      have hz' : z = false := hz.elim id (fun h => absurd h (by omega))
      subst hz'
      simp (disch := omega) only [qaf, nth0, nth1, nth2, nth3, bit, qcw, qcx, qc8, qdd, qde, qdf, qdg, qdh, qdi, qdj, qcy, qcz, qc0, qc1, qc2, qc3, qc4, qc5, qc6, qc7, qc9, qda, qdb, qdc, qni, qnh, qnj, qkc, qky, qkz, qg6, qag, qm5, nI, qds, qdq, Bool.not_true, Bool.not_false, Bool.and_true, Bool.true_and, Bool.and_false, Bool.false_and, Bool.or_true, Bool.true_or, Bool.or_false, Bool.false_or, beq_self_eq_true, dTT, dFF, dT, dF, bigI, big0, qkb, qn6, qn7, List.length_set, List.length_replicate, Int.toNat_natCast, qcu, qcv, imax, imin, ep]
theorem qjd (k : Nat) (hk : 2000000 ≤ k) (L R : Nat) (hL : L ≤ 4) (hR : 1 ≤ R ∧ R ≤ 8) (z3 : Bool) (l4 : List Cell) (x5 : Int) : ∀ (N : Nat) (fu : List (Nat × Nat)) (p : Nat) (z : Bool), p ≤ R → R - p < N → (z = false ∨ p = 0) →
    lp (k + 1) spec_MeshNew [] fu 5 (N) (ql7 (R : Int) (L : Int) (p : Int) z3 l4 x5 z (uni (L : Int) (2 ^ L) p) (R : Int)) = some [.agg [.int .i64 (R : Int), .arr true false (.r3 (uni (L : Int) (2 ^ L) R))], .bool true]
  | 0, fu, p, z, hp, hN, hz => by omega
  | N + 1, fu, p, z, hp, hN, hz => by
    rw [qh0]
    have w16 := qnk hL
    by_cases g : p < R
    · have ul : (uni (L : Int) (2 ^ L) p).length ≤ 1000 := by
        rw [qns]
        calc p * 2 ^ L ≤ 8 * 16 := Nat.mul_le_mul (by omega) w16.1.2
          _ ≤ 1000 := by decide
      have e := qje k hk ((5, N) :: fu) L p (R : Int) hL (by omega) z3 l4 x5 (R : Int) (uni (L : Int) (2 ^ L) p) ul (k + 1) 0 z (by omega) (by omega) (Or.inr rfl)
      have e2 := qjd k hk L R hL hR z3 l4 x5 N ((5, N) :: fu) (p + 1) false (by omega) (by omega) (Or.inl rfl)
      rw [qgx, show uni (L : Int) (2 ^ L) p ++ rowN (p : Int) (L : Int) 0 = uni (L : Int) (2 ^ L) p from List.append_nil _, show uni (L : Int) (2 ^ L) p ++ rowN (p : Int) (L : Int) (2 ^ L) = uni (L : Int) (2 ^ L) (p + 1) from rfl, show ((0 : Nat) : Int) = 0 from rfl] at e
      simp (disch := omega) only [qaf, nth0, nth1, nth2, nth3, bit, qcw, qcx, qc8, qdd, qde, qdf, qdg, qdh, qdi, qdj, qcy, qcz, qc0, qc1, qc2, qc3, qc4, qc5, qc6, qc7, qc9, qda, qdb, qdc, qni, qnh, qnj, qkc, qky, qkz, qg6, qag, qm5, nI, qds, qdq, Bool.not_true, Bool.not_false, Bool.and_true, Bool.true_and, Bool.and_false, Bool.false_and, Bool.or_true, Bool.true_or, Bool.or_false, Bool.false_or, beq_self_eq_true, dTT, dFF, dT, dF, bigI, big0, qkb, qn6, qn7, List.length_set, List.length_replicate, Int.toNat_natCast, qcu, qcv, imax, imin]
      exact e.trans e2
    · have hp' : p = R := by omega
      subst hp'
      have hz' : z = false := hz.elim id (fun h => absurd h (by omega))
      subst hz'
      simp (disch := omega) only [qaf, nth0, nth1, nth2, nth3, bit, qcw, qcx, qc8, qdd, qde, qdf, qdg, qdh, qdi, qdj, qcy, qcz, qc0, qc1, qc2, qc3, qc4, qc5, qc6, qc7, qc9, qda, qdb, qdc, qni, qnh, qnj, qkc, qky, qkz, qg6, qag, qm5, nI, qds, qdq, Bool.not_true, Bool.not_false, Bool.and_true, Bool.true_and, Bool.and_false, Bool.false_and, Bool.or_true, Bool.true_or, Bool.or_false, Bool.false_or, beq_self_eq_true, dTT, dFF, dT, dF, bigI, big0, qkb, qn6, qn7, List.length_set, List.length_replicate, Int.toNat_natCast, qcu, qcv, imax, imin]
theorem qb8 (k : Nat) (hk : 2000000 ≤ k) (a b : Int) : go (k + 2) spec_MeshNew [.int .i64 a, .int .i64 b] = cond (inR a 1 8 && inR b 0 4) (some [.agg [.int .i64 a, .arr true false (.r3 (uni b (2 ^ b.toNat) a.toNat))], .bool true]) (some [.agg [.int .i64 0, .arr true true (.r3 [])], .bool false]) := by
  rw [qf1]
  cases g : inR a 1 8
  · simp (disch := omega) only [qaf, nth0, nth1, nth2, nth3, bit, qcw, qcx, qc8, qdd, qde, qdf, qdg, qdh, qdi, qdj, qcy, qcz, qc0, qc1, qc2, qc3, qc4, qc5, qc6, qc7, qc9, qda, qdb, qdc, qni, qnh, qnj, qkc, qky, qkz, qg6, qag, qm5, nI, qds, qdq, Bool.not_true, Bool.not_false, Bool.and_true, Bool.true_and, Bool.and_false, Bool.false_and, Bool.or_true, Bool.true_or, Bool.or_false, Bool.false_or, beq_self_eq_true, dTT, dFF, dT, dF, bigI, big0, qkb, qn6, qn7, List.length_set, List.length_replicate, Int.toNat_natCast, qcu, qcv, imax, imin, qck, g]
  cases g2 : inR b 0 4
  · simp (disch := omega) only [qaf, nth0, nth1, nth2, nth3, bit, qcw, qcx, qc8, qdd, qde, qdf, qdg, qdh, qdi, qdj, qcy, qcz, qc0, qc1, qc2, qc3, qc4, qc5, qc6, qc7, qc9, qda, qdb, qdc, qni, qnh, qnj, qkc, qky, qkz, qg6, qag, qm5, nI, qds, qdq, Bool.not_true, Bool.not_false, Bool.and_true, Bool.true_and, Bool.and_false, Bool.false_and, Bool.or_true, Bool.true_or, Bool.or_false, Bool.false_or, beq_self_eq_true, dTT, dFF, dT, dF, bigI, big0, qkb, qn6, qn7, List.length_set, List.length_replicate, Int.toNat_natCast, qcu, qcv, imax, imin, qck, g, g2]
  have h1 := qg5.1 g; have h2 := qg5.1 g2
  obtain ⟨R, rfl⟩ : ∃ R : Nat, a = (R : Int) := ⟨a.toNat, by omega⟩
  obtain ⟨L, rfl⟩ : ∃ L : Nat, b = (L : Int) := ⟨b.toNat, by omega⟩
  have e := qjd k hk L R (by omega) (by omega) true [] 0 (k + 1) [] 0 true (by omega) (by omega) (Or.inr rfl)
  rw [show ((0 : Nat) : Int) = 0 from rfl, show uni (L : Int) (2 ^ L) 0 = [] from rfl] at e
  simp (disch := omega) only [qaf, nth0, nth1, nth2, nth3, bit, qcw, qcx, qc8, qdd, qde, qdf, qdg, qdh, qdi, qdj, qcy, qcz, qc0, qc1, qc2, qc3, qc4, qc5, qc6, qc7, qc9, qda, qdb, qdc, qni, qnh, qnj, qkc, qky, qkz, qg6, qag, qm5, nI, qds, qdq, Bool.not_true, Bool.not_false, Bool.and_true, Bool.true_and, Bool.and_false, Bool.false_and, Bool.or_true, Bool.true_or, Bool.or_false, Bool.false_or, beq_self_eq_true, dTT, dFF, dT, dF, bigI, big0, qkb, qn6, qn7, List.length_set, List.length_replicate, Int.toNat_natCast, qcu, qcv, imax, imin, qck, g, g2]
  exact e
theorem qjh (k : Nat) (hk : 2000000 ≤ k) (fu : List (Nat × Nat)) (r : Int) (b : List Int) (M S : Int) (m : List Cell) (hm : qj1 r 0 m = true) (z : Bool) (r' : Int) (z4 : Bool) (l5 : List Cell) (z6 : Bool) (l7 : List Int) (z8 : Bool) (l9 : List Int) (z10 : Bool) (l11 : List Int) (x12 : Int) : ∀ (N n : Nat) (s : S3), StV r s b M S → mu r s.1 m < n → n < N →
    lp (k + 7) spec_RemapState [] fu 5 (N) (qma (qm3 m s.1) z m r' z4 l5 z6 l7 z8 l9 z10 l11 x12 false s.1 false s.2.1 false s.2.2 false b r) = some [.agg [.int .i64 (r), .arr true (false) (.r3 ((rmN m n s).1)), .arr true (false) (.ints .i64 ((rmN m n s).2.1)), .arr true (false) (.ints .i64 ((rmN m n s).2.2)), .arr true (false) (.ints .i64 (b))], .bool true]
  | 0, n, s, V, h, hN => by omega
  | N + 1, 0, s, V, h, hN => by have := qj9 r s.1 m; omega
  | N + 1, n + 1, s, V, h, hN => by
    rw [qh3]
    have L := qj6 hm
    have T := qj6 V.u.mesh
    unfold rmN
    by_cases g : qm3 m s.1 < 0
    · rw [if_pos g]
      simp (disch := omega) only [qaf, nth0, nth1, nth2, nth3, bit, qcw, qcx, qc8, qdd, qde, qdf, qdg, qdh, qdi, qdj, qcy, qcz, qc0, qc1, qc2, qc3, qc4, qc5, qc6, qc7, qc9, qda, qdb, qdc, qni, qnh, qnj, qkc, qky, qkz, qg6, qag, qm5, nI, qds, qdq, Bool.not_true, Bool.not_false, Bool.and_true, Bool.true_and, Bool.and_false, Bool.false_and, Bool.or_true, Bool.true_or, Bool.or_false, Bool.false_or, beq_self_eq_true, dTT, dFF, dT, dF, bigI, big0, qkb, qn6, qn7, List.length_set, List.length_replicate, Int.toNat_natCast, qcu, qcv, imax, imin]
    · rw [if_neg g]
      have V' := rm_V V hm g
      have T' := qj6 V'.u.mesh
      have IH := qjh k hk fu r b M S m hm z r' z4 l5 z6 l7 z8 l9 z10 l11 x12 N n (rmS m s) V' (by have := qlj V.u hm g; omega) (by omega)
      have eS := qcg (k + 5) (by omega) false z (rmS m s).1 m r r' (by omega) (by omega)
      obtain ⟨i, C, H⟩ := qli V.u hm g
      have ci := C.hi
      rw [C.e]
      have eW := qcj (k + 3) (by omega) z m r' (s.1.getD i zz3) (by omega)
      rcases H with ⟨o, w, hl, e⟩ | ⟨q, j, o, hq, _, w, d, hj, sj, e⟩
      · have eR := qct (k + 2) (by omega) r s b V.u i ci hl
        rw [w] at eW
        rw [e] at eS IH ⊢
        simp (disch := omega) only [qaf, nth0, nth1, nth2, nth3, bit, qcw, qcx, qc8, qdd, qde, qdf, qdg, qdh, qdi, qdj, qcy, qcz, qc0, qc1, qc2, qc3, qc4, qc5, qc6, qc7, qc9, qda, qdb, qdc, qni, qnh, qnj, qkc, qky, qkz, qg6, qag, qm5, nI, qds, qdq, Bool.not_true, Bool.not_false, Bool.and_true, Bool.true_and, Bool.and_false, Bool.false_and, Bool.or_true, Bool.true_or, Bool.or_false, Bool.false_or, beq_self_eq_true, dTT, dFF, dT, dF, bigI, big0, qkb, qn6, qn7, List.length_set, List.length_replicate, Int.toNat_natCast, qcu, qcv, imax, imin, eW, eR, eS, IH]
      · have hv : 1 ≤ qic s.1 j := qmu sj
        have eC := qcs (k + 2) (by omega) r s b V.u j hj hv
        have eO := qca (k + 3) (by omega) z m r' (s.1.getD i zz3) (by omega)
        have eD := qb4 (k + 3) (by omega) false s.1 r (m.getD q zz3) (by omega)
        rw [w] at eW
        rw [o] at eO
        rw [d] at eD
        rw [e] at eS IH ⊢
        simp (disch := omega) only [qaf, nth0, nth1, nth2, nth3, bit, qcw, qcx, qc8, qdd, qde, qdf, qdg, qdh, qdi, qdj, qcy, qcz, qc0, qc1, qc2, qc3, qc4, qc5, qc6, qc7, qc9, qda, qdb, qdc, qni, qnh, qnj, qkc, qky, qkz, qg6, qag, qm5, nI, qds, qdq, Bool.not_true, Bool.not_false, Bool.and_true, Bool.true_and, Bool.and_false, Bool.false_and, Bool.or_true, Bool.true_or, Bool.or_false, Bool.false_or, beq_self_eq_true, dTT, dFF, dT, dF, bigI, big0, qkb, qn6, qn7, List.length_set, List.length_replicate, Int.toNat_natCast, qcu, qcv, imax, imin, eW, eO, eD, eC, eS, IH]
theorem qcb (k : Nat) (hk : 2000000 ≤ k) (r : Int) (s : S3) (b : List Int) (F : StF r s.1 s.2.1 s.2.2 b) (z : Bool) (m : List Cell) (hm : qj1 r 0 m = true) (hu : unb m < 0) :
    go (k + 8) spec_RemapState [.agg [.int .i64 (r), .arr false (false) (.r3 (s.1)), .arr false (false) (.ints .i64 (s.2.1)), .arr false (false) (.ints .i64 (s.2.2)), .arr false (false) (.ints .i64 (b))], .agg [.int .i64 r, .arr false z (.r3 m)]] = some [.agg [.int .i64 (r), .arr true (false) (.r3 ((rmp m s).1)), .arr true (false) (.ints .i64 ((rmp m s).2.1)), .arr true (false) (.ints .i64 ((rmp m s).2.2)), .arr true (false) (.ints .i64 (b))], .bool true] := by
  have V : StV r s b (isum s.2.1) (isum s.2.2) := ⟨F.toU, rfl, rfl⟩
  have rr := F.rr; have fl := F.len; have ml := F.ml; have tl := F.tl; have bl := F.bl
  have mm := qj6 hm
  have := qj8 (qnl V.u hm) (by omega)
  have e := qjh k hk [] r b _ _ m hm z r true [] true [] true [] true [] 0 (k + 7) 513 s V (by omega) (by omega)
  have eS := qcf k (by omega) r false s.1 false s.2.1 false s.2.2 false b (by omega) (by omega)
  rw [stF.2 F] at eS
  have eB := qb6 (k + 1) (by omega) r z m (by omega)
  rw [show qad r m = true by unfold qad; rw [hm, dT hu]; rfl] at eB
  have eT := qcg (k + 5) (by omega) false z s.1 m r r (by omega) (by omega)
  rw [qf4]
  simp (disch := omega) only [qaf, nth0, nth1, nth2, nth3, bit, qcw, qcx, qc8, qdd, qde, qdf, qdg, qdh, qdi, qdj, qcy, qcz, qc0, qc1, qc2, qc3, qc4, qc5, qc6, qc7, qc9, qda, qdb, qdc, qni, qnh, qnj, qkc, qky, qkz, qg6, qag, qm5, nI, qds, qdq, Bool.not_true, Bool.not_false, Bool.and_true, Bool.true_and, Bool.and_false, Bool.false_and, Bool.or_true, Bool.true_or, Bool.or_false, Bool.false_or, beq_self_eq_true, dTT, dFF, dT, dF, bigI, big0, qkb, qn6, qn7, List.length_set, List.length_replicate, Int.toNat_natCast, qcu, qcv, imax, imin, eS, eB, qcq, eT]
  exact e
theorem qch (k : Nat) (hk : 2000000 ≤ k) (r : Int) (s : S3) (b : List Int) (L : Int) (h1 : (s.1.length : Int) ≤ 1048576) (h4 : (b.length : Int) ≤ 1048576) :
    go (k + 9) spec_UniformOf [.agg [.int .i64 (r), .arr false (false) (.r3 (s.1)), .arr false (false) (.ints .i64 (s.2.1)), .arr false (false) (.ints .i64 (s.2.2)), .arr false (false) (.ints .i64 (b))], .int .i64 L] = cond (qnq r s b L) (some [.agg [.int .i64 (r), .arr true (false) (.r3 ((rmp (unM r L) s).1)), .arr true (false) (.ints .i64 ((rmp (unM r L) s).2.1)), .arr true (false) (.ints .i64 ((rmp (unM r L) s).2.2)), .arr true (false) (.ints .i64 (b))], .bool true]) (some [qgp, .bool false]) := by
  rw [qf9]
  have eM := qb8 (k + 6) (by omega) r L
  unfold qnq
  cases g : stOk r s.1 s.2.1 s.2.2 b
  · cases g1 : (inR r 1 8 && inR L 0 4)
    · rw [g1] at eM
      simp (disch := omega) only [qaf, nth0, nth1, nth2, nth3, bit, qcw, qcx, qc8, qdd, qde, qdf, qdg, qdh, qdi, qdj, qcy, qcz, qc0, qc1, qc2, qc3, qc4, qc5, qc6, qc7, qc9, qda, qdb, qdc, qni, qnh, qnj, qkc, qky, qkz, qg6, qag, qm5, nI, qds, qdq, Bool.not_true, Bool.not_false, Bool.and_true, Bool.true_and, Bool.and_false, Bool.false_and, Bool.or_true, Bool.true_or, Bool.or_false, Bool.false_or, beq_self_eq_true, dTT, dFF, dT, dF, bigI, big0, qkb, qn6, qn7, List.length_set, List.length_replicate, Int.toNat_natCast, qcu, qcv, imax, imin, eM]
    · rw [g1] at eM
      have eS := qcf k (by omega) r false s.1 false s.2.1 false s.2.2 false b h1 h4
      rw [g] at eS
      simp (disch := omega) only [qaf, nth0, nth1, nth2, nth3, bit, qcw, qcx, qc8, qdd, qde, qdf, qdg, qdh, qdi, qdj, qcy, qcz, qc0, qc1, qc2, qc3, qc4, qc5, qc6, qc7, qc9, qda, qdb, qdc, qni, qnh, qnj, qkc, qky, qkz, qg6, qag, qm5, nI, qds, qdq, Bool.not_true, Bool.not_false, Bool.and_true, Bool.true_and, Bool.and_false, Bool.false_and, Bool.or_true, Bool.true_or, Bool.or_false, Bool.false_or, beq_self_eq_true, dTT, dFF, dT, dF, bigI, big0, qkb, qn6, qn7, List.length_set, List.length_replicate, Int.toNat_natCast, qcu, qcv, imax, imin, eM, qf4, eS]
  · have F := stF.1 g
    have rr := F.rr
    rw [qg5.2 rr, Bool.true_and] at eM
    cases g2 : inR L 0 4
    · rw [g2] at eM
      simp (disch := omega) only [qaf, nth0, nth1, nth2, nth3, bit, qcw, qcx, qc8, qdd, qde, qdf, qdg, qdh, qdi, qdj, qcy, qcz, qc0, qc1, qc2, qc3, qc4, qc5, qc6, qc7, qc9, qda, qdb, qdc, qni, qnh, qnj, qkc, qky, qkz, qg6, qag, qm5, nI, qds, qdq, Bool.not_true, Bool.not_false, Bool.and_true, Bool.true_and, Bool.and_false, Bool.false_and, Bool.or_true, Bool.true_or, Bool.or_false, Bool.false_or, beq_self_eq_true, dTT, dFF, dT, dF, bigI, big0, qkb, qn6, qn7, List.length_set, List.length_replicate, Int.toNat_natCast, qcu, qcv, imax, imin, eM]
    · rw [g2] at eM
      have U := qno rr (qg5.1 g2)
      have eR := qcb k (by omega) r s b F false (unM r L) U.1 U.2
      simp (disch := omega) only [qaf, nth0, nth1, nth2, nth3, bit, qcw, qcx, qc8, qdd, qde, qdf, qdg, qdh, qdi, qdj, qcy, qcz, qc0, qc1, qc2, qc3, qc4, qc5, qc6, qc7, qc9, qda, qdb, qdc, qni, qnh, qnj, qkc, qky, qkz, qg6, qag, qm5, nI, qds, qdq, Bool.not_true, Bool.not_false, Bool.and_true, Bool.true_and, Bool.and_false, Bool.false_and, Bool.or_true, Bool.true_or, Bool.or_false, Bool.false_or, beq_self_eq_true, dTT, dFF, dT, dF, bigI, big0, qkb, qn6, qn7, List.length_set, List.length_replicate, Int.toNat_natCast, qcu, qcv, imax, imin, eM, eR]
end Go.Proofs.YtfgccfajhedgdaaGreat
end
section
namespace Go.Proofs.YtfgccfajhedgdaaGreat
open Go.Ev
theorem qe2 (k : Nat) (a0 : Int) (a1z : Bool) (a1 : List (Int × Int × Int)) (a2z : Bool) (a2 : List Int) (a3z : Bool) (a3 : List Int) (a4z : Bool) (a4 : List Int) (b : Int) : go (k + 1) laws_FnExactUniformOf [(.agg [(.int .i64 (a0)), (.arr false (a1z) (.r3 (a1))), (.arr false (a2z) (.ints .i64 (a2))), (.arr false (a3z) (.ints .i64 (a3))), (.arr false (a4z) (.ints .i64 (a4)))]), (.int .i64 (b))] =
 (go k laws_szState [(.agg [(.int .i64 (a0)), (.arr false (a1z) (.r3 (a1))), (.arr false (a2z) (.ints .i64 (a2))), (.arr false (a3z) (.ints .i64 (a3))), (.arr false (a4z) (.ints .i64 (a4)))]), (.int .i64 ((1048576 : Int)))]).bind fun r0 =>
 cond (decide (D.toInt (nth r0 0) < (0 : Int)))
 (some [(.bool (true))])
 ((go k laws_toState [(.agg [(.int .i64 (a0)), (.arr false (a1z) (.r3 (a1))), (.arr false (a2z) (.ints .i64 (a2))), (.arr false (a3z) (.ints .i64 (a3))), (.arr false (a4z) (.ints .i64 (a4)))])]).bind fun r1 =>
 (go k spec_UniformOf [(.agg [(.int .i64 (D.toInt (D.cell 0 (nth r1 0)))), (.arr false (D.nil (D.cell 1 (nth r1 0))) (.r3 (D.r3 (D.cell 1 (nth r1 0))))), (.arr false (D.nil (D.cell 2 (nth r1 0))) (.ints .i64 (D.ints (D.cell 2 (nth r1 0))))), (.arr false (D.nil (D.cell 3 (nth r1 0))) (.ints .i64 (D.ints (D.cell 3 (nth r1 0))))), (.arr false (D.nil (D.cell 4 (nth r1 0))) (.ints .i64 (D.ints (D.cell 4 (nth r1 0)))))]), (.int .i64 (b))]).bind fun r2 =>
 (go k laws_toState [(.agg [(.int .i64 (a0)), (.arr false (a1z) (.r3 (a1))), (.arr false (a2z) (.ints .i64 (a2))), (.arr false (a3z) (.ints .i64 (a3))), (.arr false (a4z) (.ints .i64 (a4)))])]).bind fun r3 =>
 (go k impl_UniformOf [(.agg [(.int .i64 (D.toInt (D.cell 0 (nth r3 0)))), (.arr false (D.nil (D.cell 1 (nth r3 0))) (.r3 (D.r3 (D.cell 1 (nth r3 0))))), (.arr false (D.nil (D.cell 2 (nth r3 0))) (.ints .i64 (D.ints (D.cell 2 (nth r3 0))))), (.arr false (D.nil (D.cell 3 (nth r3 0))) (.ints .i64 (D.ints (D.cell 3 (nth r3 0))))), (.arr false (D.nil (D.cell 4 (nth r3 0))) (.ints .i64 (D.ints (D.cell 4 (nth r3 0)))))]), (.int .i64 (b))]).bind fun r4 =>
 (go k laws_eqState [(.agg [(.int .i64 (D.toInt (D.cell 0 (nth r4 0)))), (.arr false (D.nil (D.cell 1 (nth r4 0))) (.r3 (D.r3 (D.cell 1 (nth r4 0))))), (.arr false (D.nil (D.cell 2 (nth r4 0))) (.ints .i64 (D.ints (D.cell 2 (nth r4 0))))), (.arr false (D.nil (D.cell 3 (nth r4 0))) (.ints .i64 (D.ints (D.cell 3 (nth r4 0))))), (.arr false (D.nil (D.cell 4 (nth r4 0))) (.ints .i64 (D.ints (D.cell 4 (nth r4 0)))))]), (.agg [(.int .i64 (D.toInt (D.cell 0 (nth r2 0)))), (.arr false (D.nil (D.cell 1 (nth r2 0))) (.r3 (D.r3 (D.cell 1 (nth r2 0))))), (.arr false (D.nil (D.cell 2 (nth r2 0))) (.ints .i64 (D.ints (D.cell 2 (nth r2 0))))), (.arr false (D.nil (D.cell 3 (nth r2 0))) (.ints .i64 (D.ints (D.cell 3 (nth r2 0))))), (.arr false (D.nil (D.cell 4 (nth r2 0))) (.ints .i64 (D.ints (D.cell 4 (nth r2 0)))))])]).bind fun r5 =>
 cond (!bit (nth r5 0))
 (some [(.bool (false))])
 (cond (!bit (nth r4 1) == bit (nth r2 1))
 (some [(.bool (false))])
 ((go k laws_toState [(.agg [(.int .i64 (a0)), (.arr false (a1z) (.r3 (a1))), (.arr false (a2z) (.ints .i64 (a2))), (.arr false (a3z) (.ints .i64 (a3))), (.arr false (a4z) (.ints .i64 (a4)))])]).bind fun r6 =>
 (go k laws_eqState [(.agg [(.int .i64 (D.toInt (D.cell 0 (nth r3 0)))), (.arr false (D.nil (D.cell 1 (nth r3 0))) (.r3 (D.r3 (D.cell 1 (nth r3 0))))), (.arr false (D.nil (D.cell 2 (nth r3 0))) (.ints .i64 (D.ints (D.cell 2 (nth r3 0))))), (.arr false (D.nil (D.cell 3 (nth r3 0))) (.ints .i64 (D.ints (D.cell 3 (nth r3 0))))), (.arr false (D.nil (D.cell 4 (nth r3 0))) (.ints .i64 (D.ints (D.cell 4 (nth r3 0)))))]), (.agg [(.int .i64 (D.toInt (D.cell 0 (nth r6 0)))), (.arr false (D.nil (D.cell 1 (nth r6 0))) (.r3 (D.r3 (D.cell 1 (nth r6 0))))), (.arr false (D.nil (D.cell 2 (nth r6 0))) (.ints .i64 (D.ints (D.cell 2 (nth r6 0))))), (.arr false (D.nil (D.cell 3 (nth r6 0))) (.ints .i64 (D.ints (D.cell 3 (nth r6 0))))), (.arr false (D.nil (D.cell 4 (nth r6 0))) (.ints .i64 (D.ints (D.cell 4 (nth r6 0)))))])]).bind fun r7 =>
 cond (!bit (nth r7 0))
 (some [(.bool (false))])
 ((go k laws_markState [(.agg [(.int .i64 (D.toInt (D.cell 0 (nth r3 0)))), (.arr true (D.nil (D.cell 1 (nth r3 0))) (.r3 (D.r3 (D.cell 1 (nth r3 0))))), (.arr true (D.nil (D.cell 2 (nth r3 0))) (.ints .i64 (D.ints (D.cell 2 (nth r3 0))))), (.arr true (D.nil (D.cell 3 (nth r3 0))) (.ints .i64 (D.ints (D.cell 3 (nth r3 0))))), (.arr true (D.nil (D.cell 4 (nth r3 0))) (.ints .i64 (D.ints (D.cell 4 (nth r3 0)))))]), (.int .i64 ((1 : Int)))]).bind fun r8 =>
 cond (decide (D.toInt (nth r8 0) < (0 : Int)))
 (some [(.bool (false))])
 ((go k laws_eqState [(.agg [(.int .i64 (D.toInt (D.cell 0 (nth r4 0)))), (.arr false (D.nil (D.cell 1 (nth r4 0))) (.r3 (D.r3 (D.cell 1 (nth r4 0))))), (.arr false (D.nil (D.cell 2 (nth r4 0))) (.ints .i64 (D.ints (D.cell 2 (nth r4 0))))), (.arr false (D.nil (D.cell 3 (nth r4 0))) (.ints .i64 (D.ints (D.cell 3 (nth r4 0))))), (.arr false (D.nil (D.cell 4 (nth r4 0))) (.ints .i64 (D.ints (D.cell 4 (nth r4 0)))))]), (.agg [(.int .i64 (D.toInt (D.cell 0 (nth r2 0)))), (.arr false (D.nil (D.cell 1 (nth r2 0))) (.r3 (D.r3 (D.cell 1 (nth r2 0))))), (.arr false (D.nil (D.cell 2 (nth r2 0))) (.ints .i64 (D.ints (D.cell 2 (nth r2 0))))), (.arr false (D.nil (D.cell 3 (nth r2 0))) (.ints .i64 (D.ints (D.cell 3 (nth r2 0))))), (.arr false (D.nil (D.cell 4 (nth r2 0))) (.ints .i64 (D.ints (D.cell 4 (nth r2 0)))))])]).bind fun r9 =>
 cond (!bit (nth r9 0))
 (some [(.bool (false))])
 (cond (!bit (nth r4 1) == bit (nth r2 1))
 (some [(.bool (false))])
 ((go k laws_markState [(.agg [(.int .i64 (D.toInt (D.cell 0 (nth r4 0)))), (.arr true (D.nil (D.cell 1 (nth r4 0))) (.r3 (D.r3 (D.cell 1 (nth r4 0))))), (.arr true (D.nil (D.cell 2 (nth r4 0))) (.ints .i64 (D.ints (D.cell 2 (nth r4 0))))), (.arr true (D.nil (D.cell 3 (nth r4 0))) (.ints .i64 (D.ints (D.cell 3 (nth r4 0))))), (.arr true (D.nil (D.cell 4 (nth r4 0))) (.ints .i64 (D.ints (D.cell 4 (nth r4 0)))))]), (.int .i64 ((1 : Int)))]).bind fun r10 =>
 (go k laws_heldState [(.agg [(.int .i64 (D.toInt (D.cell 0 (nth r4 0)))), (.arr false (D.nil (D.cell 1 (nth r4 0))) (.r3 (D.r3 (D.cell 1 (nth r10 1))))), (.arr false (D.nil (D.cell 2 (nth r4 0))) (.ints .i64 (D.ints (D.cell 2 (nth r10 1))))), (.arr false (D.nil (D.cell 3 (nth r4 0))) (.ints .i64 (D.ints (D.cell 3 (nth r10 1))))), (.arr false (D.nil (D.cell 4 (nth r4 0))) (.ints .i64 (D.ints (D.cell 4 (nth r10 1)))))]), (.int .i64 ((1 : Int)))]).bind fun r11 =>
 cond (decide (D.toInt (nth r11 0) < (0 : Int)))
 (some [(.bool (false))])
 (cond (!decide (D.toInt (nth r11 0) = D.toInt (nth r10 0)))
 (some [(.bool (false))])
 ((go k laws_toState [(.agg [(.int .i64 (a0)), (.arr false (a1z) (.r3 (a1))), (.arr false (a2z) (.ints .i64 (a2))), (.arr false (a3z) (.ints .i64 (a3))), (.arr false (a4z) (.ints .i64 (a4)))])]).bind fun r12 =>
 (go k impl_UniformOf [(.agg [(.int .i64 (D.toInt (D.cell 0 (nth r12 0)))), (.arr false (D.nil (D.cell 1 (nth r12 0))) (.r3 (D.r3 (D.cell 1 (nth r12 0))))), (.arr false (D.nil (D.cell 2 (nth r12 0))) (.ints .i64 (D.ints (D.cell 2 (nth r12 0))))), (.arr false (D.nil (D.cell 3 (nth r12 0))) (.ints .i64 (D.ints (D.cell 3 (nth r12 0))))), (.arr false (D.nil (D.cell 4 (nth r12 0))) (.ints .i64 (D.ints (D.cell 4 (nth r12 0)))))]), (.int .i64 (b))]).bind fun r13 =>
 (go k laws_eqState [(.agg [(.int .i64 (D.toInt (D.cell 0 (nth r13 0)))), (.arr false (D.nil (D.cell 1 (nth r13 0))) (.r3 (D.r3 (D.cell 1 (nth r13 0))))), (.arr false (D.nil (D.cell 2 (nth r13 0))) (.ints .i64 (D.ints (D.cell 2 (nth r13 0))))), (.arr false (D.nil (D.cell 3 (nth r13 0))) (.ints .i64 (D.ints (D.cell 3 (nth r13 0))))), (.arr false (D.nil (D.cell 4 (nth r13 0))) (.ints .i64 (D.ints (D.cell 4 (nth r13 0)))))]), (.agg [(.int .i64 (D.toInt (D.cell 0 (nth r2 0)))), (.arr false (D.nil (D.cell 1 (nth r2 0))) (.r3 (D.r3 (D.cell 1 (nth r2 0))))), (.arr false (D.nil (D.cell 2 (nth r2 0))) (.ints .i64 (D.ints (D.cell 2 (nth r2 0))))), (.arr false (D.nil (D.cell 3 (nth r2 0))) (.ints .i64 (D.ints (D.cell 3 (nth r2 0))))), (.arr false (D.nil (D.cell 4 (nth r2 0))) (.ints .i64 (D.ints (D.cell 4 (nth r2 0)))))])]).bind fun r14 =>
 cond (!bit (nth r14 0))
 (some [(.bool (false))])
 (cond (!bit (nth r13 1) == bit (nth r2 1))
 (some [(.bool (false))])
 ((go k laws_heldState [(.agg [(.int .i64 (D.toInt (D.cell 0 (nth r4 0)))), (.arr false (D.nil (D.cell 1 (nth r4 0))) (.r3 (D.r3 (D.cell 1 (nth r10 1))))), (.arr false (D.nil (D.cell 2 (nth r4 0))) (.ints .i64 (D.ints (D.cell 2 (nth r10 1))))), (.arr false (D.nil (D.cell 3 (nth r4 0))) (.ints .i64 (D.ints (D.cell 3 (nth r10 1))))), (.arr false (D.nil (D.cell 4 (nth r4 0))) (.ints .i64 (D.ints (D.cell 4 (nth r10 1)))))]), (.int .i64 ((1 : Int)))]).bind fun r15 =>
 cond (decide (D.toInt (nth r15 0) < (0 : Int)))
 (some [(.bool (false))])
 (cond (!decide (D.toInt (nth r15 0) = D.toInt (nth r10 0)))
 (some [(.bool (false))])
 (some [(.bool (true))]))))))))))))) := by kernel_rfl

end Go.Proofs.YtfgccfajhedgdaaGreat
end
section
namespace Go.Proofs.YtfgccfajhedgdaaGreat
open Go.Ev
set_option maxRecDepth 20000
theorem qjo (k : Nat) (hk : 2000000 ≤ k) (b : Int) (h0 : 0 ≤ b) (hb : b ≤ 8700000000000) : go (k + 3) laws_markState [.agg [.int .i64 (0), .arr true (true) (.r3 ([])), .arr true (true) (.ints .i64 ([])), .arr true (true) (.ints .i64 ([])), .arr true (true) (.ints .i64 ([]))], .int .i64 b] = some [.int .i64 b, .agg [.int .i64 (0), .arr true (true) (.r3 ([])), .arr true (true) (.ints .i64 ([])), .arr true (true) (.ints .i64 ([])), .arr true (true) (.ints .i64 ([]))]] := by
  have e := qbo k hk 0 true [] true [] true [] true [] b (by simp) (by simp) (by simp) (by simp) h0 hb
  simp only [List.length_nil, Int.natCast_zero, Int.mul_zero, Int.add_zero] at e
  exact e
theorem qg0 (k : Nat) (hk : 2000000 ≤ k) (b : Int) (h0 : 0 ≤ b) (hb : b ≤ 8700000000000) : go (k + 3) laws_heldState [.agg [.int .i64 (0), .arr false (true) (.r3 ([])), .arr false (true) (.ints .i64 ([])), .arr false (true) (.ints .i64 ([])), .arr false (true) (.ints .i64 ([]))], .int .i64 b] = some [.int .i64 b] := by
  have e := qbk k hk 0 true true true true 0 0 0 0 b (by omega) (by omega) (by omega) (by omega) h0 hb
  simp only [Int.natCast_zero, Int.mul_zero, Int.add_zero] at e
  exact e
theorem qgu (k : Nat) (hk : 2000000 ≤ k) : go (k + 4) laws_eqState [.agg [.int .i64 (0), .arr false (true) (.r3 ([])), .arr false (true) (.ints .i64 ([])), .arr false (true) (.ints .i64 ([])), .arr false (true) (.ints .i64 ([]))], .agg [.int .i64 (0), .arr false (true) (.r3 ([])), .arr false (true) (.ints .i64 ([])), .arr false (true) (.ints .i64 ([])), .arr false (true) (.ints .i64 ([]))]] = some [.bool true] :=
  qbg k hk 0 true true true true true true true true [] [] [] [] (by simp) (by simp) (by simp) (by simp)
theorem law_UniformOf (k : Nat) (hk : 2000000 ≤ k) (a0 : Int) (a1z : Bool) (a1 : List (Int × Int × Int)) (a2z : Bool) (a2 : List Int) (a3z : Bool) (a3 : List Int) (a4z : Bool) (a4 : List Int) (b : Int) (hl_a1 : (a1.length : Int) ≤ 9223372036854775807) (hl_a2 : (a2.length : Int) ≤ 9223372036854775807) (hl_a3 : (a3.length : Int) ≤ 9223372036854775807) (hl_a4 : (a4.length : Int) ≤ 9223372036854775807) : go (k + 11) laws_FnExactUniformOf [(.agg [(.int .i64 (a0)), (.arr false (a1z) (.r3 (a1))), (.arr false (a2z) (.ints .i64 (a2))), (.arr false (a3z) (.ints .i64 (a3))), (.arr false (a4z) (.ints .i64 (a4)))]), (.int .i64 (b))] = some [.bool true] := by
  rw [qe2]
  by_cases h : (a1.length : Int) + a2.length + a3.length + a4.length ≤ 1048576
  case neg => simp (disch := omega) only [qaf, nth0, nth1, nth2, nth3, bit, qcw, qcx, qc8, qdd, qde, qdf, qdg, qdh, qdi, qdj, qcy, qcz, qc0, qc1, qc2, qc3, qc4, qc5, qc6, qc7, qc9, qda, qdb, qdc, qni, qnh, qnj, qkc, qky, qkz, qg6, qag, qm5, nI, qds, qdq, Bool.not_true, Bool.not_false, Bool.and_true, Bool.true_and, Bool.and_false, Bool.false_and, Bool.or_true, Bool.true_or, Bool.or_false, Bool.false_or, beq_self_eq_true, dTT, dFF, dT, dF, bigI, big0, qkb, qn6, qn7, List.length_set, List.length_replicate, Int.toNat_natCast, qcu, qcv, imax, imin, qbs, if_neg h]
  cases g : qnq a0 (a1, a2, a3) a4 b
  · have eA : ∀ (k : Nat), 2000000 ≤ k → go (k + 9) spec_UniformOf [.agg [.int .i64 (a0), .arr false (false) (.r3 (a1)), .arr false (false) (.ints .i64 (a2)), .arr false (false) (.ints .i64 (a3)), .arr false (false) (.ints .i64 (a4))], .int .i64 b] = some [qgp, .bool false] := fun k hk =>
      (qch k hk a0 (a1, a2, a3) a4 b (by simp only; omega) (by omega)).trans (by rw [g, qdq])
    have eB : ∀ (k : Nat), 2000000 ≤ k → go (k + 10) impl_UniformOf [.agg [.int .i64 (a0), .arr false (false) (.r3 (a1)), .arr false (false) (.ints .i64 (a2)), .arr false (false) (.ints .i64 (a3)), .arr false (false) (.ints .i64 (a4))], .int .i64 b] = some [qgp, .bool false] := fun k hk =>
      (qaw k hk a0 (a1, a2, a3) a4 b (by simp only; omega) (by omega)).trans (by rw [g, qdq])
    simp (disch := omega) only [qaf, nth0, nth1, nth2, nth3, bit, qcw, qcx, qc8, qdd, qde, qdf, qdg, qdh, qdi, qdj, qcy, qcz, qc0, qc1, qc2, qc3, qc4, qc5, qc6, qc7, qc9, qda, qdb, qdc, qni, qnh, qnj, qkc, qky, qkz, qg6, qag, qm5, nI, qds, qdq, Bool.not_true, Bool.not_false, Bool.and_true, Bool.true_and, Bool.and_false, Bool.false_and, Bool.or_true, Bool.true_or, Bool.or_false, Bool.false_or, beq_self_eq_true, dTT, dFF, dT, dF, bigI, big0, qkb, qn6, qn7, List.length_set, List.length_replicate, Int.toNat_natCast, qcu, qcv, imax, imin, qbs, if_pos h, qbx, eA, eB, qgu, qbg, qjo, qbo, qg0]
  · have eA : ∀ (k : Nat), 2000000 ≤ k → go (k + 9) spec_UniformOf [.agg [.int .i64 (a0), .arr false (false) (.r3 (a1)), .arr false (false) (.ints .i64 (a2)), .arr false (false) (.ints .i64 (a3)), .arr false (false) (.ints .i64 (a4))], .int .i64 b] = some [.agg [.int .i64 (a0), .arr true (false) (.r3 ((rmp (unM a0 b) (a1, a2, a3)).1)), .arr true (false) (.ints .i64 ((rmp (unM a0 b) (a1, a2, a3)).2.1)), .arr true (false) (.ints .i64 ((rmp (unM a0 b) (a1, a2, a3)).2.2)), .arr true (false) (.ints .i64 (a4))], .bool true] := fun k hk =>
      (qch k hk a0 (a1, a2, a3) a4 b (by simp only; omega) (by omega)).trans (by rw [g, qds])
    have eB : ∀ (k : Nat), 2000000 ≤ k → go (k + 10) impl_UniformOf [.agg [.int .i64 (a0), .arr false (false) (.r3 (a1)), .arr false (false) (.ints .i64 (a2)), .arr false (false) (.ints .i64 (a3)), .arr false (false) (.ints .i64 (a4))], .int .i64 b] = some [.agg [.int .i64 (a0), .arr true (false) (.r3 ((rmp (unM a0 b) (a1, a2, a3)).1)), .arr true (false) (.ints .i64 ((rmp (unM a0 b) (a1, a2, a3)).2.1)), .arr true (false) (.ints .i64 ((rmp (unM a0 b) (a1, a2, a3)).2.2)), .arr true (false) (.ints .i64 (a4))], .bool true] := fun k hk =>
      (qaw k hk a0 (a1, a2, a3) a4 b (by simp only; omega) (by omega)).trans (by rw [g, qds])
    have g' := g
    unfold qnq at g'
    rw [Bool.and_eq_true] at g'
    have F := stF.1 g'.1
    have U := qno F.rr (qg5.1 g'.2)
    have W := (qlk F U.1 U.2).1
    have u0 := W.len; have u1 := W.ml; have u2 := W.tl; have u3 := W.bl; have rr := F.rr
    generalize rmp (unM a0 b) (a1, a2, a3) = t at eA eB u0 u1 u2 u3
    obtain ⟨t1, t2, t3⟩ := t
    simp only at eA eB u0 u1 u2 u3
    simp (disch := omega) only [qaf, nth0, nth1, nth2, nth3, bit, qcw, qcx, qc8, qdd, qde, qdf, qdg, qdh, qdi, qdj, qcy, qcz, qc0, qc1, qc2, qc3, qc4, qc5, qc6, qc7, qc9, qda, qdb, qdc, qni, qnh, qnj, qkc, qky, qkz, qg6, qag, qm5, nI, qds, qdq, Bool.not_true, Bool.not_false, Bool.and_true, Bool.true_and, Bool.and_false, Bool.false_and, Bool.or_true, Bool.true_or, Bool.or_false, Bool.false_or, beq_self_eq_true, dTT, dFF, dT, dF, bigI, big0, qkb, qn6, qn7, List.length_set, List.length_replicate, Int.toNat_natCast, qcu, qcv, imax, imin, qbs, if_pos h, qbx, eA, eB, qbg, qbo, qbk]
end Go.Proofs.YtfgccfajhedgdaaGreat
end
