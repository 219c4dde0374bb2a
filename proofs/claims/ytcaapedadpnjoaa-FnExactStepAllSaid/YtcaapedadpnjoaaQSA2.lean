/- What the program's functions compute, and plain facts of it (part 2). No condition beyond those that each theorem states. -/
import Derived.Test.YtcaapedadpnjoaaQSA1
set_option linter.unusedVariables false
set_option linter.unusedSimpArgs false
section
namespace Go.Proofs.Ytcaapedadpnjoaa
open Go.Ev
set_option maxRecDepth 20000
def qm0 (r : List RC) : Bool := stOk (rcAt r 0).num (rcAt r 1).r3s (rcAt r 2).ints (rcAt r 3).ints (rcAt r 4).ints
def qmz (r q : List RC) : Bool := qmo (rcAt r 0).num (rcAt q 0).num (rcAt r 1).r3s (rcAt q 1).r3s
def qim (r : List RC) : Prop := ((rcAt r 1).r3s.length : Int) ≤ 1048576 ∧ ((rcAt r 2).ints.length : Int) ≤ 1048576 ∧ ((rcAt r 3).ints.length : Int) ≤ 1048576 ∧ ((rcAt r 4).ints.length : Int) ≤ 1048576
def askF (l : List (List RC)) : Nat → Nat → Bool
  | 0, i => true
  | m + 1, i => (qm0 (rrow l i) && qmz (rrow l i) (rrow l 0)) && askF l m (i + 1)
def askE (l : List (List RC)) : Bool := inR (l.length : Int) 1 100 && askF l l.length 0
theorem qa1 (k : Nat) (hk : 2000000 ≤ k) (z : Bool) (l : List (List RC)) (r : List RC) (hl : 0 < l.length) (hr : qim r) : go (k + 9) impl_EnvelopeOf_1 [.agg [.int .i64 (rcAt r 0).num, .arr false (rcAt r 1).nil (.r3 (rcAt r 1).r3s), .arr false (rcAt r 2).nil (.ints .i64 (rcAt r 2).ints), .arr false (rcAt r 3).nil (.ints .i64 (rcAt r 3).ints), .arr false (rcAt r 4).nil (.ints .i64 (rcAt r 4).ints)], .ptr false [.rows z [.n, .r3, .is, .is, .is] l]] = some [.bool (!(qm0 r && qmz r (rrow l 0)))] := by
  rw [qej]
  obtain ⟨h1, h2, h3, h4⟩ := hr
  have t0 : Int.toNat 0 = 0 := rfl
  unfold qm0 qmz
  cases g : stOk (rcAt r 0).num (rcAt r 1).r3s (rcAt r 2).ints (rcAt r 3).ints (rcAt r 4).ints
  · simp (disch := omega) only [qaw, nth0, nth1, nth2, nth3, bit, qde, qdf, qdq, qdv, qdw, qdx, qdy, qdz, qd0, qd1, qdg, qdh, qdi, qdj, qdk, qdl, qdm, qdn, qdo, qdp, qdr, qds, qdt, qdu, qnn, qnm, qno, qko, qlb, qlc, qhh, qax, qm5, nI, qd7, qd5, Bool.not_true, Bool.not_false, Bool.and_true, Bool.true_and, Bool.and_false, Bool.false_and, Bool.or_true, Bool.true_or, Bool.or_false, Bool.false_or, beq_self_eq_true, dTT, dFF, dT, dF, bigI, big0, qkn, qn7, qn8, List.length_set, List.length_replicate, Int.toNat_natCast, qdc, qdd, imax, imin, qbd, g]
  · simp (disch := omega) only [qaw, nth0, nth1, nth2, nth3, bit, qde, qdf, qdq, qdv, qdw, qdx, qdy, qdz, qd0, qd1, qdg, qdh, qdi, qdj, qdk, qdl, qdm, qdn, qdo, qdp, qdr, qds, qdt, qdu, qnn, qnm, qno, qko, qlb, qlc, qhh, qax, qm5, nI, qd7, qd5, Bool.not_true, Bool.not_false, Bool.and_true, Bool.true_and, Bool.and_false, Bool.false_and, Bool.or_true, Bool.true_or, Bool.or_false, Bool.false_or, beq_self_eq_true, dTT, dFF, dT, dF, bigI, big0, qkn, qn7, qn8, List.length_set, List.length_replicate, Int.toNat_natCast, qdc, qdd, imax, imin, qbd, g, t0, qba]
theorem qiq (k : Nat) (hk : 2000000 ≤ k) (fu : List (Nat × Nat)) (z z' : Bool) (l : List (List RC)) (hl : l.length ≤ 100) (hr : ∀ i, i < l.length → qim (rrow l i)) : ∀ (m N i : Nat), i + m = l.length → m < N →
    ∃ x, lp (k + 9) slices_IndexFunc_impl_State_impl_State [] fu 2 (N) (qmb (l.length : Int) (i : Int) z l z' l) = some [.int .i64 x] ∧ decide (0 ≤ x) = !askF l m i
  | 0, N + 1, i, hi, hN => by
    refine ⟨-1, ?_, rfl⟩
    rw [qh7]
    simp (disch := omega) only [qaw, nth0, nth1, nth2, nth3, bit, qde, qdf, qdq, qdv, qdw, qdx, qdy, qdz, qd0, qd1, qdg, qdh, qdi, qdj, qdk, qdl, qdm, qdn, qdo, qdp, qdr, qds, qdt, qdu, qnn, qnm, qno, qko, qlb, qlc, qhh, qax, qm5, nI, qd7, qd5, Bool.not_true, Bool.not_false, Bool.and_true, Bool.true_and, Bool.and_false, Bool.false_and, Bool.or_true, Bool.true_or, Bool.or_false, Bool.false_or, beq_self_eq_true, dTT, dFF, dT, dF, bigI, big0, qkn, qn7, qn8, List.length_set, List.length_replicate, Int.toNat_natCast, qdc, qdd, imax, imin]
  | m + 1, N + 1, i, hi, hN => by
    rw [qh7, askF]
    have e := qa1 k (by omega) z' l (rrow l i) (by omega) (hr i (by omega))
    cases g : (qm0 (rrow l i) && qmz (rrow l i) (rrow l 0))
    · rw [g] at e
      exact ⟨(i : Int), by simp (disch := omega) only [qaw, nth0, nth1, nth2, nth3, bit, qde, qdf, qdq, qdv, qdw, qdx, qdy, qdz, qd0, qd1, qdg, qdh, qdi, qdj, qdk, qdl, qdm, qdn, qdo, qdp, qdr, qds, qdt, qdu, qnn, qnm, qno, qko, qlb, qlc, qhh, qax, qm5, nI, qd7, qd5, Bool.not_true, Bool.not_false, Bool.and_true, Bool.true_and, Bool.and_false, Bool.false_and, Bool.or_true, Bool.true_or, Bool.or_false, Bool.false_or, beq_self_eq_true, dTT, dFF, dT, dF, bigI, big0, qkn, qn7, qn8, List.length_set, List.length_replicate, Int.toNat_natCast, qdc, qdd, imax, imin, e], by rw [Bool.false_and]; exact dT (by omega)⟩
    · rw [g] at e
      obtain ⟨x, e2, p⟩ := qiq k hk fu z z' l hl hr m N (i + 1) (by omega) (by omega)
      exact ⟨x, by
        simp (disch := omega) only [qaw, nth0, nth1, nth2, nth3, bit, qde, qdf, qdq, qdv, qdw, qdx, qdy, qdz, qd0, qd1, qdg, qdh, qdi, qdj, qdk, qdl, qdm, qdn, qdo, qdp, qdr, qds, qdt, qdu, qnn, qnm, qno, qko, qlb, qlc, qhh, qax, qm5, nI, qd7, qd5, Bool.not_true, Bool.not_false, Bool.and_true, Bool.true_and, Bool.and_false, Bool.false_and, Bool.or_true, Bool.true_or, Bool.or_false, Bool.false_or, beq_self_eq_true, dTT, dFF, dT, dF, bigI, big0, qkn, qn7, qn8, List.length_set, List.length_replicate, Int.toNat_natCast, qdc, qdd, imax, imin, e]
        exact e2, by rw [Bool.true_and]; exact p⟩
theorem qip (k : Nat) (hk : 2000000 ≤ k) (fu : List (Nat × Nat)) (z : Bool) (l : List (List RC)) (hl : l.length ≤ 100) (hr : ∀ i, i < l.length → qim (rrow l i)) : ∀ (m N i : Nat), i + m = l.length → m < N →
    lp (k + 7) spec_l34Ask [] fu 4 (N) (qml (i : Int) z l) = some [.bool (askF l m i)]
  | 0, N + 1, i, hi, hN => by
    rw [qih]
    simp (disch := omega) only [qaw, nth0, nth1, nth2, nth3, bit, qde, qdf, qdq, qdv, qdw, qdx, qdy, qdz, qd0, qd1, qdg, qdh, qdi, qdj, qdk, qdl, qdm, qdn, qdo, qdp, qdr, qds, qdt, qdu, qnn, qnm, qno, qko, qlb, qlc, qhh, qax, qm5, nI, qd7, qd5, Bool.not_true, Bool.not_false, Bool.and_true, Bool.true_and, Bool.and_false, Bool.false_and, Bool.or_true, Bool.true_or, Bool.or_false, Bool.false_or, beq_self_eq_true, dTT, dFF, dT, dF, bigI, big0, qkn, qn7, qn8, List.length_set, List.length_replicate, Int.toNat_natCast, qdc, qdd, imax, imin]
    rfl
  | m + 1, N + 1, i, hi, hN => by
    rw [qih, askF]
    obtain ⟨h1, h2, h3, h4⟩ := hr i (by omega)
    have IH := qip k hk fu z l hl hr m N (i + 1) (by omega) (by omega)
    have t0 : Int.toNat 0 = 0 := rfl
    unfold qm0 qmz
    cases g : stOk (rcAt (rrow l i) 0).num (rcAt (rrow l i) 1).r3s (rcAt (rrow l i) 2).ints (rcAt (rrow l i) 3).ints (rcAt (rrow l i) 4).ints
    · simp (disch := omega) only [qaw, nth0, nth1, nth2, nth3, bit, qde, qdf, qdq, qdv, qdw, qdx, qdy, qdz, qd0, qd1, qdg, qdh, qdi, qdj, qdk, qdl, qdm, qdn, qdo, qdp, qdr, qds, qdt, qdu, qnn, qnm, qno, qko, qlb, qlc, qhh, qax, qm5, nI, qd7, qd5, Bool.not_true, Bool.not_false, Bool.and_true, Bool.true_and, Bool.and_false, Bool.false_and, Bool.or_true, Bool.true_or, Bool.or_false, Bool.false_or, beq_self_eq_true, dTT, dFF, dT, dF, bigI, big0, qkn, qn7, qn8, List.length_set, List.length_replicate, Int.toNat_natCast, qdc, qdd, imax, imin, qcy, g]
    cases g2 : qmo (rcAt (rrow l i) 0).num (rcAt (rrow l 0) 0).num (rcAt (rrow l i) 1).r3s (rcAt (rrow l 0) 1).r3s
    · simp (disch := omega) only [qaw, nth0, nth1, nth2, nth3, bit, qde, qdf, qdq, qdv, qdw, qdx, qdy, qdz, qd0, qd1, qdg, qdh, qdi, qdj, qdk, qdl, qdm, qdn, qdo, qdp, qdr, qds, qdt, qdu, qnn, qnm, qno, qko, qlb, qlc, qhh, qax, qm5, nI, qd7, qd5, Bool.not_true, Bool.not_false, Bool.and_true, Bool.true_and, Bool.and_false, Bool.false_and, Bool.or_true, Bool.true_or, Bool.or_false, Bool.false_or, beq_self_eq_true, dTT, dFF, dT, dF, bigI, big0, qkn, qn7, qn8, List.length_set, List.length_replicate, Int.toNat_natCast, qdc, qdd, imax, imin, qcy, g, t0, qcv, g2]
    · simp (disch := omega) only [qaw, nth0, nth1, nth2, nth3, bit, qde, qdf, qdq, qdv, qdw, qdx, qdy, qdz, qd0, qd1, qdg, qdh, qdi, qdj, qdk, qdl, qdm, qdn, qdo, qdp, qdr, qds, qdt, qdu, qnn, qnm, qno, qko, qlb, qlc, qhh, qax, qm5, nI, qd7, qd5, Bool.not_true, Bool.not_false, Bool.and_true, Bool.true_and, Bool.and_false, Bool.false_and, Bool.or_true, Bool.true_or, Bool.or_false, Bool.false_or, beq_self_eq_true, dTT, dFF, dT, dF, bigI, big0, qkn, qn7, qn8, List.length_set, List.length_replicate, Int.toNat_natCast, qdc, qdd, imax, imin, qcy, g, t0, qcv, g2]
      exact IH
end Go.Proofs.Ytcaapedadpnjoaa
end
section
namespace Go.Proofs.Ytcaapedadpnjoaa
open Go Go.RowKit Go.Ev
set_option maxRecDepth 20000
def qil (r : List RC) : Prop := ((rcAt r 1).r3s.length : Int) ≤ 9223372036854775807 ∧ ((rcAt r 2).ints.length : Int) ≤ 9223372036854775807 ∧ ((rcAt r 3).ints.length : Int) ≤ 9223372036854775807 ∧ ((rcAt r 4).ints.length : Int) ≤ 9223372036854775807
theorem qjm (k : Nat) (hk : 2000000 ≤ k) (fu : List (Nat × Nat)) (z : Bool) (l : List (List RC)) (hl : (l.length : Int) ≤ 1048576) (hf : ∀ i, i < l.length → qil (rrow l i)) : ∀ (m N i : Nat) (x : Int), i + m = l.length → 0 ≤ x ∧ x ≤ 1048576 → m < N →
    ∃ y, lp (k + 3) laws_szStateS [] fu 5 (N) (ql7 x (i : Int) z l) = some [.int .i64 y] ∧ (y < 0 ∨ (0 ≤ y ∧ y ≤ 1048576 ∧ ∀ j, i ≤ j → j < l.length → qim (rrow l j)))
  | 0, N + 1, i, x, hi, hx, hN => by
    refine ⟨x, ?_, .inr ⟨hx.1, hx.2, fun j h1 h2 => by omega⟩⟩
    rw [qh3]
    simp (disch := omega) only [qaw, nth0, nth1, nth2, nth3, bit, qde, qdf, qdq, qdv, qdw, qdx, qdy, qdz, qd0, qd1, qdg, qdh, qdi, qdj, qdk, qdl, qdm, qdn, qdo, qdp, qdr, qds, qdt, qdu, qnn, qnm, qno, qko, qlb, qlc, qhh, qax, qm5, nI, qd7, qd5, Bool.not_true, Bool.not_false, Bool.and_true, Bool.true_and, Bool.and_false, Bool.false_and, Bool.or_true, Bool.true_or, Bool.or_false, Bool.false_or, beq_self_eq_true, dTT, dFF, dT, dF, bigI, big0, qkn, qn7, qn8, List.length_set, List.length_replicate, Int.toNat_natCast, qdc, qdd, imax, imin]
  | m + 1, N + 1, i, x, hi, hx, hN => by
    rw [qh3]
    obtain ⟨f1, f2, f3, f4⟩ := hf i (by omega)
    have e := qcd k (by omega) (rcAt (rrow l i) 0).num (rcAt (rrow l i) 1).nil (rcAt (rrow l i) 1).r3s (rcAt (rrow l i) 2).nil (rcAt (rrow l i) 2).ints (rcAt (rrow l i) 3).nil (rcAt (rrow l i) 3).ints (rcAt (rrow l i) 4).nil (rcAt (rrow l i) 4).ints x f1 f2 f3 f4 hx.1 hx.2
    by_cases h : ((rcAt (rrow l i) 1).r3s.length : Int) + (rcAt (rrow l i) 2).ints.length + (rcAt (rrow l i) 3).ints.length + (rcAt (rrow l i) 4).ints.length ≤ x
    case neg =>
      rw [if_neg h] at e
      exact ⟨-1, by simp (disch := omega) only [qaw, nth0, nth1, nth2, nth3, bit, qde, qdf, qdq, qdv, qdw, qdx, qdy, qdz, qd0, qd1, qdg, qdh, qdi, qdj, qdk, qdl, qdm, qdn, qdo, qdp, qdr, qds, qdt, qdu, qnn, qnm, qno, qko, qlb, qlc, qhh, qax, qm5, nI, qd7, qd5, Bool.not_true, Bool.not_false, Bool.and_true, Bool.true_and, Bool.and_false, Bool.false_and, Bool.or_true, Bool.true_or, Bool.or_false, Bool.false_or, beq_self_eq_true, dTT, dFF, dT, dF, bigI, big0, qkn, qn7, qn8, List.length_set, List.length_replicate, Int.toNat_natCast, qdc, qdd, imax, imin, e], .inl (by omega)⟩
    rw [if_pos h] at e
    obtain ⟨y, e2, p⟩ := qjm k hk fu z l hl hf m N (i + 1) (x - (rcAt (rrow l i) 1).r3s.length - (rcAt (rrow l i) 2).ints.length - (rcAt (rrow l i) 3).ints.length - (rcAt (rrow l i) 4).ints.length) (by omega) (by omega) (by omega)
    refine ⟨y, ?_, ?_⟩
    · simp (disch := omega) only [qaw, nth0, nth1, nth2, nth3, bit, qde, qdf, qdq, qdv, qdw, qdx, qdy, qdz, qd0, qd1, qdg, qdh, qdi, qdj, qdk, qdl, qdm, qdn, qdo, qdp, qdr, qds, qdt, qdu, qnn, qnm, qno, qko, qlb, qlc, qhh, qax, qm5, nI, qd7, qd5, Bool.not_true, Bool.not_false, Bool.and_true, Bool.true_and, Bool.and_false, Bool.false_and, Bool.or_true, Bool.true_or, Bool.or_false, Bool.false_or, beq_self_eq_true, dTT, dFF, dT, dF, bigI, big0, qkn, qn7, qn8, List.length_set, List.length_replicate, Int.toNat_natCast, qdc, qdd, imax, imin, e]
      exact e2
    · rcases p with p | ⟨p1, p2, p3⟩
      · exact .inl p
      · refine .inr ⟨p1, p2, fun j h1 h2 => ?_⟩
        by_cases hj : j = i
        · subst hj; exact ⟨by omega, by omega, by omega, by omega⟩
        · exact p3 j (by omega) h2
theorem qce (k : Nat) (hk : 2000000 ≤ k) (z : Bool) (l : List (List RC)) (hl : (l.length : Int) ≤ 9223372036854775807) (hf : ∀ i, i < l.length → qil (rrow l i)) : ∃ y, go (k + 4) laws_szStateS [.rows z zSt l, .int .i64 1048576] = some [.int .i64 y] ∧ (y < 0 ∨ (0 ≤ y ∧ y ≤ 1048576 ∧ (l.length : Int) ≤ 1048576 ∧ ∀ j, j < l.length → qim (rrow l j))) := by
  rw [qft]
  by_cases h : (l.length : Int) ≤ 1048576
  case neg => exact ⟨-1, by simp (disch := omega) only [qaw, nth0, nth1, nth2, nth3, bit, qde, qdf, qdq, qdv, qdw, qdx, qdy, qdz, qd0, qd1, qdg, qdh, qdi, qdj, qdk, qdl, qdm, qdn, qdo, qdp, qdr, qds, qdt, qdu, qnn, qnm, qno, qko, qlb, qlc, qhh, qax, qm5, nI, qd7, qd5, Bool.not_true, Bool.not_false, Bool.and_true, Bool.true_and, Bool.and_false, Bool.false_and, Bool.or_true, Bool.true_or, Bool.or_false, Bool.false_or, beq_self_eq_true, dTT, dFF, dT, dF, bigI, big0, qkn, qn7, qn8, List.length_set, List.length_replicate, Int.toNat_natCast, qdc, qdd, imax, imin], .inl (by omega)⟩
  obtain ⟨y, e, p⟩ := qjm k hk [] z l h hf l.length (k + 3) 0 (1048576 - l.length) (by omega) (by omega) (by omega)
  rw [show ((0 : Nat) : Int) = 0 from rfl] at e
  refine ⟨y, ?_, ?_⟩
  · simp (disch := omega) only [qaw, nth0, nth1, nth2, nth3, bit, qde, qdf, qdq, qdv, qdw, qdx, qdy, qdz, qd0, qd1, qdg, qdh, qdi, qdj, qdk, qdl, qdm, qdn, qdo, qdp, qdr, qds, qdt, qdu, qnn, qnm, qno, qko, qlb, qlc, qhh, qax, qm5, nI, qd7, qd5, Bool.not_true, Bool.not_false, Bool.and_true, Bool.true_and, Bool.and_false, Bool.false_and, Bool.or_true, Bool.true_or, Bool.or_false, Bool.false_or, beq_self_eq_true, dTT, dFF, dT, dF, bigI, big0, qkn, qn7, qn8, List.length_set, List.length_replicate, Int.toNat_natCast, qdc, qdd, imax, imin]
    exact e
  · rcases p with p | ⟨p1, p2, p3⟩
    · exact .inl p
    · exact .inr ⟨p1, p2, h, fun j hj => p3 j (by omega) hj⟩
def qik (r q : List RC) : Prop := (rcAt r 0).num = (rcAt q 0).num ∧ (rcAt r 1).r3s = (rcAt q 1).r3s ∧ (rcAt r 2).ints = (rcAt q 2).ints ∧ (rcAt r 3).ints = (rcAt q 3).ints ∧ (rcAt r 4).ints = (rcAt q 4).ints
theorem qir (k : Nat) (hk : 2000000 ≤ k) (fu : List (Nat × Nat)) (z z' : Bool) (l l' : List (List RC)) (hl : (l.length : Int) ≤ 1048576) (he : l'.length = l.length) (hf : ∀ i, i < l.length → qim (rrow l i)) (ha : ∀ i, i < l.length → qik (rrow l' i) (rrow l i)) : ∀ (n i : Nat), i ≤ l.length → l.length - i < n →
    lp (k + 4) laws_eqStateS [] fu 4 (n) (ql1 (i : Int) z l z' l') = some [.bool true]
  | 0, i, hi, hn => by omega
  | n + 1, i, hi, hn => by
    rw [qhx]
    by_cases g : i < l.length
    · have IH := qir k hk fu z z' l l' hl he hf ha n (i + 1) (by omega) (by omega)
      obtain ⟨f1, f2, f3, f4⟩ := hf i g
      obtain ⟨a0, a1, a2, a3, a4⟩ := ha i g
      have e := qb2 k (by omega) (rcAt (rrow l i) 0).num (rcAt (rrow l i) 1).nil (rcAt (rrow l i) 2).nil (rcAt (rrow l i) 3).nil (rcAt (rrow l i) 4).nil (rcAt (rrow l' i) 1).nil (rcAt (rrow l' i) 2).nil (rcAt (rrow l' i) 3).nil (rcAt (rrow l' i) 4).nil (rcAt (rrow l i) 1).r3s (rcAt (rrow l i) 2).ints (rcAt (rrow l i) 3).ints (rcAt (rrow l i) 4).ints f1 f2 f3 f4
      simp (disch := omega) only [qaw, nth0, nth1, nth2, nth3, bit, qde, qdf, qdq, qdv, qdw, qdx, qdy, qdz, qd0, qd1, qdg, qdh, qdi, qdj, qdk, qdl, qdm, qdn, qdo, qdp, qdr, qds, qdt, qdu, qnn, qnm, qno, qko, qlb, qlc, qhh, qax, qm5, nI, qd7, qd5, Bool.not_true, Bool.not_false, Bool.and_true, Bool.true_and, Bool.and_false, Bool.false_and, Bool.or_true, Bool.true_or, Bool.or_false, Bool.false_or, beq_self_eq_true, dTT, dFF, dT, dF, bigI, big0, qkn, qn7, qn8, List.length_set, List.length_replicate, Int.toNat_natCast, qdc, qdd, imax, imin, he, a0, a1, a2, a3, a4, e]
      exact IH
    · simp (disch := omega) only [qaw, nth0, nth1, nth2, nth3, bit, qde, qdf, qdq, qdv, qdw, qdx, qdy, qdz, qd0, qd1, qdg, qdh, qdi, qdj, qdk, qdl, qdm, qdn, qdo, qdp, qdr, qds, qdt, qdu, qnn, qnm, qno, qko, qlb, qlc, qhh, qax, qm5, nI, qd7, qd5, Bool.not_true, Bool.not_false, Bool.and_true, Bool.true_and, Bool.and_false, Bool.false_and, Bool.or_true, Bool.true_or, Bool.or_false, Bool.false_or, beq_self_eq_true, dTT, dFF, dT, dF, bigI, big0, qkn, qn7, qn8, List.length_set, List.length_replicate, Int.toNat_natCast, qdc, qdd, imax, imin]
theorem qb3 (k : Nat) (hk : 2000000 ≤ k) (z z' : Bool) (l l' : List (List RC)) (hl : (l.length : Int) ≤ 1048576) (he : l'.length = l.length) (hf : ∀ i, i < l.length → qim (rrow l i)) (ha : ∀ i, i < l.length → qik (rrow l' i) (rrow l i)) : go (k + 5) laws_eqStateS [.rows z zSt l, .rows z' zSt l'] = some [.bool true] := by
  rw [qfj]
  have e := qir k hk [] z z' l l' hl he hf ha (k + 4) 0 (by omega) (by omega)
  rw [show ((0 : Nat) : Int) = 0 from rfl] at e
  simp (disch := omega) only [qaw, nth0, nth1, nth2, nth3, bit, qde, qdf, qdq, qdv, qdw, qdx, qdy, qdz, qd0, qd1, qdg, qdh, qdi, qdj, qdk, qdl, qdm, qdn, qdo, qdp, qdr, qds, qdt, qdu, qnn, qnm, qno, qko, qlb, qlc, qhh, qax, qm5, nI, qd7, qd5, Bool.not_true, Bool.not_false, Bool.and_true, Bool.true_and, Bool.and_false, Bool.false_and, Bool.or_true, Bool.true_or, Bool.or_false, Bool.false_or, beq_self_eq_true, dTT, dFF, dT, dF, bigI, big0, qkn, qn7, qn8, List.length_set, List.length_replicate, Int.toNat_natCast, qdc, qdd, imax, imin, he]
  exact e
end Go.Proofs.Ytcaapedadpnjoaa
end
section
namespace Go.Proofs.Ytcaapedadpnjoaa
open Go Go.RowKit Go.Ev
theorem qns {w w' : World} {l : List (List RC)} (I : TssI w l l.length w') : ∃ F, RepD w' (.rows false zSt (l.map cpSt)) (.slice (some ⟨w.heap.size, 0, none⟩) l.length l.length) F ∧ Still F := by
  obtain ⟨uss, hR, hC, hT, hI, hF, hS⟩ := I
  rw [List.take_length] at hR
  refine ⟨_, by
    simp only [RepD]
    refine ⟨⟨some ⟨w.heap.size, 0, none⟩, l.length, l.length, 5, uss⟩, rfl, ⟨by simp, rfl, by simp, (fun h => by cases h), (fun x hx => ?_), (fun h => by cases h), hR⟩, rfl⟩
    simp only [Option.some.injEq] at hx
    subst hx
    refine ⟨Nat.le_refl _, fun j u hj => ?_⟩
    have := hC j u hj
    rwa [Addr.add_mid], fun A hA => ?_⟩
  rcases List.mem_cons.1 hA with rfl | hA
  · rfl
  · rw [List.mem_singleton.1 hA]
theorem qnq {w w' : World} {l : List (List RC)} {k : Nat} (I : TssI w l k w') : RowKit.Below w.heap.size w w' := by
  obtain ⟨_, _, _, _, _, hF, _⟩ := I
  exact qg3 hF fun b off hb h => by omega
theorem qnr {az : Bool} {l : List (List RC)} (hl : l.length ≤ 1048576) (hok : ∀ i, i < l.length → okSt (rrow l i) = true) {w : World} {v : Value} {F : Feet} (hd : RepD w (.rows az zSt l) v F) :
    Calls Try.prog 24 #[v] w fun e w' => e = .returned (.slice (some ⟨w.heap.size, 0, none⟩) l.length l.length) ∧ TssI w l l.length w' := by
  simp only [RepD] at hd
  obtain ⟨p, rfl, ⟨q1, q2, q3, q4, q5, _, q7⟩, _⟩ := hd
  rw [← q1]
  exact qnt (z := az) hl hok w p.base p.cap p.inn q7 (fun x hx => (q5 x hx).2) (fun h => by have := (q4 h).2; omega) (by
    cases h : p.base with
    | none => exact .inr rfl
    | some x => have := (q5 x h).1; exact .inl (by omega))
theorem qnj {w W1 W : World} {l : List (List RC)} (I : TssI w l l.length W1) (hb : RowKit.Below W1.heap.size W1 W) :
    ∃ uss : List (List Value), uss.length = l.length ∧ (∀ us ∈ uss, us.length = 5) ∧ TmI W w.heap.size W1.heap.size uss 0 1 W := by
  obtain ⟨uss, hR, hC, hT, hO, hF, hS⟩ := I
  have u5 : ∀ us ∈ uss, us.length = 5 := hR.all
  have ul : uss.length = l.length := by rw [hR.len, List.length_map, List.take_length]
  have hC' : W.rangeAt w.heap.size 0 uss.flatten := qld hb hS hC
  refine ⟨uss, ul, u5, ⟨⟨w.heap.size + 1, by omega, ?_⟩, fun j _ hj c v hv => ?_, ?_, Fr.refl _ _, ⟨hS, hb.size⟩, by omega, by simp⟩⟩
  · rw [List.drop_zero]
    exact hO.frame (N := fun _ _ => False) (fr_of_below hb) fun _ _ _ _ h => h
  · obtain ⟨_, _, g3⟩ := hR.get (i := j) (by rw [List.length_map, List.take_length, ← ul]; exact hj)
    have e : (uss.getD j [])[c]? = uss.flatten[j * 5 + c]? := by
      rw [← g3]
      have hc : c < 5 := by
        have := (List.getElem?_eq_some_iff.1 hv).1
        have h5' := u5 _ (qg7 hj [])
        omega
      rw [List.getElem?_take, if_pos (show c < zSt.length from hc), List.getElem?_drop]
      rfl
    rw [e] at hv
    have := hC' _ v hv
    rwa [Nat.zero_add] at this
  · rw [ul]
    exact qnh (M := fun _ _ => False) hb hT
end Go.Proofs.Ytcaapedadpnjoaa
end
section
namespace Go.Proofs.Ytcaapedadpnjoaa
open Go.Ev
set_option maxRecDepth 20000
def mnL (m x : List Int) : List Int := List.zipWith min m x
def mxL (m x : List Int) : List Int := List.zipWith max m x
theorem qn9 {f : Int → Int → Int} {m x : List Int} {j : Nat} (h : m.length = x.length) (hj : j < x.length) : (List.zipWith f m x).getD j 0 = f (m.getD j 0) (x.getD j 0) := by
  have hm : j < m.length := by omega
  simp [List.getD_eq_getElem?_getD, List.getElem?_zipWith, hj, hm]
theorem qoa {f : Int → Int → Int} {m x : List Int} {j : Nat} (h : m.length = x.length) (hj : j < x.length) : ((List.zipWith f m x).take j ++ x.drop j).getD j 0 = x.getD j 0 := by
  have hl : ((List.zipWith f m x).take j).length = j := by rw [List.length_take, List.length_zipWith]; omega
  rw [List.getD_eq_getElem?_getD, List.getElem?_append_right (by omega), hl, Nat.sub_self, List.getElem?_drop, Nat.add_zero, ← List.getD_eq_getElem?_getD]
theorem qoc {f : Int → Int → Int} {m x : List Int} {j : Nat} (h : m.length = x.length) (hj : j < x.length) : ((List.zipWith f m x).take j ++ x.drop j).set j (f (m.getD j 0) (x.getD j 0)) = (List.zipWith f m x).take (j + 1) ++ x.drop (j + 1) := by
  have zl : (List.zipWith f m x).length = x.length := by rw [List.length_zipWith]; omega
  have hl : ((List.zipWith f m x).take j).length = j := by rw [List.length_take]; omega
  rw [List.set_append_right _ _ (by omega), hl, Nat.sub_self, qeb hj 0, List.set_cons_zero, List.take_succ_eq_append_getElem (by omega), List.append_assoc]
  congr 1
  have := qn9 (f := f) h hj
  rw [List.getD_eq_getElem?_getD, List.getElem?_eq_getElem (by omega)] at this
  simp only [Option.getD_some] at this
  rw [this]; rfl
theorem qob {f : Int → Int → Int} {m x : List Int} (h : m.length = x.length) (j : Nat) : ((List.zipWith f m x).take j ++ x.drop j).length = x.length := by
  rw [List.length_append, List.length_take, List.length_zipWith, List.length_drop]; omega
set_option maxHeartbeats 2000000 in
theorem qiv (k : Nat) (hk : 2000000 ≤ k) (fu : List (Nat × Nat)) (z : Bool) (l : List (List RC)) (hl : l.length ≤ 100) (i : Nat) (hi : i < l.length) (zm zl zh : Bool) (m lo up : List Int) (h1 : m.length = lo.length) (h2 : m.length = up.length) (hn : (m.length : Int) ≤ 1048576) : ∀ (N j : Nat), j ≤ m.length → m.length - j < N →
    lp (k + 11) impl_EnvelopeOf [] fu 8 (N) (qlq (l.length : Int) (i : Int) (m.length : Int) (j : Int) zl ((mnL m lo).take j ++ lo.drop j) zh ((mxL m up).take j ++ up.drop j) z l zm m) = lp (k + 11) impl_EnvelopeOf [] fu 5 (fuelOf fu 5) (qlp (l.length : Int) ((i + 1 : Nat) : Int) zl (mnL m lo) zh (mxL m up) z l)
  | 0, j, hj, hN => by omega
  | N + 1, j, hj, hN => by
    rw [qhm]
    have l1 := qob (f := min) h1 j
    have l2 := qob (f := max) h2 j
    by_cases g : j < m.length
    · have IH := qiv k hk fu z l hl i hi zm zl zh m lo up h1 h2 hn N (j + 1) (by omega) (by omega)
      have c1 := qoa (f := min) h1 (show j < lo.length by omega)
      have c2 := qoa (f := max) h2 (show j < up.length by omega)
      have e1 := qoc (f := min) h1 (show j < lo.length by omega)
      have e2 := qoc (f := max) h2 (show j < up.length by omega)
      unfold mnL mxL at IH ⊢
      simp (disch := omega) only [qaw, nth0, nth1, nth2, nth3, bit, qde, qdf, qdq, qdv, qdw, qdx, qdy, qdz, qd0, qd1, qdg, qdh, qdi, qdj, qdk, qdl, qdm, qdn, qdo, qdp, qdr, qds, qdt, qdu, qnn, qnm, qno, qko, qlb, qlc, qhh, qax, qm5, nI, qd7, qd5, Bool.not_true, Bool.not_false, Bool.and_true, Bool.true_and, Bool.and_false, Bool.false_and, Bool.or_true, Bool.true_or, Bool.or_false, Bool.false_or, beq_self_eq_true, dTT, dFF, dT, dF, bigI, big0, qkn, qn7, qn8, List.length_set, List.length_replicate, Int.toNat_natCast, qdc, qdd, imax, imin, l1, l2, c1, c2, e1, e2]
      exact IH
    · obtain rfl : j = m.length := by omega
      have t1 : (mnL m lo).take m.length ++ lo.drop m.length = mnL m lo := by
        rw [List.take_of_length_le (by unfold mnL; rw [List.length_zipWith]; omega), List.drop_eq_nil_of_le (by omega), List.append_nil]
      have t2 : (mxL m up).take m.length ++ up.drop m.length = mxL m up := by
        rw [List.take_of_length_le (by unfold mxL; rw [List.length_zipWith]; omega), List.drop_eq_nil_of_le (by omega), List.append_nil]
      rw [t1, t2]
      simp (disch := omega) only [qaw, nth0, nth1, nth2, nth3, bit, qde, qdf, qdq, qdv, qdw, qdx, qdy, qdz, qd0, qd1, qdg, qdh, qdi, qdj, qdk, qdl, qdm, qdn, qdo, qdp, qdr, qds, qdt, qdu, qnn, qnm, qno, qko, qlb, qlc, qhh, qax, qm5, nI, qd7, qd5, Bool.not_true, Bool.not_false, Bool.and_true, Bool.true_and, Bool.and_false, Bool.false_and, Bool.or_true, Bool.true_or, Bool.or_false, Bool.false_or, beq_self_eq_true, dTT, dFF, dT, dF, bigI, big0, qkn, qn7, qn8, List.length_set, List.length_replicate, Int.toNat_natCast, qdc, qdd, imax, imin]
end Go.Proofs.Ytcaapedadpnjoaa
end
section
namespace Go.Proofs.Ytcaapedadpnjoaa
open Go.Ev
set_option maxRecDepth 20000
abbrev msR (r : List RC) : List Int := (rcAt r 2).ints
def envL (f : List Int → List Int → List Int) (l : List (List RC)) : Nat → Nat → List Int → List Int
  | 0, i, x => x
  | m + 1, i, x => envL f l m (i + 1) (f (msR (rrow l i)) x)
theorem qkh {m x : List Int} (h : m.length = x.length) : (mnL m x).length = x.length := by unfold mnL; rw [List.length_zipWith]; omega
theorem qkj {m x : List Int} (h : m.length = x.length) : (mxL m x).length = x.length := by unfold mxL; rw [List.length_zipWith]; omega
set_option maxHeartbeats 2000000 in
theorem qiu (k : Nat) (hk : 2000000 ≤ k) (z zl zh : Bool) (l : List (List RC)) (hl : l.length ≤ 100) (n : Nat) (hn : (n : Int) ≤ 1048576) (hm : ∀ i, i < l.length → (msR (rrow l i)).length = n) : ∀ (m N i : Nat) (fu : List (Nat × Nat)) (lo up : List Int), i + m = l.length → lo.length = n → up.length = n → m < N →
    lp (k + 11) impl_EnvelopeOf [] fu 5 (N) (qlp (l.length : Int) (i : Int) zl lo zh up z l) = some [.arr true zl (.ints .i64 (envL mnL l m i lo)), .arr true zh (.ints .i64 (envL mxL l m i up)), .bool true]
  | 0, N + 1, i, fu, lo, up, hi, h1, h2, hN => by
    rw [qhl]
    simp (disch := omega) only [qaw, nth0, nth1, nth2, nth3, bit, qde, qdf, qdq, qdv, qdw, qdx, qdy, qdz, qd0, qd1, qdg, qdh, qdi, qdj, qdk, qdl, qdm, qdn, qdo, qdp, qdr, qds, qdt, qdu, qnn, qnm, qno, qko, qlb, qlc, qhh, qax, qm5, nI, qd7, qd5, Bool.not_true, Bool.not_false, Bool.and_true, Bool.true_and, Bool.and_false, Bool.false_and, Bool.or_true, Bool.true_or, Bool.or_false, Bool.false_or, beq_self_eq_true, dTT, dFF, dT, dF, bigI, big0, qkn, qn7, qn8, List.length_set, List.length_replicate, Int.toNat_natCast, qdc, qdd, imax, imin]
    rfl
  | m + 1, N + 1, i, fu, lo, up, hi, h1, h2, hN => by
    rw [qhl, envL, envL]
    have hmi := hm i (by omega)
    have e8 := qiv k hk ((5, N) :: fu) z l hl i (by omega) (rcAt (rrow l i) 2).nil zl zh (msR (rrow l i)) lo up (by omega) (by omega) (by omega) (k + 11) 0 (by omega) (by omega)
    rw [qg5, List.take_zero, List.take_zero, List.drop_zero, List.drop_zero, List.nil_append, List.nil_append, show ((0 : Nat) : Int) = 0 from rfl] at e8
    have IH := qiu k hk z zl zh l hl n hn hm m N (i + 1) fu (mnL (msR (rrow l i)) lo) (mxL (msR (rrow l i)) up) (by omega) (by rw [qkh (by omega)]; exact h1) (by rw [qkj (by omega)]; exact h2) (by omega)
    simp (disch := omega) only [qaw, nth0, nth1, nth2, nth3, bit, qde, qdf, qdq, qdv, qdw, qdx, qdy, qdz, qd0, qd1, qdg, qdh, qdi, qdj, qdk, qdl, qdm, qdn, qdo, qdp, qdr, qds, qdt, qdu, qnn, qnm, qno, qko, qlb, qlc, qhh, qax, qm5, nI, qd7, qd5, Bool.not_true, Bool.not_false, Bool.and_true, Bool.true_and, Bool.and_false, Bool.false_and, Bool.or_true, Bool.true_or, Bool.or_false, Bool.false_or, beq_self_eq_true, dTT, dFF, dT, dF, bigI, big0, qkn, qn7, qn8, List.length_set, List.length_replicate, Int.toNat_natCast, qdc, qdd, imax, imin]
    exact e8.trans IH
end Go.Proofs.Ytcaapedadpnjoaa
end
section
namespace Go.Proofs.Ytcaapedadpnjoaa
open Go.Ev
set_option maxRecDepth 20000
theorem qas {l : List (List RC)} : ∀ {m i : Nat}, askF l m i = true → ∀ j, i ≤ j → j < i + m → qm0 (rrow l j) = true ∧ qmz (rrow l j) (rrow l 0) = true
  | 0, i, h, j, h1, h2 => by omega
  | m + 1, i, h, j, h1, h2 => by
    rw [askF] at h
    simp only [Bool.and_eq_true] at h
    by_cases e : j = i
    · rw [e]; exact h.1
    · exact qas h.2 j (by omega) (by omega)
theorem qa0 (k : Nat) (hk : 2000000 ≤ k) (z z' : Bool) (l : List (List RC)) (hl : l.length ≤ 100) (hr : ∀ i, i < l.length → qim (rrow l i)) : go (k + 11) slices_ContainsFunc_impl_State_impl_State [.rows z [.n, .r3, .is, .is, .is] l, .fn impl_EnvelopeOf_1 [.ptr false [.rows z' [.n, .r3, .is, .is, .is] l]]] = some [.bool (!askF l l.length 0)] := by
  obtain ⟨x, e, p⟩ := qiq k (by omega) [] z z' l hl hr l.length (k + 9) 0 (by omega) (by omega)
  rw [show ((0 : Nat) : Int) = 0 from rfl] at e
  rw [qf1, ← p]
  simp (disch := omega) only [qaw, nth0, nth1, nth2, nth3, bit, qde, qdf, qdq, qdv, qdw, qdx, qdy, qdz, qd0, qd1, qdg, qdh, qdi, qdj, qdk, qdl, qdm, qdn, qdo, qdp, qdr, qds, qdt, qdu, qnn, qnm, qno, qko, qlb, qlc, qhh, qax, qm5, nI, qd7, qd5, Bool.not_true, Bool.not_false, Bool.and_true, Bool.true_and, Bool.and_false, Bool.false_and, Bool.or_true, Bool.true_or, Bool.or_false, Bool.false_or, beq_self_eq_true, dTT, dFF, dT, dF, bigI, big0, qkn, qn7, qn8, List.length_set, List.length_replicate, Int.toNat_natCast, qdc, qdd, imax, imin, qf4, e]
def envD (zz : Bool) (l : List (List RC)) : List D := cond (askE l) [.arr true false (.ints .i64 (envL mnL l l.length 0 (msR (rrow l 0)))), .arr true false (.ints .i64 (envL mxL l l.length 0 (msR (rrow l 0)))), .bool true] [.arr true zz (.ints .i64 []), .arr true zz (.ints .i64 []), .bool false]
theorem qa4 (k : Nat) (hk : 2000000 ≤ k) (z : Bool) (l : List (List RC)) (hl : (l.length : Int) ≤ 1048576) (hr : ∀ i, i < l.length → qim (rrow l i)) (hz : ∀ i, i < l.length → (rcAt (rrow l i) 2).nil = false) (hm : askE l = true → ∀ i, i < l.length → (msR (rrow l i)).length = (msR (rrow l 0)).length) :
    go (k + 12) impl_EnvelopeOf [.rows z [.n, .r3, .is, .is, .is] l] = some (envD true l) := by
  rw [qei]
  unfold envD
  have t0 : Int.toNat 0 = 0 := rfl
  cases g : inR (l.length : Int) 1 100
  · rw [show askE l = false by unfold askE; rw [g]; rfl]
    simp (disch := omega) only [qaw, nth0, nth1, nth2, nth3, bit, qde, qdf, qdq, qdv, qdw, qdx, qdy, qdz, qd0, qd1, qdg, qdh, qdi, qdj, qdk, qdl, qdm, qdn, qdo, qdp, qdr, qds, qdt, qdu, qnn, qnm, qno, qko, qlb, qlc, qhh, qax, qm5, nI, qd7, qd5, Bool.not_true, Bool.not_false, Bool.and_true, Bool.true_and, Bool.and_false, Bool.false_and, Bool.or_true, Bool.true_or, Bool.or_false, Bool.false_or, beq_self_eq_true, dTT, dFF, dT, dF, bigI, big0, qkn, qn7, qn8, List.length_set, List.length_replicate, Int.toNat_natCast, qdc, qdd, imax, imin, qbx, g]
  have b := qhf.1 g
  have eC := qa0 k (by omega) z z l (by omega) hr
  have ea : askE l = askF l l.length 0 := by unfold askE; rw [g, Bool.true_and]
  cases h : askF l l.length 0
  · rw [h] at eC ea
    rw [ea]
    simp (disch := omega) only [qaw, nth0, nth1, nth2, nth3, bit, qde, qdf, qdq, qdv, qdw, qdx, qdy, qdz, qd0, qd1, qdg, qdh, qdi, qdj, qdk, qdl, qdm, qdn, qdo, qdp, qdr, qds, qdt, qdu, qnn, qnm, qno, qko, qlb, qlc, qhh, qax, qm5, nI, qd7, qd5, Bool.not_true, Bool.not_false, Bool.and_true, Bool.true_and, Bool.and_false, Bool.false_and, Bool.or_true, Bool.true_or, Bool.or_false, Bool.false_or, beq_self_eq_true, dTT, dFF, dT, dF, bigI, big0, qkn, qn7, qn8, List.length_set, List.length_replicate, Int.toNat_natCast, qdc, qdd, imax, imin, qbx, g, eC]
  rw [h] at eC ea
  rw [ea]
  have z0 := hz 0 (by omega)
  have h0 := (hr 0 (by omega)).2.1
  have e := qiu k hk z false false l (by omega) (msR (rrow l 0)).length h0 (hm ea) l.length (k + 11) 0 [] (msR (rrow l 0)) (msR (rrow l 0)) (by omega) rfl rfl (by omega)
  rw [show ((0 : Nat) : Int) = 0 from rfl] at e
  simp (disch := omega) only [qaw, nth0, nth1, nth2, nth3, bit, qde, qdf, qdq, qdv, qdw, qdx, qdy, qdz, qd0, qd1, qdg, qdh, qdi, qdj, qdk, qdl, qdm, qdn, qdo, qdp, qdr, qds, qdt, qdu, qnn, qnm, qno, qko, qlb, qlc, qhh, qax, qm5, nI, qd7, qd5, Bool.not_true, Bool.not_false, Bool.and_true, Bool.true_and, Bool.and_false, Bool.false_and, Bool.or_true, Bool.true_or, Bool.or_false, Bool.false_or, beq_self_eq_true, dTT, dFF, dT, dF, bigI, big0, qkn, qn7, qn8, List.length_set, List.length_replicate, Int.toNat_natCast, qdc, qdd, imax, imin, qbx, g, eC, t0, z0, qcn]
  exact e
end Go.Proofs.Ytcaapedadpnjoaa
end
section
namespace Go.Proofs.Ytcaapedadpnjoaa
open Go.Ev
set_option maxRecDepth 20000
theorem qay (k : Nat) (hk : 2000000 ≤ k) (z : Bool) (l : List (List RC)) (hr : ∀ i, i < l.length → qim (rrow l i)) : go (k + 8) spec_l34Ask [.rows z [.n, .r3, .is, .is, .is] l] = some [.bool (askE l)] := by
  rw [qgs]
  unfold askE
  cases g : inR (l.length : Int) 1 100
  · simp (disch := omega) only [qaw, nth0, nth1, nth2, nth3, bit, qde, qdf, qdq, qdv, qdw, qdx, qdy, qdz, qd0, qd1, qdg, qdh, qdi, qdj, qdk, qdl, qdm, qdn, qdo, qdp, qdr, qds, qdt, qdu, qnn, qnm, qno, qko, qlb, qlc, qhh, qax, qm5, nI, qd7, qd5, Bool.not_true, Bool.not_false, Bool.and_true, Bool.true_and, Bool.and_false, Bool.false_and, Bool.or_true, Bool.true_or, Bool.or_false, Bool.false_or, beq_self_eq_true, dTT, dFF, dT, dF, bigI, big0, qkn, qn7, qn8, List.length_set, List.length_replicate, Int.toNat_natCast, qdc, qdd, imax, imin, qc0, g]
  have b := qhf.1 g
  have e := qip k hk [] z l (by omega) hr l.length (k + 7) 0 (by omega) (by omega)
  rw [show ((0 : Nat) : Int) = 0 from rfl] at e
  simp (disch := omega) only [qaw, nth0, nth1, nth2, nth3, bit, qde, qdf, qdq, qdv, qdw, qdx, qdy, qdz, qd0, qd1, qdg, qdh, qdi, qdj, qdk, qdl, qdm, qdn, qdo, qdp, qdr, qds, qdt, qdu, qnn, qnm, qno, qko, qlb, qlc, qhh, qax, qm5, nI, qd7, qd5, Bool.not_true, Bool.not_false, Bool.and_true, Bool.true_and, Bool.and_false, Bool.false_and, Bool.or_true, Bool.true_or, Bool.or_false, Bool.false_or, beq_self_eq_true, dTT, dFF, dT, dF, bigI, big0, qkn, qn7, qn8, List.length_set, List.length_replicate, Int.toNat_natCast, qdc, qdd, imax, imin, qc0, g]
  exact e
end Go.Proofs.Ytcaapedadpnjoaa
end
section
namespace Go.Proofs.Ytcaapedadpnjoaa
open Go Go.RowKit Go.Ev
theorem one' {w : World} {d : D} {v : Value} {F : Feet} (h1 : RepD w d v F) : RepDs w [d] [v] F := by
  simp only [RepDs]
  exact ⟨v, [], F, [], rfl, (List.append_nil F).symm, h1, rfl, rfl⟩
theorem two {w : World} {d e : D} {v u : Value} {F G : Feet} (h1 : RepD w d v F) (h2 : RepD w e u G) : RepDs w [d, e] [v, u] (F ++ G) := by
  simp only [RepDs]
  exact ⟨v, [u], F, G, rfl, rfl, h1, u, [], G, [], rfl, (List.append_nil G).symm, h2, rfl, rfl⟩
theorem qlf {w : World} {k : IntKind} {n : Int} : RepD w (.int k n) (.int k n) [] := by simp [RepD]
theorem bel {w W W' : World} (h : RowKit.Below w.heap.size w W) (h' : RowKit.Below W.heap.size W W') : RowKit.Below w.heap.size w W' := h.trans (h'.mono h.size)
theorem belF {N : Nat → Nat → Prop} {w W W' : World} (h : RowKit.Below w.heap.size w W) (f : Fr N W W') (hn : ∀ b off, N b off → w.heap.size ≤ b) : RowKit.Below w.heap.size w W' :=
  qg3 ((fr_of_below (M := N) h).trans f) fun b off hb h => by have := hn b off h; omega
def At (W : World) (lo hi : Nat) (z : Bool) (a : Arr) (v : Value) : Prop := ∃ F, RepD W (.arr true z a) v F ∧ ∀ b off, ownOf F b off → lo ≤ b ∧ b < hi
theorem At.frame {N : Nat → Nat → Prop} {W W' : World} {lo hi : Nat} {z : Bool} {a : Arr} {v : Value} (h : At W lo hi z a v) (f : Fr N W W') (hn : ∀ b off, lo ≤ b → b < hi → ¬ N b off) : At W' lo hi z a v := by
  obtain ⟨F, hF, hb⟩ := h
  exact ⟨F, qk0 hF (qar hF) f fun b off ho => hn b off (hb b off ho).1 (hb b off ho).2, hb⟩
theorem At.below {W W' : World} {lo hi : Nat} {z : Bool} {a : Arr} {v : Value} (h : At W lo hi z a v) (f : RowKit.Below W.heap.size W W') : At W' lo hi z a v :=
  h.frame (N := fun _ _ => False) (fr_of_below f) fun _ _ _ _ h => h
theorem At.ro {W : World} {lo hi : Nat} {z : Bool} {a : Arr} {v : Value} (h : At W lo hi z a v) : ∃ F, RepD W (.arr false z a) v F ∧ Still F := by
  obtain ⟨F, hF, _⟩ := h
  exact RepD.ro _ hF
theorem qaq {W : World} {z : Bool} {a : Arr} {v : Value} {F : Feet} (h : RepD W (.arr true z a) v F) {b off : Nat} (ho : ownOf F b off) : b < W.heap.size := by
  simp only [RepD] at h
  obtain ⟨p, rfl, hr, rfl⟩ := h
  obtain ⟨A, hA, h1, h2⟩ := ho
  rw [List.mem_singleton.1 hA] at h2
  exact hr.lt' b off h2
theorem Contract.env {P : Program} {f : Nat} {ds : List D} {z0 z1 b : Bool} {a0 a1 : Arr} (h : Contract P f [] ds [.arr true z0 a0, .arr true z1 a1, .bool b]) {w : World} {args : Array Value} {F : Feet} (hd : RepDs w ds args.toList F) (hF : Still F) :
    Calls P f args w fun e w' => ∃ v0 v1 F0 F1, e = .returned (.tuple #[v0, v1, .bool b]) ∧ RepD w' (.arr true z0 a0) v0 F0 ∧ RepD w' (.arr true z1 a1) v1 F1 ∧ Ev.Sep (F0 ++ F1) ∧ (∀ b off, ownOf (F0 ++ F1) b off → w.heap.size ≤ b ∧ b < w'.heap.size) ∧ RowKit.Below w.heap.size w w' := by
  refine (h.still hd hF).mono ?_
  rintro e w' ⟨outs, F', rfl, hr, hs, hn, hb⟩
  simp only [RepDs] at hr
  obtain ⟨u0, us0, F0, G0, rfl, rfl, h0, u1, us1, F1, G1, rfl, rfl, h1, u2, us2, F2, G2, rfl, rfl, h2, rfl, rfl⟩ := hr
  simp only [RepD] at h2
  obtain ⟨rfl, rfl⟩ := h2
  rw [List.append_nil, List.append_nil] at hs hn
  refine ⟨u0, u1, F0, F1, rfl, h0, h1, hs, fun b off ho => ⟨hn b off ho, ?_⟩, hb⟩
  obtain ⟨A, hA, k1, k2⟩ := ho
  rcases List.mem_append.1 hA with hA | hA
  · exact qaq h0 ⟨A, hA, k1, k2⟩
  · exact qaq h1 ⟨A, hA, k1, k2⟩
theorem qgu (zz : Bool) (l : List (List RC)) : envD zz l = [.arr true (cond (askE l) false zz) (.ints .i64 (cond (askE l) (envL mnL l l.length 0 (msR (rrow l 0))) [])), .arr true (cond (askE l) false zz) (.ints .i64 (cond (askE l) (envL mxL l l.length 0 (msR (rrow l 0))) [])), .bool (askE l)] := by
  unfold envD
  cases askE l <;> rfl
theorem Contract.markedC {P : Program} {f : Nat} {a a' : Arr} {z z' : Bool} {b b' : Int} (h : Contract P f [true] [.arr true z a, .int .i64 b] [.int .i64 b', .arr true z' a']) {w : World} {v : Value} {F : Feet} (hd : RepD w (.arr true z a) v F) :
    Calls P f #[v, .int .i64 b] w fun e w' => e = .returned (.int .i64 b') ∧ Fr (ownOf F) w w' ∧ ∃ F', RepD w' (.arr true z' a') v F' ∧ ∀ b off, ownOf F' b off → ownOf F b off := by
  obtain ⟨fn, _, _, hc⟩ := h
  have hF : ∃ A, F = [A] := by
    simp only [RepD] at hd
    obtain ⟨p, _, _, rfl⟩ := hd
    exact ⟨_, rfl⟩
  obtain ⟨A, rfl⟩ := hF
  refine (hc w #[v, .int .i64 b] [A] (by
    simp only [RepDs]
    exact ⟨v, _, [A], [], rfl, rfl, hd, .int .i64 b, [], [], [], rfl, rfl, by simp [RepD], rfl, rfl⟩) (by simp [Ev.Sep])).mono ?_
  rintro e w' ⟨outs, F', rfl, hl, hrep, hs, hfr, hnew, _⟩
  have hm : muts [true] (#[v, Value.int .i64 b]).toList = [v] := by simp [muts]
  rw [hm] at hrep
  simp only [RepDs] at hrep
  obtain ⟨u, us, F1, F2, e1, _, h1, u2, us2, F3, F4, rfl, _, h2, rfl, _⟩ := hrep
  simp only [RepD] at h1
  obtain ⟨rfl, _⟩ := h1
  cases outs with
  | nil => cases e1
  | cons o outs =>
    cases outs with
    | nil =>
      injection e1 with e1 e2
      subst e1
      injection e2 with e2 _
      subst e2
      refine ⟨rfl, hfr, F3, h2, fun b off ho => ?_⟩
      simp only [RepD] at hd h2
      obtain ⟨p, rfl, _, hp⟩ := hd
      obtain ⟨q, hq, _, rfl⟩ := h2
      rw [hp]
      injection hq with q1 q2 q3
      obtain ⟨C, hC, k1, k2⟩ := ho
      rw [List.mem_singleton.1 hC] at k2
      obtain ⟨x, x1, x2, _⟩ := k2
      exact ⟨_, List.mem_singleton.2 rfl, rfl, x, by rw [q1]; exact x1, x2, .inl rfl⟩
    | cons o2 outs => simp at e1
theorem qkg {W : World} {v : Value} {F : Feet} {z : Bool} {l : List Int} {b : Int} (hd : RepD W (.arr true z (.ints .i64 l)) v F) (hl : (l.length : Int) ≤ 1048576) (h0 : 0 ≤ b) (hb : b ≤ 8796093022208) :
    Calls Try.prog 28 #[v, .int .i64 b] W fun e W' => e = .returned (.int .i64 (b + l.length)) ∧ Fr (ownOf F) W W' ∧ ∃ F', RepD W' (.arr true z (.ints .i64 (marks b l.length))) v F' ∧ ∀ b off, ownOf F' b off → ownOf F b off := by
  have e1 : ev Try.prog An (2000000 + 1) 28 [.arr true z (.ints .i64 l), .int .i64 b] = some [.int .i64 (b + l.length), .arr true z (.ints .i64 (marks b l.length))] := qb9 2000000 (by omega) z l b hl h0 hb
  exact Contract.markedC (ev_contract good noExt e1) hd
end Go.Proofs.Ytcaapedadpnjoaa
end
section
namespace Go.Proofs.Ytcaapedadpnjoaa
open Go.Ev
def qjq (b : Int) : Nat → List Cell
  | 0 => []
  | n + 1 => (b, b + 1, b + 2) :: qjq (b + 3) n
theorem qjs : ∀ (n : Nat) (b : Int), (qjq b n).length = n
  | 0, b => rfl
  | n + 1, b => by simp [qjq, qjs n]
theorem qjr : ∀ (n i : Nat) (b : Int), i < n → (qjq b n).getD i zz3 = (b + 3 * i, b + 3 * i + 1, b + 3 * i + 2)
  | 0, i, b, h => by omega
  | n + 1, 0, b, h => by simp [qjq]
  | n + 1, i + 1, b, h => by
    have := qjr n i (b + 3) (by omega)
    simp only [qjq, List.getD_cons_succ, this]
    rw [show b + 3 + 3 * (i : Int) = b + 3 * ((i + 1 : Nat) : Int) by omega]
theorem qmu {α : Type} (l : List α) (i : Nat) (x y : α) : (l.set i x).set i y = l.set i y := List.set_set ..
theorem qg8 {α : Type} {l : List α} {i : Nat} (h : i < l.length) (x d : α) : (l.set i x).getD i d = x := by rw [qmr]; simp [h]
theorem qi6 (k : Nat) (hk : 2000000 ≤ k) (fu : List (Nat × Nat)) (az : Bool) (a : List Cell) (z : Bool) (L : Nat) (hl : (L : Int) ≤ 1048576) : ∀ (n i : Nat) (l : List Cell) (b : Int), l.length = L → i ≤ L → 0 ≤ b → b ≤ 8796093022208 + 3 * i → L - i < n →
    lp k laws_markIdS [(.arr true (az) (.r3 (a)))] fu 2 (n) (ql5 b (i : Int) z l) = some [.int .i64 (b + 3 * (L - i : Nat)), .arr true z (.r3 (l.take i ++ qjq b (L - i)))]
  | 0, i, l, b, hL, hi, h0, hb, hn => by omega
  | n + 1, i, l, b, hL, hi, h0, hb, hn => by
    rw [qh1]
    by_cases h : i < L
    · have e := qi6 k hk fu az a z L hl n (i + 1) (l.set i (b, b + 1, b + 2)) (b + 3) (by simp [hL]) (by omega) (by omega) (by omega) (by omega)
      rw [qms l l i _ _ (by omega)] at e
      rw [show L - i = (L - (i + 1)) + 1 by omega]
      simp only [qjq]
      simp (disch := omega) only [qaw, nth0, nth1, nth2, nth3, bit, qde, qdf, qdq, qdv, qdw, qdx, qdy, qdz, qd0, qd1, qdg, qdh, qdi, qdj, qdk, qdl, qdm, qdn, qdo, qdp, qdr, qds, qdt, qdu, qnn, qnm, qno, qko, qlb, qlc, qhh, qax, qm5, nI, qd7, qd5, Bool.not_true, Bool.not_false, Bool.and_true, Bool.true_and, Bool.and_false, Bool.false_and, Bool.or_true, Bool.true_or, Bool.or_false, Bool.false_or, beq_self_eq_true, dTT, dFF, dT, dF, bigI, big0, qkn, qn7, qn8, List.length_set, List.length_replicate, Int.toNat_natCast, qdc, qdd, imax, imin, qmu, qg8, show b + 1 + 1 = b + 2 by omega, show b + 2 + 1 = b + 3 by omega]
      rw [e, show b + 3 + 3 * ((L - (i + 1) : Nat) : Int) = b + 3 * ((L - (i + 1) + 1 : Nat) : Int) by omega]
    · simp (disch := omega) only [qaw, nth0, nth1, nth2, nth3, bit, qde, qdf, qdq, qdv, qdw, qdx, qdy, qdz, qd0, qd1, qdg, qdh, qdi, qdj, qdk, qdl, qdm, qdn, qdo, qdp, qdr, qds, qdt, qdu, qnn, qnm, qno, qko, qlb, qlc, qhh, qax, qm5, nI, qd7, qd5, Bool.not_true, Bool.not_false, Bool.and_true, Bool.true_and, Bool.and_false, Bool.false_and, Bool.or_true, Bool.true_or, Bool.or_false, Bool.false_or, beq_self_eq_true, dTT, dFF, dT, dF, bigI, big0, qkn, qn7, qn8, List.length_set, List.length_replicate, Int.toNat_natCast, qdc, qdd, imax, imin]
      rw [show L - i = 0 by omega]
      simp only [qjq, List.append_nil]
      rw [List.take_of_length_le (by omega)]
      simp
theorem qb8 (k : Nat) (hk : 2000000 ≤ k) (az : Bool) (a : List (Int × Int × Int)) (b : Int) (hl : (a.length : Int) ≤ 1048576) (h0 : 0 ≤ b) (hb : b ≤ 8796093022208) : go (k + 1) laws_markIdS [(.arr true (az) (.r3 (a))), (.int .i64 (b))] = some [.int .i64 (b + 3 * a.length), .arr true az (.r3 (qjq b a.length))] := by
  rw [qfn]
  have e := qi6 k hk [] az a az a.length hl (k + 0) 0 a b rfl (by omega) h0 (by omega) (by omega)
  simpa using e
theorem qi3 (k : Nat) (hk : 2000000 ≤ k) (fu : List (Nat × Nat)) (z : Bool) (L : Nat) (b0 : Int) (hl : (L : Int) ≤ 1048576) (h0 : 0 ≤ b0) (hb : b0 ≤ 8796093022208) : ∀ (n i : Nat), i ≤ L → L - i < n →
    lp k laws_heldIdS [] fu 2 (n) (ql2 (b0 + 3 * (i : Int)) (i : Int) z (qjq b0 L)) = some [.int .i64 (b0 + 3 * L)]
  | 0, i, hi, hn => by omega
  | n + 1, i, hi, hn => by
    rw [qhy]
    simp only [qjs]
    by_cases h : i < L
    · have e := qi3 k hk fu z L b0 hl h0 hb n (i + 1) (by omega) (by omega)
      rw [show b0 + 3 * ((i + 1 : Nat) : Int) = b0 + 3 * (i : Int) + 3 by omega] at e
      simp (disch := omega) only [qaw, nth0, nth1, nth2, nth3, bit, qde, qdf, qdq, qdv, qdw, qdx, qdy, qdz, qd0, qd1, qdg, qdh, qdi, qdj, qdk, qdl, qdm, qdn, qdo, qdp, qdr, qds, qdt, qdu, qnn, qnm, qno, qko, qlb, qlc, qhh, qax, qm5, nI, qd7, qd5, Bool.not_true, Bool.not_false, Bool.and_true, Bool.true_and, Bool.and_false, Bool.false_and, Bool.or_true, Bool.true_or, Bool.or_false, Bool.false_or, beq_self_eq_true, dTT, dFF, dT, dF, bigI, big0, qkn, qn7, qn8, List.length_set, List.length_replicate, Int.toNat_natCast, qdc, qdd, imax, imin, qjr, show b0 + 3 * (i : Int) + 1 + 1 = b0 + 3 * (i : Int) + 2 by omega, show b0 + 3 * (i : Int) + 2 + 1 = b0 + 3 * (i : Int) + 3 by omega]
      exact e
    · simp (disch := omega) only [qaw, nth0, nth1, nth2, nth3, bit, qde, qdf, qdq, qdv, qdw, qdx, qdy, qdz, qd0, qd1, qdg, qdh, qdi, qdj, qdk, qdl, qdm, qdn, qdo, qdp, qdr, qds, qdt, qdu, qnn, qnm, qno, qko, qlb, qlc, qhh, qax, qm5, nI, qd7, qd5, Bool.not_true, Bool.not_false, Bool.and_true, Bool.true_and, Bool.and_false, Bool.false_and, Bool.or_true, Bool.true_or, Bool.or_false, Bool.false_or, beq_self_eq_true, dTT, dFF, dT, dF, bigI, big0, qkn, qn7, qn8, List.length_set, List.length_replicate, Int.toNat_natCast, qdc, qdd, imax, imin]
      rw [show i = L by omega]
theorem qb4 (k : Nat) (hk : 2000000 ≤ k) (z : Bool) (L : Nat) (b0 : Int) (hl : (L : Int) ≤ 1048576) (h0 : 0 ≤ b0) (hb : b0 ≤ 8796093022208) : go (k + 1) laws_heldIdS [.arr false z (.r3 (qjq b0 L)), .int .i64 b0] = some [.int .i64 (b0 + 3 * L)] := by
  rw [qfk]
  have e := qi3 k hk [] z L b0 hl h0 hb (k + 0) 0 (by omega) (by omega)
  simpa using e
end Go.Proofs.Ytcaapedadpnjoaa
end
section
namespace Go.Proofs.Ytcaapedadpnjoaa
open Go Go.RowKit Go.Ev
def OwnR (w : World) (B : Nat) : Nat → List (List Value) → List (List RC) → Nat → Prop
  | lo, [], [], hi => lo ≤ hi
  | lo, us :: uss, r :: l, hi => ∃ mid F, okSt r = true ∧ RepDs w (dsO r) us F ∧ Ev.Sep F ∧ (∀ b off, ownOf F b off → lo ≤ b ∧ b < mid ∧ b ≠ B) ∧ lo ≤ mid ∧ OwnR w B mid uss l hi
  | _, _, _, _ => False
theorem OwnR.le {w : World} {B : Nat} : ∀ {uss : List (List Value)} {l : List (List RC)} {lo hi : Nat}, OwnR w B lo uss l hi → lo ≤ hi
  | [], [], lo, hi, h => h
  | us :: uss, r :: l, lo, hi, ⟨mid, _, _, _, _, _, h1, h2⟩ => Nat.le_trans h1 h2.le
theorem OwnR.frame {w w' : World} {B : Nat} {N : Nat → Nat → Prop} (f : Fr N w w') : ∀ {uss : List (List Value)} {l : List (List RC)} {lo hi : Nat}, OwnR w B lo uss l hi → (∀ b off, lo ≤ b → b < hi → b ≠ B → ¬ N b off) → OwnR w' B lo uss l hi
  | [], [], lo, hi, h, hn => h
  | us :: uss, r :: l, lo, hi, ⟨mid, F, hz, h1, h2, h3, h4, h5⟩, hn => by
    refine ⟨mid, F, hz, RepDs.frame f _ h1 fun A hA b off hb => ?_, h2, h3, h4, h5.frame f fun b off hb hb' => hn b off (by omega) hb'⟩
    have := h3 b off ⟨A, hA, qee r h1 A hA, hb⟩
    have := h5.le
    exact hn b off (by omega) (by omega) (by omega)
theorem OwnR.snoc {w : World} {B : Nat} {us : List Value} {F : Feet} {r : List RC} {h1 hi : Nat} (hz : okSt r = true) (hr : RepDs w (dsO r) us F) (hs : Ev.Sep F) (hb : ∀ b off, ownOf F b off → h1 ≤ b ∧ b < hi ∧ b ≠ B) (hle : h1 ≤ hi) : ∀ {uss : List (List Value)} {l : List (List RC)} {lo : Nat}, OwnR w B lo uss l h1 → OwnR w B lo (uss ++ [us]) (l ++ [r]) hi
  | [], [], lo, h => ⟨hi, F, hz, hr, hs, fun b off ho => by have := hb b off ho; have h : lo ≤ h1 := h; omega, by have h : lo ≤ h1 := h; omega, Nat.le_refl _⟩
  | us' :: uss, r' :: l, lo, ⟨mid, G, k1, k2, k3, k4, k5, k6⟩ => ⟨mid, G, k1, k2, k3, k4, k5, k6.snoc hz hr hs hb hle⟩
theorem OwnR.up {w : World} {B : Nat} : ∀ {uss : List (List Value)} {l : List (List RC)} {lo hi hi' : Nat}, OwnR w B lo uss l hi → hi ≤ hi' → OwnR w B lo uss l hi'
  | [], [], lo, hi, hi', h, hh => Nat.le_trans h hh
  | us :: uss, r :: l, lo, hi, hi', ⟨mid, F, hz, h1, h2, h3, h4, h5⟩, hh => ⟨mid, F, hz, h1, h2, h3, h4, h5.up hh⟩
theorem OwnR.move {w : World} {B B' : Nat} : ∀ {uss : List (List Value)} {l : List (List RC)} {lo hi : Nat}, OwnR w B lo uss l hi → hi ≤ B' → OwnR w B' lo uss l hi
  | [], [], lo, hi, h, hh => h
  | us :: uss, r :: l, lo, hi, ⟨mid, F, hz, h1, h2, h3, h4, h5⟩, hh => ⟨mid, F, hz, h1, h2, fun b off ho => by
      have := h3 b off ho
      have := h5.le
      omega, h4, h5.move hh⟩
theorem qef {w : World} {r : List RC} (hz : okSt r = true) {us : List Value} {F : Feet} (h : RepDs w (dsO r) us F) : RowL w zSt us r := by
  obtain ⟨G, hG, _⟩ := RepDs.ro _ h
  rw [qlg] at hG
  rw [← qkt hz]
  exact row_of_ds _ hG
theorem OwnR.rows {w : World} {B : Nat} : ∀ {uss : List (List Value)} {l : List (List RC)} {lo hi : Nat}, OwnR w B lo uss l hi → RowsL w zSt uss l
  | [], [], lo, hi, h => rfl
  | us :: uss, r :: l, lo, hi, ⟨mid, F, hz, h1, h2, h3, h4, h5⟩ => ⟨r, l, rfl, qef hz h1, h5.rows⟩
theorem OwnR.inn {w : World} {B b off : Nat} : ∀ {uss : List (List Value)} {l : List (List RC)} {lo hi : Nat}, OwnR w B lo uss l hi → ∀ us ∈ uss, innR zSt us b off → lo ≤ b ∧ b < hi ∧ b ≠ B
  | [], [], lo, hi, h, us, hu, hi' => by cases hu
  | us' :: uss, r :: l, lo, hi, ⟨mid, F, hz, h1, h2, h3, h4, h5⟩, us, hu, hi' => by
    rcases List.mem_cons.1 hu with rfl | hu
    · rw [← qkt hz] at hi'
      have := h3 b off (qk1 r h1 hi')
      have := h5.le
      omega
    · have := h5.inn us hu hi'
      omega
def Out (W : World) (lo hi : Nat) (l : List (List RC)) (u : Value) : Prop := ∃ (B cap : Nat) (uss : List (List Value)), OwnR W B lo uss l hi ∧
  ((u = .slice none 0 0 ∧ l = []) ∨ (u = .slice (some ⟨B, 0, none⟩) l.length cap ∧ l.length ≤ cap ∧ lo ≤ B ∧ B < hi ∧ W.rangeAt B 0 uss.flatten ∧ W.there B 0 (l.length * 5)))
theorem qle {N : Nat → Nat → Prop} {W W' : World} {b o : Nat} {cs : List Value} (f : Fr N W W') (h : W.rangeAt b o cs) (hn : ∀ off, ¬ N b off) : W'.rangeAt b o cs := fun j v hv => qd3 f (h j v hv) (hn _)
theorem Out.frame {N : Nat → Nat → Prop} {W W' : World} {lo hi : Nat} {l : List (List RC)} {u : Value} (h : Out W lo hi l u) (f : Fr N W W') (hn : ∀ b off, lo ≤ b → b < hi → ¬ N b off) : Out W' lo hi l u := by
  obtain ⟨B, cap, uss, hO, h⟩ := h
  refine ⟨B, cap, uss, hO.frame f fun b off h1 h2 _ => hn b off h1 h2, ?_⟩
  rcases h with h | ⟨h1, h2, h3, h4, h5, h6⟩
  · exact .inl h
  · exact .inr ⟨h1, h2, h3, h4, qle f h5 fun off => hn B off h3 h4, qng f h6⟩
theorem Out.below {W W' : World} {lo hi : Nat} {l : List (List RC)} {u : Value} (h : Out W lo hi l u) (f : RowKit.Below W.heap.size W W') : Out W' lo hi l u :=
  h.frame (N := fun _ _ => False) (fr_of_below f) fun _ _ _ _ h => h
theorem Out.rep {W : World} {lo hi : Nat} {l : List (List RC)} {u : Value} (h : Out W lo hi l u) : ∃ nz F, RepD W (.rows nz zSt l) u F ∧ Still F := by
  obtain ⟨B, cap, uss, hO, h⟩ := h
  have hR := hO.rows
  rcases h with ⟨rfl, rfl⟩ | ⟨rfl, h2, h3, h4, h5, h6⟩
  · refine ⟨true, _, by
      simp only [RepD]
      exact ⟨⟨none, 0, 0, 5, []⟩, rfl, ⟨rfl, rfl, by simp, (fun _ => ⟨rfl, rfl⟩), (fun x hx => by cases hx), (fun h => by cases h), rfl⟩, rfl⟩, fun A hA => ?_⟩
    rcases List.mem_cons.1 hA with rfl | hA
    · rfl
    · rw [List.mem_singleton.1 hA]
  · refine ⟨false, _, by
      simp only [RepD]
      refine ⟨⟨some ⟨B, 0, none⟩, l.length, cap, 5, uss⟩, rfl, ⟨rfl, rfl, by simp, (fun h => by cases h), (fun x hx => ?_), (fun h => by cases h), hR⟩, rfl⟩
      simp only [Option.some.injEq] at hx
      subst hx
      refine ⟨h2, fun j v hj => ?_⟩
      have := h5 j v hj
      rwa [Addr.add_mid], fun A hA => ?_⟩
    rcases List.mem_cons.1 hA with rfl | hA
    · rfl
    · rw [List.mem_singleton.1 hA]
end Go.Proofs.Ytcaapedadpnjoaa
end
section
namespace Go.Proofs.Ytcaapedadpnjoaa
open Go.Ev
theorem qew (k : Nat) (a0 : Int) (a1z : Bool) (a1 : List (Int × Int × Int)) (a2z : Bool) (a2 : List Int) (a3z : Bool) (a3 : List Int) (a4z : Bool) (a4 : List Int) (b : Int) : go (k + 1) impl_State_flux [(.agg [(.int .i64 (a0)), (.arr false (a1z) (.r3 (a1))), (.arr false (a2z) (.ints .i64 (a2))), (.arr false (a3z) (.ints .i64 (a3))), (.arr false (a4z) (.ints .i64 (a4)))]), (.int .i64 (b))] =
 (go k impl_State_side [(.agg [(.int .i64 (a0)), (.arr false (a1z) (.r3 (a1))), (.arr false (a2z) (.ints .i64 (a2))), (.arr false (a3z) (.ints .i64 (a3))), (.arr false (a4z) (.ints .i64 (a4)))]), (.int .i64 (b))]).bind fun r0 =>
 (go k impl_State_side [(.agg [(.int .i64 (a0)), (.arr false (a1z) (.r3 (a1))), (.arr false (a2z) (.ints .i64 (a2))), (.arr false (a3z) (.ints .i64 (a3))), (.arr false (a4z) (.ints .i64 (a4)))]), (.int .i64 (IntKind.wrap .i64 (b + (1 : Int))))]).bind fun r1 =>
 (go k impl_flux [(.agg [(.int .i64 (D.toInt (D.cell 0 (nth r0 0)))), (.int .i64 (D.toInt (D.cell 1 (nth r0 0)))), (.int .i64 (D.toInt (D.cell 2 (nth r0 0))))]), (.agg [(.int .i64 (D.toInt (D.cell 0 (nth r1 0)))), (.int .i64 (D.toInt (D.cell 1 (nth r1 0)))), (.int .i64 (D.toInt (D.cell 2 (nth r1 0))))])]).bind fun r2 =>
 some [(.int .i64 (D.toInt (nth r2 0)))] := by kernel_rfl
theorem qe1 (k : Nat) (a0 : Int) (a1z : Bool) (a1 : List (Int × Int × Int)) (a2z : Bool) (a2 : List Int) (a3z : Bool) (a3 : List Int) (a4z : Bool) (a4 : List Int) (b : Int) : go (k + 1) impl_State_side [(.agg [(.int .i64 (a0)), (.arr false (a1z) (.r3 (a1))), (.arr false (a2z) (.ints .i64 (a2))), (.arr false (a3z) (.ints .i64 (a3))), (.arr false (a4z) (.ints .i64 (a4)))]), (.int .i64 (b))] =
 cond (decide ((0 : Int) ≤ b) && decide (b < nI (List.length a1)))
 (cond (decide ((0 : Int) ≤ b) && decide (b < nI (List.length a2)))
 ((go k impl_State_surface [(.agg [(.int .i64 (a0)), (.arr false (a1z) (.r3 (a1))), (.arr false (a2z) (.ints .i64 (a2))), (.arr false (a3z) (.ints .i64 (a3))), (.arr false (a4z) (.ints .i64 (a4)))]), (.int .i64 (b))]).bind fun r0 =>
 some [(.agg [(.int .i64 (Prod.fst (Prod.snd (List.getD a1 (Int.toNat b) zz3)))), (.int .i64 (List.getD a2 (Int.toNat b) (0 : Int))), (.int .i64 (D.toInt (nth r0 0)))])])
 (none))
 (none) := by kernel_rfl
theorem qe9 (k : Nat) (a0 a1 a2 b0 b1 b2 : Int) : go (k + 1) impl_flux [(.agg [(.int .i64 (a0)), (.int .i64 (a1)), (.int .i64 (a2))]), (.agg [(.int .i64 (b0)), (.int .i64 (b1)), (.int .i64 (b2))])] =
 (go k impl_WidthOf [(.int .i64 (a0))]).bind fun r0 =>
 (go k impl_WidthOf [(.int .i64 (b0))]).bind fun r1 =>
 (go k impl_WidthOf [(.int .i64 (if b0 > a0 then b0 else a0))]).bind fun r2 =>
 (go k impl_DivTrunc [(.int .i64 (IntKind.wrap .i64 (IntKind.wrap .i64 (a2 - b2) * D.toInt (nth r2 0)))), (.int .i64 (IntKind.wrap .i64 ((32 : Int) * IntKind.wrap .i64 (D.toInt (nth r0 0) + D.toInt (nth r1 0)))))]).bind fun r3 =>
 (go k impl_Clamp [(.int .i64 (D.toInt (nth r3 0))), (.int .i64 (IntKind.wrap .i64 ((0 : Int) - IntKind.wrap .i64 (Int.tdiv b1 (4 : Int))))), (.int .i64 (IntKind.wrap .i64 (Int.tdiv a1 (4 : Int))))]).bind fun r4 =>
 some [(.int .i64 (D.toInt (nth r4 0)))] := by kernel_rfl
theorem qeg (k : Nat) (a b c : Int) : go (k + 1) impl_Clamp [(.int .i64 (a)), (.int .i64 (b)), (.int .i64 (c))] =
 cond (decide (c < b))
 (some [(.int .i64 (b))])
 (some [(.int .i64 (if c < if b > a then b else a then c else if b > a then b else a))]) := by kernel_rfl
theorem qeh (k : Nat) (a b : Int) : go (k + 1) impl_DivTrunc [(.int .i64 (a)), (.int .i64 (b))] =
 cond (decide (b ≤ (0 : Int)))
 (some [(.int .i64 (0 : Int))])
 (cond (!decide (b = (0 : Int)))
 (some [(.int .i64 (IntKind.wrap .i64 (Int.tdiv a b)))])
 (none)) := by kernel_rfl
theorem qen (k : Nat) (a b c d : Int) : go (k + 1) impl_LeafOut [(.int .i64 (a)), (.int .i64 (b)), (.int .i64 (c)), (.int .i64 (d))] =
 (go k impl_within [(.int .i64 (b)), (.int .i64 ((1 : Int))), (.int .i64 ((10000000 : Int)))]).bind fun r0 =>
 cond (!bit (nth r0 0))
 (some [(.int .i64 (0 : Int)), (.int .i64 (0 : Int))])
 ((go k impl_within [(.int .i64 (a)), (.int .i64 (0 : Int)), (.int .i64 (IntKind.wrap .i64 ((1000 : Int) * b)))]).bind fun r1 =>
 cond (!bit (nth r1 0))
 (some [(.int .i64 (0 : Int)), (.int .i64 (0 : Int))])
 ((go k impl_within [(.int .i64 (c)), (.int .i64 (0 : Int)), (.int .i64 (b))]).bind fun r2 =>
 cond (!bit (nth r2 0))
 (some [(.int .i64 (0 : Int)), (.int .i64 (0 : Int))])
 ((go k impl_within [(.int .i64 (d)), (.int .i64 (0 : Int)), (.int .i64 (IntKind.wrap .i64 (b - c)))]).bind fun r3 =>
 cond (!bit (nth r3 0))
 (some [(.int .i64 (0 : Int)), (.int .i64 (0 : Int))])
 ((go k impl_ShareOut [(.int .i64 (a)), (.int .i64 (c)), (.int .i64 (b))]).bind fun r4 =>
 (go k impl_ShareOut [(.int .i64 (a)), (.int .i64 (IntKind.wrap .i64 (c + d))), (.int .i64 (b))]).bind fun r5 =>
 some [(.int .i64 (D.toInt (nth r4 0))), (.int .i64 (IntKind.wrap .i64 (D.toInt (nth r5 0) - D.toInt (nth r4 0))))])))) := by kernel_rfl
theorem qet (k : Nat) (a b c : Int) : go (k + 1) impl_ShareOut [(.int .i64 (a)), (.int .i64 (b)), (.int .i64 (c))] =
 (go k impl_within [(.int .i64 (c)), (.int .i64 ((1 : Int))), (.int .i64 ((10000000 : Int)))]).bind fun r0 =>
 cond (!bit (nth r0 0))
 (some [(.int .i64 (0 : Int))])
 ((go k impl_within [(.int .i64 (b)), (.int .i64 (0 : Int)), (.int .i64 (c))]).bind fun r1 =>
 cond (!bit (nth r1 0))
 (some [(.int .i64 (0 : Int))])
 ((go k impl_within [(.int .i64 (a)), (.int .i64 (0 : Int)), (.int .i64 (IntKind.wrap .i64 ((1000 : Int) * c)))]).bind fun r2 =>
 cond (!bit (nth r2 0))
 (some [(.int .i64 (0 : Int))])
 (cond (!decide (c = (0 : Int)))
 (some [(.int .i64 (IntKind.wrap .i64 (Int.tdiv (IntKind.wrap .i64 (a * b)) c)))])
 (none)))) := by kernel_rfl
def qls (x0 x1 x2 : Int) (z3 : Bool) (l4 : List (Int × Int × Int)) (x5 : Int) (z6 : Bool) (l7 : List Int) : St := ⟨fill 26 [(1, (.int .i64 (x0))), (2, (.ptr 1 (0) (0))), (5, (.sl 2 none)), (11, (.int .i64 (x1))), (12, (.int .i64 (x2)))], [], [(.arr false (z3) (.r3 (l4))), (.box true [(.int .i64 (x5)), (.sl 0 none)]), (.arr true (z6) (.ints .i64 (l7)))]⟩
theorem qep (k : Nat) (a0 : Int) (a1z : Bool) (a1 : List (Int × Int × Int)) (b : Int) : go (k + 1) impl_Mesh_active [(.agg [(.int .i64 (a0)), (.arr false (a1z) (.r3 (a1)))]), (.int .i64 (b))] =
 lp k impl_Mesh_active [] [] 3 k (qls b (IntKind.wrap .i64 (nI (List.length a1) - (1 : Int))) (0 : Int) a1z a1 a0 false ([])) := by kernel_rfl
theorem qho (k n : Nat) (fu : List (Nat × Nat)) (x0 x1 x2 : Int) (z3 : Bool) (l4 : List (Int × Int × Int)) (x5 : Int) (z6 : Bool) (l7 : List Int) : lp k impl_Mesh_active [] fu 3 (n + 1) (qls x0 x1 x2 z3 l4 x5 z6 l7) =
 cond (decide (x2 < x1))
 ((go k impl_Mesh_faceLevel [(.agg [(.int .i64 (x5)), (.arr false (z3) (.r3 (l4)))]), (.int .i64 (x2))]).bind fun r0 =>
 (go k impl_IsActive [(.int .i64 (x0)), (.int .i64 (D.toInt (nth r0 0)))]).bind fun r1 =>
 cond (bit (nth r1 0))
 (cond (decide (List.length (l7 ++ [x2]) ≤ bigLen))
 (lp k impl_Mesh_active [] fu 3 n (qls x0 x1 (IntKind.wrap .i64 (x2 + (1 : Int))) z3 l4 x5 (z6 && decide (List.length (l7 ++ [x2]) = 0)) (l7 ++ [x2])))
 (none))
 (lp k impl_Mesh_active [] fu 3 n (qls x0 x1 (IntKind.wrap .i64 (x2 + (1 : Int))) z3 l4 x5 z6 l7)))
 (some [(.arr true (z6) (.ints .i64 (l7)))]) := by kernel_rfl
def qlv (x0 x1 : Int) (z2 : Bool) (l3 : List (Int × Int × Int)) (z4 : Bool) (l5 : List Int) (z6 : Bool) (l7 : List Int) (z8 : Bool) (l9 : List Int) (x10 : Int) (z11 : Bool) (l12 : List Int) (z13 : Bool) (l14 : List Int) (z15 : Bool) (l16 : List Int) (z17 : Bool) (l18 : List Int) : St := ⟨fill 155 [(0, (.ptr 4 (0) (0))), (4, (.sl 5 none)), (5, (.sl 6 none)), (9, (.ptr 8 (0) (0))), (10, (.ptr 10 (0) (0))), (11, (.fn impl_State_move_1 [(.ptr 8 (0) (0)), (.ptr 10 (0) (0))])), (69, (.int .i64 (x0))), (70, (.int .i64 (x1)))], [(.ptr 4 (0) (0))], [(.arr true (z2) (.r3 (l3))), (.arr true (z4) (.ints .i64 (l5))), (.arr true (z6) (.ints .i64 (l7))), (.arr true (z8) (.ints .i64 (l9))), (.box true [(.int .i64 (x10)), (.sl 0 none), (.sl 1 none), (.sl 2 none), (.sl 3 none)]), (.arr true (z11) (.ints .i64 (l12))), (.arr true (z13) (.ints .i64 (l14))), (.arr true (z15) (.ints .i64 (l16))), (.box true [(.sl 7 none)]), (.arr true (z17) (.ints .i64 (l18))), (.box true [(.sl 9 none)])]⟩
def qlw (x0 x1 : Int) (z2 : Bool) (l3 : List (Int × Int × Int)) (z4 : Bool) (l5 : List Int) (z6 : Bool) (l7 : List Int) (z8 : Bool) (l9 : List Int) (x10 : Int) (z11 : Bool) (l12 : List Int) (z13 : Bool) (l14 : List Int) : St := ⟨fill 155 [(0, (.ptr 4 (0) (0))), (9, (.ptr 6 (0) (0))), (10, (.ptr 8 (0) (0))), (124, (.int .i64 (x0))), (125, (.int .i64 (x1)))], [(.ptr 4 (0) (0))], [(.arr true (z2) (.r3 (l3))), (.arr true (z4) (.ints .i64 (l5))), (.arr true (z6) (.ints .i64 (l7))), (.arr true (z8) (.ints .i64 (l9))), (.box true [(.int .i64 (x10)), (.sl 0 none), (.sl 1 none), (.sl 2 none), (.sl 3 none)]), (.arr true (z11) (.ints .i64 (l12))), (.box true [(.sl 5 none)]), (.arr true (z13) (.ints .i64 (l14))), (.box true [(.sl 7 none)])]⟩
def qlx (x0 x1 : Int) (z2 : Bool) (l3 : List (Int × Int × Int)) (z4 : Bool) (l5 : List Int) (z6 : Bool) (l7 : List Int) (z8 : Bool) (l9 : List Int) (x10 : Int) (z11 : Bool) (l12 : List Int) (z13 : Bool) (l14 : List Int) (z15 : Bool) (l16 : List Int) : St := ⟨fill 155 [(0, (.ptr 4 (0) (0))), (4, (.sl 5 none)), (5, (.sl 6 none)), (28, (.sl 7 none)), (29, (.int .i64 (x0))), (30, (.int .i64 (x1)))], [(.ptr 4 (0) (0))], [(.arr true (z2) (.r3 (l3))), (.arr true (z4) (.ints .i64 (l5))), (.arr true (z6) (.ints .i64 (l7))), (.arr true (z8) (.ints .i64 (l9))), (.box true [(.int .i64 (x10)), (.sl 0 none), (.sl 1 none), (.sl 2 none), (.sl 3 none)]), (.arr true (z11) (.ints .i64 (l12))), (.arr true (z13) (.ints .i64 (l14))), (.arr false (z15) (.ints .i64 (l16)))]⟩
theorem qez (k : Nat) (a0 : Int) (a1z : Bool) (a1 : List (Int × Int × Int)) (a2z : Bool) (a2 : List Int) (a3z : Bool) (a3 : List Int) (a4z : Bool) (a4 : List Int) (bz : Bool) (b : List Int) : go (k + 1) impl_State_move [(.ptr true [(.int .i64 (a0)), (.arr true (a1z) (.r3 (a1))), (.arr true (a2z) (.ints .i64 (a2))), (.arr true (a3z) (.ints .i64 (a3))), (.arr true (a4z) (.ints .i64 (a4)))]), (.arr false (bz) (.ints .i64 (b)))] =
 cond (decide ((0 : Int) ≤ nI (List.length a2)) && decide (nI (List.length a2) ≤ nI (List.length a2)) && decide (nI (List.length a2) ≤ nI bigLen))
 (cond (decide ((0 : Int) ≤ nI (List.length a2)) && decide (nI (List.length a2) ≤ nI (List.length a2)) && decide (nI (List.length a2) ≤ nI bigLen))
 (lp k impl_State_move [(.ptr true [(.int .i64 (a0)), (.arr true (a1z) (.r3 (a1))), (.arr true (a2z) (.ints .i64 (a2))), (.arr true (a3z) (.ints .i64 (a3))), (.arr true (a4z) (.ints .i64 (a4)))])] [] 2 k (qlx (nI (List.length b)) (0 : Int) a1z a1 a2z a2 a3z a3 a4z a4 a0 false (List.replicate (Int.toNat (nI (List.length a2))) (0 : Int)) false (List.replicate (Int.toNat (nI (List.length a2))) (0 : Int)) bz b))
 (none))
 (none) := by kernel_rfl
theorem qhr (k n : Nat) (fu : List (Nat × Nat)) (a0 : Int) (a1z : Bool) (a1 : List (Int × Int × Int)) (a2z : Bool) (a2 : List Int) (a3z : Bool) (a3 : List Int) (a4z : Bool) (a4 : List Int) (x0 x1 : Int) (z2 : Bool) (l3 : List (Int × Int × Int)) (z4 : Bool) (l5 : List Int) (z6 : Bool) (l7 : List Int) (z8 : Bool) (l9 : List Int) (x10 : Int) (z11 : Bool) (l12 : List Int) (z13 : Bool) (l14 : List Int) (z15 : Bool) (l16 : List Int) (z17 : Bool) (l18 : List Int) : lp k impl_State_move [(.ptr true [(.int .i64 (a0)), (.arr true (a1z) (.r3 (a1))), (.arr true (a2z) (.ints .i64 (a2))), (.arr true (a3z) (.ints .i64 (a3))), (.arr true (a4z) (.ints .i64 (a4)))])] fu 12 (n + 1) (qlv x0 x1 z2 l3 z4 l5 z6 l7 z8 l9 x10 z11 l12 z13 l14 z15 l16 z17 l18) =
 cond (decide (x1 < x0))
 (cond (decide ((0 : Int) ≤ x1) && decide (x1 < nI (List.length l7)))
 (cond (decide ((0 : Int) ≤ x1) && decide (x1 < nI (List.length l5)))
 (cond (decide ((0 : Int) ≤ x1) && decide (x1 < nI (List.length l12)))
 (cond (decide ((0 : Int) ≤ x1) && decide (x1 < nI (List.length l14)))
 ((go k impl_LeafOut [(.int .i64 (List.getD l7 (Int.toNat x1) (0 : Int))), (.int .i64 (List.getD l5 (Int.toNat x1) (0 : Int))), (.int .i64 (List.getD l12 (Int.toNat x1) (0 : Int))), (.int .i64 (List.getD l14 (Int.toNat x1) (0 : Int)))]).bind fun r0 =>
 cond (decide ((0 : Int) ≤ x1) && decide (x1 < nI (List.length l12)))
 ((go k impl_State_move_1 [(.int .i64 (x1)), (.int .i64 (IntKind.wrap .i64 (x1 + (1 : Int)))), (.int .i64 (List.getD l12 (Int.toNat x1) (0 : Int))), (.int .i64 (D.toInt (nth r0 0))), (.ptr true [(.arr true (z15) (.ints .i64 (l16)))]), (.ptr true [(.arr true (z17) (.ints .i64 (l18)))])]).bind fun r1 =>
 cond (decide ((0 : Int) ≤ x1) && decide (x1 < nI (List.length l14)))
 ((go k impl_State_move_1 [(.int .i64 (x1)), (.int .i64 (IntKind.wrap .i64 (x1 - (1 : Int)))), (.int .i64 (List.getD l14 (Int.toNat x1) (0 : Int))), (.int .i64 (D.toInt (nth r0 1))), (.ptr true [(.arr true (D.nil (D.cell 0 (nth r1 0))) (.ints .i64 (D.ints (D.cell 0 (nth r1 0)))))]), (.ptr true [(.arr true (D.nil (D.cell 0 (nth r1 1))) (.ints .i64 (D.ints (D.cell 0 (nth r1 1)))))])]).bind fun r2 =>
 lp k impl_State_move [(.ptr true [(.int .i64 (a0)), (.arr true (a1z) (.r3 (a1))), (.arr true (a2z) (.ints .i64 (a2))), (.arr true (a3z) (.ints .i64 (a3))), (.arr true (a4z) (.ints .i64 (a4)))])] fu 12 n (qlv x0 (IntKind.wrap .i64 (x1 + (1 : Int))) z2 l3 z4 l5 z6 l7 z8 l9 x10 z11 l12 z13 l14 (D.nil (D.cell 0 (nth r2 0))) (D.ints (D.cell 0 (nth r2 0))) (D.nil (D.cell 0 (nth r2 1))) (D.ints (D.cell 0 (nth r2 1)))))
 (none))
 (none))
 (none))
 (none))
 (none))
 (none))
 (lp k impl_State_move [(.ptr true [(.int .i64 (a0)), (.arr true (a1z) (.r3 (a1))), (.arr true (a2z) (.ints .i64 (a2))), (.arr true (a3z) (.ints .i64 (a3))), (.arr true (a4z) (.ints .i64 (a4)))])] fu 19 k (qlw (nI (List.length l5)) (0 : Int) z2 l3 z4 l5 z6 l7 z8 l9 x10 z15 l16 z17 l18)) := by kernel_rfl
theorem qhs (k n : Nat) (fu : List (Nat × Nat)) (a0 : Int) (a1z : Bool) (a1 : List (Int × Int × Int)) (a2z : Bool) (a2 : List Int) (a3z : Bool) (a3 : List Int) (a4z : Bool) (a4 : List Int) (x0 x1 : Int) (z2 : Bool) (l3 : List (Int × Int × Int)) (z4 : Bool) (l5 : List Int) (z6 : Bool) (l7 : List Int) (z8 : Bool) (l9 : List Int) (x10 : Int) (z11 : Bool) (l12 : List Int) (z13 : Bool) (l14 : List Int) : lp k impl_State_move [(.ptr true [(.int .i64 (a0)), (.arr true (a1z) (.r3 (a1))), (.arr true (a2z) (.ints .i64 (a2))), (.arr true (a3z) (.ints .i64 (a3))), (.arr true (a4z) (.ints .i64 (a4)))])] fu 19 (n + 1) (qlw x0 x1 z2 l3 z4 l5 z6 l7 z8 l9 x10 z11 l12 z13 l14) =
 cond (decide (x1 < x0))
 (cond (decide ((0 : Int) ≤ x1) && decide (x1 < nI (List.length l5)))
 (cond (decide ((0 : Int) ≤ x1) && decide (x1 < nI (List.length l12)))
 (cond (decide ((0 : Int) ≤ x1) && decide (x1 < nI (List.length l5)))
 (cond (decide ((0 : Int) ≤ x1) && decide (x1 < nI (List.length l7)))
 (cond (decide ((0 : Int) ≤ x1) && decide (x1 < nI (List.length l14)))
 (cond (decide ((0 : Int) ≤ x1) && decide (x1 < nI (List.length l7)))
 (lp k impl_State_move [(.ptr true [(.int .i64 (a0)), (.arr true (a1z) (.r3 (a1))), (.arr true (a2z) (.ints .i64 (a2))), (.arr true (a3z) (.ints .i64 (a3))), (.arr true (a4z) (.ints .i64 (a4)))])] fu 19 n (qlw x0 (IntKind.wrap .i64 (x1 + (1 : Int))) z2 l3 z4 (List.set l5 (Int.toNat x1) (IntKind.wrap .i64 (List.getD l5 (Int.toNat x1) (0 : Int) + List.getD l12 (Int.toNat x1) (0 : Int)))) z6 (List.set l7 (Int.toNat x1) (IntKind.wrap .i64 (List.getD l7 (Int.toNat x1) (0 : Int) + List.getD l14 (Int.toNat x1) (0 : Int)))) z8 l9 x10 z11 l12 z13 l14))
 (none))
 (none))
 (none))
 (none))
 (none))
 (none))
 (some [(.ptr true [(.int .i64 (x10)), (.arr true (z2) (.r3 (l3))), (.arr true (z4) (.ints .i64 (l5))), (.arr true (z6) (.ints .i64 (l7))), (.arr true (z8) (.ints .i64 (l9)))])]) := by kernel_rfl
theorem qht (k n : Nat) (fu : List (Nat × Nat)) (a0 : Int) (a1z : Bool) (a1 : List (Int × Int × Int)) (a2z : Bool) (a2 : List Int) (a3z : Bool) (a3 : List Int) (a4z : Bool) (a4 : List Int) (x0 x1 : Int) (z2 : Bool) (l3 : List (Int × Int × Int)) (z4 : Bool) (l5 : List Int) (z6 : Bool) (l7 : List Int) (z8 : Bool) (l9 : List Int) (x10 : Int) (z11 : Bool) (l12 : List Int) (z13 : Bool) (l14 : List Int) (z15 : Bool) (l16 : List Int) : lp k impl_State_move [(.ptr true [(.int .i64 (a0)), (.arr true (a1z) (.r3 (a1))), (.arr true (a2z) (.ints .i64 (a2))), (.arr true (a3z) (.ints .i64 (a3))), (.arr true (a4z) (.ints .i64 (a4)))])] fu 2 (n + 1) (qlx x0 x1 z2 l3 z4 l5 z6 l7 z8 l9 x10 z11 l12 z13 l14 z15 l16) =
 cond (decide (x1 < x0))
 (cond (decide ((0 : Int) ≤ x1) && decide (x1 < nI (List.length l16)))
 ((go k impl_State_flux [(.agg [(.int .i64 (x10)), (.arr false (z2) (.r3 (l3))), (.arr false (z4) (.ints .i64 (l5))), (.arr false (z6) (.ints .i64 (l7))), (.arr false (z8) (.ints .i64 (l9)))]), (.int .i64 (List.getD l16 (Int.toNat x1) (0 : Int)))]).bind fun r0 =>
 cond (decide ((0 : Int) < D.toInt (nth r0 0)))
 (cond (decide ((0 : Int) ≤ List.getD l16 (Int.toNat x1) (0 : Int)) && decide (List.getD l16 (Int.toNat x1) (0 : Int) < nI (List.length l12)))
 (lp k impl_State_move [(.ptr true [(.int .i64 (a0)), (.arr true (a1z) (.r3 (a1))), (.arr true (a2z) (.ints .i64 (a2))), (.arr true (a3z) (.ints .i64 (a3))), (.arr true (a4z) (.ints .i64 (a4)))])] fu 2 n (qlx x0 (IntKind.wrap .i64 (x1 + (1 : Int))) z2 l3 z4 l5 z6 l7 z8 l9 x10 z11 (List.set l12 (Int.toNat (List.getD l16 (Int.toNat x1) (0 : Int))) (D.toInt (nth r0 0))) z13 l14 z15 l16))
 (none))
 (cond (decide ((0 : Int) ≤ IntKind.wrap .i64 (List.getD l16 (Int.toNat x1) (0 : Int) + (1 : Int))) && decide (IntKind.wrap .i64 (List.getD l16 (Int.toNat x1) (0 : Int) + (1 : Int)) < nI (List.length l14)))
 (lp k impl_State_move [(.ptr true [(.int .i64 (a0)), (.arr true (a1z) (.r3 (a1))), (.arr true (a2z) (.ints .i64 (a2))), (.arr true (a3z) (.ints .i64 (a3))), (.arr true (a4z) (.ints .i64 (a4)))])] fu 2 n (qlx x0 (IntKind.wrap .i64 (x1 + (1 : Int))) z2 l3 z4 l5 z6 l7 z8 l9 x10 z11 l12 z13 (List.set l14 (Int.toNat (IntKind.wrap .i64 (List.getD l16 (Int.toNat x1) (0 : Int) + (1 : Int)))) (IntKind.wrap .i64 ((0 : Int) - D.toInt (nth r0 0)))) z15 l16))
 (none)))
 (none))
 (cond (decide ((0 : Int) ≤ nI (List.length l5)) && decide (nI (List.length l5) ≤ nI (List.length l5)) && decide (nI (List.length l5) ≤ nI bigLen))
 (cond (decide ((0 : Int) ≤ nI (List.length l5)) && decide (nI (List.length l5) ≤ nI (List.length l5)) && decide (nI (List.length l5) ≤ nI bigLen))
 (lp k impl_State_move [(.ptr true [(.int .i64 (a0)), (.arr true (a1z) (.r3 (a1))), (.arr true (a2z) (.ints .i64 (a2))), (.arr true (a3z) (.ints .i64 (a3))), (.arr true (a4z) (.ints .i64 (a4)))])] fu 12 k (qlv (nI (List.length l5)) (0 : Int) z2 l3 z4 l5 z6 l7 z8 l9 x10 z11 l12 z13 l14 false (List.replicate (Int.toNat (nI (List.length l5))) (0 : Int)) false (List.replicate (Int.toNat (nI (List.length l5))) (0 : Int))))
 (none))
 (none)) := by kernel_rfl
theorem qe0 (k : Nat) (v0 v1 v2 v3 : Int) (v4 : Bool) (v5 : List Int) (v6 : Bool) (v7 : List Int) : go (k + 1) impl_State_move_1 [(.int .i64 (v0)), (.int .i64 (v1)), (.int .i64 (v2)), (.int .i64 (v3)), (.ptr true [(.arr true (v4) (.ints .i64 (v5)))]), (.ptr true [(.arr true (v6) (.ints .i64 (v7)))])] =
 cond (decide ((0 : Int) < v2))
 (cond (decide ((0 : Int) ≤ v0) && decide (v0 < nI (List.length v5)))
 (cond (decide ((0 : Int) ≤ v0) && decide (v0 < nI (List.length v5)))
 (cond (decide ((0 : Int) ≤ v1) && decide (v1 < nI (List.length (List.set v5 (Int.toNat v0) (IntKind.wrap .i64 (List.getD v5 (Int.toNat v0) (0 : Int) - v2))))))
 (cond (decide ((0 : Int) ≤ v1) && decide (v1 < nI (List.length (List.set v5 (Int.toNat v0) (IntKind.wrap .i64 (List.getD v5 (Int.toNat v0) (0 : Int) - v2))))))
 (cond (decide ((0 : Int) ≤ v0) && decide (v0 < nI (List.length v7)))
 (cond (decide ((0 : Int) ≤ v0) && decide (v0 < nI (List.length v7)))
 (cond (decide ((0 : Int) ≤ v1) && decide (v1 < nI (List.length (List.set v7 (Int.toNat v0) (IntKind.wrap .i64 (List.getD v7 (Int.toNat v0) (0 : Int) - v3))))))
 (cond (decide ((0 : Int) ≤ v1) && decide (v1 < nI (List.length (List.set v7 (Int.toNat v0) (IntKind.wrap .i64 (List.getD v7 (Int.toNat v0) (0 : Int) - v3))))))
 (some [(.ptr true [(.arr true (v4) (.ints .i64 (List.set (List.set v5 (Int.toNat v0) (IntKind.wrap .i64 (List.getD v5 (Int.toNat v0) (0 : Int) - v2))) (Int.toNat v1) (IntKind.wrap .i64 (List.getD (List.set v5 (Int.toNat v0) (IntKind.wrap .i64 (List.getD v5 (Int.toNat v0) (0 : Int) - v2))) (Int.toNat v1) (0 : Int) + v2)))))]), (.ptr true [(.arr true (v6) (.ints .i64 (List.set (List.set v7 (Int.toNat v0) (IntKind.wrap .i64 (List.getD v7 (Int.toNat v0) (0 : Int) - v3))) (Int.toNat v1) (IntKind.wrap .i64 (List.getD (List.set v7 (Int.toNat v0) (IntKind.wrap .i64 (List.getD v7 (Int.toNat v0) (0 : Int) - v3))) (Int.toNat v1) (0 : Int) + v3)))))])])
 (none))
 (none))
 (none))
 (none))
 (none))
 (none))
 (none))
 (none))
 (some [(.ptr true [(.arr true (v4) (.ints .i64 (v5)))]), (.ptr true [(.arr true (v6) (.ints .i64 (v7)))])]) := by kernel_rfl
theorem qe3 (k : Nat) (a0 : Int) (a1z : Bool) (a1 : List (Int × Int × Int)) (a2z : Bool) (a2 : List Int) (a3z : Bool) (a3 : List Int) (a4z : Bool) (a4 : List Int) (b : Int) : go (k + 1) impl_StepState [(.agg [(.int .i64 (a0)), (.arr false (a1z) (.r3 (a1))), (.arr false (a2z) (.ints .i64 (a2))), (.arr false (a3z) (.ints .i64 (a3))), (.arr false (a4z) (.ints .i64 (a4)))]), (.int .i64 (b))] =
 (go k impl_copyState [(.agg [(.int .i64 (a0)), (.arr false (a1z) (.r3 (a1))), (.arr false (a2z) (.ints .i64 (a2))), (.arr false (a3z) (.ints .i64 (a3))), (.arr false (a4z) (.ints .i64 (a4)))])]).bind fun r0 =>
 (go k impl_StateOk [(.agg [(.int .i64 (a0)), (.arr false (a1z) (.r3 (a1))), (.arr false (a2z) (.ints .i64 (a2))), (.arr false (a3z) (.ints .i64 (a3))), (.arr false (a4z) (.ints .i64 (a4)))])]).bind fun r1 =>
 cond (bit (nth r1 0))
 (cond (decide ((0 : Int) ≤ b))
 ((go k impl_Mesh_active [(.agg [(.int .i64 (a0)), (.arr false (a1z) (.r3 (a1)))]), (.int .i64 (b))]).bind fun r2 =>
 (go k impl_State_move [(.ptr true [(.int .i64 (D.toInt (D.cell 0 (nth r0 0)))), (.arr true (D.nil (D.cell 1 (nth r0 0))) (.r3 (D.r3 (D.cell 1 (nth r0 0))))), (.arr true (D.nil (D.cell 2 (nth r0 0))) (.ints .i64 (D.ints (D.cell 2 (nth r0 0))))), (.arr true (D.nil (D.cell 3 (nth r0 0))) (.ints .i64 (D.ints (D.cell 3 (nth r0 0))))), (.arr true (D.nil (D.cell 4 (nth r0 0))) (.ints .i64 (D.ints (D.cell 4 (nth r0 0)))))]), (.arr false (D.nil (nth r2 0)) (.ints .i64 (D.ints (nth r2 0))))]).bind fun r3 =>
 some [(.agg [(.int .i64 (D.toInt (D.cell 0 (nth r3 0)))), (.arr true (D.nil (D.cell 1 (nth r3 0))) (.r3 (D.r3 (D.cell 1 (nth r3 0))))), (.arr true (D.nil (D.cell 2 (nth r3 0))) (.ints .i64 (D.ints (D.cell 2 (nth r3 0))))), (.arr true (D.nil (D.cell 3 (nth r3 0))) (.ints .i64 (D.ints (D.cell 3 (nth r3 0))))), (.arr true (D.nil (D.cell 4 (nth r3 0))) (.ints .i64 (D.ints (D.cell 4 (nth r3 0)))))])])
 (some [(.agg [(.int .i64 (D.toInt (D.cell 0 (nth r0 0)))), (.arr true (D.nil (D.cell 1 (nth r0 0))) (.r3 (D.r3 (D.cell 1 (nth r0 0))))), (.arr true (D.nil (D.cell 2 (nth r0 0))) (.ints .i64 (D.ints (D.cell 2 (nth r0 0))))), (.arr true (D.nil (D.cell 3 (nth r0 0))) (.ints .i64 (D.ints (D.cell 3 (nth r0 0))))), (.arr true (D.nil (D.cell 4 (nth r0 0))) (.ints .i64 (D.ints (D.cell 4 (nth r0 0)))))])]))
 (some [(.agg [(.int .i64 (D.toInt (D.cell 0 (nth r0 0)))), (.arr true (D.nil (D.cell 1 (nth r0 0))) (.r3 (D.r3 (D.cell 1 (nth r0 0))))), (.arr true (D.nil (D.cell 2 (nth r0 0))) (.ints .i64 (D.ints (D.cell 2 (nth r0 0))))), (.arr true (D.nil (D.cell 3 (nth r0 0))) (.ints .i64 (D.ints (D.cell 3 (nth r0 0))))), (.arr true (D.nil (D.cell 4 (nth r0 0))) (.ints .i64 (D.ints (D.cell 4 (nth r0 0)))))])]) := by kernel_rfl

end Go.Proofs.Ytcaapedadpnjoaa
end
section
namespace Go.Proofs.Ytcaapedadpnjoaa
open Go.Ev
theorem qgp (k : Nat) (a b c d e f : Int) : go (k + 1) spec_l09Pair [(.int .i64 (a)), (.int .i64 (b)), (.int .i64 (c)), (.int .i64 (d)), (.int .i64 (e)), (.int .i64 (f))] =
 (go k spec_WidthOf [(.int .i64 (if f > e then f else e))]).bind fun r0 =>
 (go k spec_WidthOf [(.int .i64 (e))]).bind fun r1 =>
 (go k spec_WidthOf [(.int .i64 (f))]).bind fun r2 =>
 (go k spec_DivTrunc [(.int .i64 (IntKind.wrap .i64 (IntKind.wrap .i64 (a - b) * D.toInt (nth r0 0)))), (.int .i64 (IntKind.wrap .i64 ((32 : Int) * IntKind.wrap .i64 (D.toInt (nth r1 0) + D.toInt (nth r2 0)))))]).bind fun r3 =>
 some [(.int .i64 (if IntKind.wrap .i64 ((0 : Int) - IntKind.wrap .i64 (Int.tdiv d (4 : Int))) > if IntKind.wrap .i64 (Int.tdiv c (4 : Int)) < D.toInt (nth r3 0) then IntKind.wrap .i64 (Int.tdiv c (4 : Int)) else D.toInt (nth r3 0) then IntKind.wrap .i64 ((0 : Int) - IntKind.wrap .i64 (Int.tdiv d (4 : Int))) else if IntKind.wrap .i64 (Int.tdiv c (4 : Int)) < D.toInt (nth r3 0) then IntKind.wrap .i64 (Int.tdiv c (4 : Int)) else D.toInt (nth r3 0)))] := by kernel_rfl
theorem qgo (k : Nat) (a0 : Int) (a1z : Bool) (a1 : List (Int × Int × Int)) (a2z : Bool) (a2 : List Int) (a3z : Bool) (a3 : List Int) (a4z : Bool) (a4 : List Int) (b : Int) : go (k + 1) spec_l09Flux [(.agg [(.int .i64 (a0)), (.arr false (a1z) (.r3 (a1))), (.arr false (a2z) (.ints .i64 (a2))), (.arr false (a3z) (.ints .i64 (a3))), (.arr false (a4z) (.ints .i64 (a4)))]), (.int .i64 (b))] =
 (go k spec_l09Surface [(.agg [(.int .i64 (a0)), (.arr false (a1z) (.r3 (a1))), (.arr false (a2z) (.ints .i64 (a2))), (.arr false (a3z) (.ints .i64 (a3))), (.arr false (a4z) (.ints .i64 (a4)))]), (.int .i64 (b))]).bind fun r0 =>
 (go k spec_l09Surface [(.agg [(.int .i64 (a0)), (.arr false (a1z) (.r3 (a1))), (.arr false (a2z) (.ints .i64 (a2))), (.arr false (a3z) (.ints .i64 (a3))), (.arr false (a4z) (.ints .i64 (a4)))]), (.int .i64 (IntKind.wrap .i64 (b + (1 : Int))))]).bind fun r1 =>
 cond (decide ((0 : Int) ≤ b) && decide (b < nI (List.length a2)))
 (cond (decide ((0 : Int) ≤ IntKind.wrap .i64 (b + (1 : Int))) && decide (IntKind.wrap .i64 (b + (1 : Int)) < nI (List.length a2)))
 (cond (decide ((0 : Int) ≤ b) && decide (b < nI (List.length a1)))
 (cond (decide ((0 : Int) ≤ IntKind.wrap .i64 (b + (1 : Int))) && decide (IntKind.wrap .i64 (b + (1 : Int)) < nI (List.length a1)))
 ((go k spec_l09Pair [(.int .i64 (D.toInt (nth r0 0))), (.int .i64 (D.toInt (nth r1 0))), (.int .i64 (List.getD a2 (Int.toNat b) (0 : Int))), (.int .i64 (List.getD a2 (Int.toNat (IntKind.wrap .i64 (b + (1 : Int)))) (0 : Int))), (.int .i64 (Prod.fst (Prod.snd (List.getD a1 (Int.toNat b) zz3)))), (.int .i64 (Prod.fst (Prod.snd (List.getD a1 (Int.toNat (IntKind.wrap .i64 (b + (1 : Int)))) zz3))))]).bind fun r2 =>
 some [(.int .i64 (D.toInt (nth r2 0)))])
 (none))
 (none))
 (none))
 (none) := by kernel_rfl
theorem qga (k : Nat) (a b c d : Int) : go (k + 1) spec_LeafOut [(.int .i64 (a)), (.int .i64 (b)), (.int .i64 (c)), (.int .i64 (d))] =
 (go k spec_l01In [(.int .i64 (b)), (.int .i64 ((1 : Int))), (.int .i64 ((10000000 : Int)))]).bind fun r0 =>
 cond (!bit (nth r0 0))
 (some [(.int .i64 (0 : Int)), (.int .i64 (0 : Int))])
 ((go k spec_l01In [(.int .i64 (a)), (.int .i64 (0 : Int)), (.int .i64 (IntKind.wrap .i64 ((1000 : Int) * b)))]).bind fun r1 =>
 cond (!bit (nth r1 0))
 (some [(.int .i64 (0 : Int)), (.int .i64 (0 : Int))])
 ((go k spec_l01In [(.int .i64 (c)), (.int .i64 (0 : Int)), (.int .i64 (b))]).bind fun r2 =>
 cond (!bit (nth r2 0))
 (some [(.int .i64 (0 : Int)), (.int .i64 (0 : Int))])
 ((go k spec_l01In [(.int .i64 (d)), (.int .i64 (0 : Int)), (.int .i64 (IntKind.wrap .i64 (b - c)))]).bind fun r3 =>
 cond (!bit (nth r3 0))
 (some [(.int .i64 (0 : Int)), (.int .i64 (0 : Int))])
 ((go k spec_ShareOut [(.int .i64 (a)), (.int .i64 (c)), (.int .i64 (b))]).bind fun r4 =>
 (go k spec_ShareOut [(.int .i64 (a)), (.int .i64 (IntKind.wrap .i64 (c + d))), (.int .i64 (b))]).bind fun r5 =>
 some [(.int .i64 (D.toInt (nth r4 0))), (.int .i64 (IntKind.wrap .i64 (D.toInt (nth r5 0) - D.toInt (nth r4 0))))])))) := by kernel_rfl
theorem qgd (k : Nat) (a b c : Int) : go (k + 1) spec_ShareOut [(.int .i64 (a)), (.int .i64 (b)), (.int .i64 (c))] =
 (go k spec_l01In [(.int .i64 (c)), (.int .i64 ((1 : Int))), (.int .i64 ((10000000 : Int)))]).bind fun r0 =>
 cond (!bit (nth r0 0))
 (some [(.int .i64 (0 : Int))])
 ((go k spec_l01In [(.int .i64 (b)), (.int .i64 (0 : Int)), (.int .i64 (c))]).bind fun r1 =>
 cond (!bit (nth r1 0))
 (some [(.int .i64 (0 : Int))])
 ((go k spec_l01In [(.int .i64 (a)), (.int .i64 (0 : Int)), (.int .i64 (IntKind.wrap .i64 ((1000 : Int) * c)))]).bind fun r2 =>
 cond (!bit (nth r2 0))
 (some [(.int .i64 (0 : Int))])
 (cond (!decide (c = (0 : Int)))
 (some [(.int .i64 (IntKind.wrap .i64 (Int.tdiv (IntKind.wrap .i64 (a * b)) c)))])
 (none)))) := by kernel_rfl
theorem qf6 (k : Nat) (a b : Int) : go (k + 1) spec_DivTrunc [(.int .i64 (a)), (.int .i64 (b))] =
 cond (decide (b ≤ (0 : Int)))
 (some [(.int .i64 (0 : Int))])
 (cond (!decide (b = (0 : Int)))
 (some [(.int .i64 (IntKind.wrap .i64 (Int.tdiv a b)))])
 (none)) := by kernel_rfl
def qmj (x0 : Int) (z1 : Bool) (l2 : List (Int × Int × Int)) (z3 : Bool) (l4 : List Int) (z5 : Bool) (l6 : List Int) (z7 : Bool) (l8 : List Int) (x9 : Int) (z10 : Bool) (l11 : List (Int × Int × Int)) (z12 : Bool) (l13 : List Int) (z14 : Bool) (l15 : List Int) (z16 : Bool) (l17 : List Int) (x18 : Int) (z19 : Bool) (l20 : List (Int × Int × Int)) (z21 : Bool) (l22 : List Int) (z23 : Bool) (l24 : List Int) (z25 : Bool) (l26 : List Int) (x27 : Int) (z28 : Bool) (l29 : List Int) : St := ⟨fill 151 [(2, (.ptr 4 (0) (0))), (4, (.ptr 9 (0) (0))), (5, (.ptr 14 (0) (0))), (6, (.sl 15 none)), (8, (.int .i64 (x0)))], [], [(.arr false (z1) (.r3 (l2))), (.arr false (z3) (.ints .i64 (l4))), (.arr false (z5) (.ints .i64 (l6))), (.arr false (z7) (.ints .i64 (l8))), (.box true [(.int .i64 (x9)), (.sl 0 none), (.sl 1 none), (.sl 2 none), (.sl 3 none)]), (.arr true (z10) (.r3 (l11))), (.arr true (z12) (.ints .i64 (l13))), (.arr true (z14) (.ints .i64 (l15))), (.arr true (z16) (.ints .i64 (l17))), (.box true [(.int .i64 (x18)), (.sl 5 none), (.sl 6 none), (.sl 7 none), (.sl 8 none)]), (.arr true (z19) (.r3 (l20))), (.arr true (z21) (.ints .i64 (l22))), (.arr true (z23) (.ints .i64 (l24))), (.arr true (z25) (.ints .i64 (l26))), (.box true [(.int .i64 (x27)), (.sl 10 none), (.sl 11 none), (.sl 12 none), (.sl 13 none)]), (.arr true (z28) (.ints .i64 (l29)))]⟩
def qmk (x0 x1 : Int) (z2 : Bool) (l3 : List (Int × Int × Int)) (z4 : Bool) (l5 : List Int) (z6 : Bool) (l7 : List Int) (z8 : Bool) (l9 : List Int) (x10 : Int) (z11 : Bool) (l12 : List (Int × Int × Int)) (z13 : Bool) (l14 : List Int) (z15 : Bool) (l16 : List Int) (z17 : Bool) (l18 : List Int) (x19 : Int) (z20 : Bool) (l21 : List (Int × Int × Int)) (z22 : Bool) (l23 : List Int) (z24 : Bool) (l25 : List Int) (z26 : Bool) (l27 : List Int) (x28 : Int) (z29 : Bool) (l30 : List Int) : St := ⟨fill 151 [(1, (.int .i64 (x0))), (2, (.ptr 4 (0) (0))), (4, (.ptr 9 (0) (0))), (5, (.ptr 14 (0) (0))), (6, (.sl 15 none)), (7, (.int .i64 (x1)))], [], [(.arr false (z2) (.r3 (l3))), (.arr false (z4) (.ints .i64 (l5))), (.arr false (z6) (.ints .i64 (l7))), (.arr false (z8) (.ints .i64 (l9))), (.box true [(.int .i64 (x10)), (.sl 0 none), (.sl 1 none), (.sl 2 none), (.sl 3 none)]), (.arr true (z11) (.r3 (l12))), (.arr true (z13) (.ints .i64 (l14))), (.arr true (z15) (.ints .i64 (l16))), (.arr true (z17) (.ints .i64 (l18))), (.box true [(.int .i64 (x19)), (.sl 5 none), (.sl 6 none), (.sl 7 none), (.sl 8 none)]), (.arr true (z20) (.r3 (l21))), (.arr true (z22) (.ints .i64 (l23))), (.arr true (z24) (.ints .i64 (l25))), (.arr true (z26) (.ints .i64 (l27))), (.box true [(.int .i64 (x28)), (.sl 10 none), (.sl 11 none), (.sl 12 none), (.sl 13 none)]), (.arr true (z29) (.ints .i64 (l30)))]⟩
theorem qgr (k : Nat) (a0 : Int) (a1z : Bool) (a1 : List (Int × Int × Int)) (a2z : Bool) (a2 : List Int) (a3z : Bool) (a3 : List Int) (a4z : Bool) (a4 : List Int) (b : Int) : go (k + 1) spec_l11Step [(.agg [(.int .i64 (a0)), (.arr false (a1z) (.r3 (a1))), (.arr false (a2z) (.ints .i64 (a2))), (.arr false (a3z) (.ints .i64 (a3))), (.arr false (a4z) (.ints .i64 (a4)))]), (.int .i64 (b))] =
 (go k spec_l07Copy [(.agg [(.int .i64 (a0)), (.arr false (a1z) (.r3 (a1))), (.arr false (a2z) (.ints .i64 (a2))), (.arr false (a3z) (.ints .i64 (a3))), (.arr false (a4z) (.ints .i64 (a4)))])]).bind fun r0 =>
 cond (decide ((0 : Int) ≤ nI (List.length a2)) && decide (nI (List.length a2) ≤ nI (List.length a2)) && decide (nI (List.length a2) ≤ nI bigLen))
 (lp k spec_l11Step [] [] 4 k (qmk b (0 : Int) a1z a1 a2z a2 a3z a3 a4z a4 a0 true ([]) true ([]) true ([]) true ([]) (0 : Int) (D.nil (D.cell 1 (nth r0 0))) (D.r3 (D.cell 1 (nth r0 0))) (D.nil (D.cell 2 (nth r0 0))) (D.ints (D.cell 2 (nth r0 0))) (D.nil (D.cell 3 (nth r0 0))) (D.ints (D.cell 3 (nth r0 0))) (D.nil (D.cell 4 (nth r0 0))) (D.ints (D.cell 4 (nth r0 0))) (D.toInt (D.cell 0 (nth r0 0))) false (List.replicate (Int.toNat (nI (List.length a2))) (0 : Int))))
 (none) := by kernel_rfl
theorem qif (k n : Nat) (fu : List (Nat × Nat)) (x0 : Int) (z1 : Bool) (l2 : List (Int × Int × Int)) (z3 : Bool) (l4 : List Int) (z5 : Bool) (l6 : List Int) (z7 : Bool) (l8 : List Int) (x9 : Int) (z10 : Bool) (l11 : List (Int × Int × Int)) (z12 : Bool) (l13 : List Int) (z14 : Bool) (l15 : List Int) (z16 : Bool) (l17 : List Int) (x18 : Int) (z19 : Bool) (l20 : List (Int × Int × Int)) (z21 : Bool) (l22 : List Int) (z23 : Bool) (l24 : List Int) (z25 : Bool) (l26 : List Int) (x27 : Int) (z28 : Bool) (l29 : List Int) : lp k spec_l11Step [] fu 11 (n + 1) (qmj x0 z1 l2 z3 l4 z5 l6 z7 l8 x9 z10 l11 z12 l13 z14 l15 z16 l17 x18 z19 l20 z21 l22 z23 l24 z25 l26 x27 z28 l29) =
 cond (decide (x0 < nI (List.length l4)))
 (cond (decide ((0 : Int) ≤ x0) && decide (x0 < nI (List.length l29)))
 (cond (decide ((0 : Int) < x0))
 (cond (decide ((0 : Int) ≤ IntKind.wrap .i64 (x0 - (1 : Int))) && decide (IntKind.wrap .i64 (x0 - (1 : Int)) < nI (List.length l29)))
 (cond (decide ((0 : Int) ≤ x0) && decide (x0 < nI (List.length l6)))
 (cond (decide ((0 : Int) ≤ x0) && decide (x0 < nI (List.length l4)))
 ((go k spec_LeafOut [(.int .i64 (List.getD l6 (Int.toNat x0) (0 : Int))), (.int .i64 (List.getD l4 (Int.toNat x0) (0 : Int))), (.int .i64 (if (0 : Int) > List.getD l29 (Int.toNat x0) (0 : Int) then (0 : Int) else List.getD l29 (Int.toNat x0) (0 : Int))), (.int .i64 (if (0 : Int) > IntKind.wrap .i64 ((0 : Int) - List.getD l29 (Int.toNat (IntKind.wrap .i64 (x0 - (1 : Int)))) (0 : Int)) then (0 : Int) else IntKind.wrap .i64 ((0 : Int) - List.getD l29 (Int.toNat (IntKind.wrap .i64 (x0 - (1 : Int)))) (0 : Int))))]).bind fun r0 =>
 cond (decide ((0 : Int) ≤ x0) && decide (x0 < nI (List.length l24)))
 (cond (decide ((0 : Int) ≤ x0) && decide (x0 < nI (List.length l24)))
 (cond (decide ((0 : Int) < if (0 : Int) > List.getD l29 (Int.toNat x0) (0 : Int) then (0 : Int) else List.getD l29 (Int.toNat x0) (0 : Int)))
 (cond (decide ((0 : Int) ≤ IntKind.wrap .i64 (x0 + (1 : Int))) && decide (IntKind.wrap .i64 (x0 + (1 : Int)) < nI (List.length (List.set l24 (Int.toNat x0) (IntKind.wrap .i64 (IntKind.wrap .i64 (List.getD l24 (Int.toNat x0) (0 : Int) - D.toInt (nth r0 0)) - D.toInt (nth r0 1)))))))
 (cond (decide ((0 : Int) ≤ IntKind.wrap .i64 (x0 + (1 : Int))) && decide (IntKind.wrap .i64 (x0 + (1 : Int)) < nI (List.length (List.set l24 (Int.toNat x0) (IntKind.wrap .i64 (IntKind.wrap .i64 (List.getD l24 (Int.toNat x0) (0 : Int) - D.toInt (nth r0 0)) - D.toInt (nth r0 1)))))))
 (cond (decide ((0 : Int) < if (0 : Int) > IntKind.wrap .i64 ((0 : Int) - List.getD l29 (Int.toNat (IntKind.wrap .i64 (x0 - (1 : Int)))) (0 : Int)) then (0 : Int) else IntKind.wrap .i64 ((0 : Int) - List.getD l29 (Int.toNat (IntKind.wrap .i64 (x0 - (1 : Int)))) (0 : Int))))
 (cond (decide ((0 : Int) ≤ IntKind.wrap .i64 (x0 - (1 : Int))) && decide (IntKind.wrap .i64 (x0 - (1 : Int)) < nI (List.length (List.set (List.set l24 (Int.toNat x0) (IntKind.wrap .i64 (IntKind.wrap .i64 (List.getD l24 (Int.toNat x0) (0 : Int) - D.toInt (nth r0 0)) - D.toInt (nth r0 1)))) (Int.toNat (IntKind.wrap .i64 (x0 + (1 : Int)))) (IntKind.wrap .i64 (List.getD (List.set l24 (Int.toNat x0) (IntKind.wrap .i64 (IntKind.wrap .i64 (List.getD l24 (Int.toNat x0) (0 : Int) - D.toInt (nth r0 0)) - D.toInt (nth r0 1)))) (Int.toNat (IntKind.wrap .i64 (x0 + (1 : Int)))) (0 : Int) + D.toInt (nth r0 0)))))))
 (cond (decide ((0 : Int) ≤ IntKind.wrap .i64 (x0 - (1 : Int))) && decide (IntKind.wrap .i64 (x0 - (1 : Int)) < nI (List.length (List.set (List.set l24 (Int.toNat x0) (IntKind.wrap .i64 (IntKind.wrap .i64 (List.getD l24 (Int.toNat x0) (0 : Int) - D.toInt (nth r0 0)) - D.toInt (nth r0 1)))) (Int.toNat (IntKind.wrap .i64 (x0 + (1 : Int)))) (IntKind.wrap .i64 (List.getD (List.set l24 (Int.toNat x0) (IntKind.wrap .i64 (IntKind.wrap .i64 (List.getD l24 (Int.toNat x0) (0 : Int) - D.toInt (nth r0 0)) - D.toInt (nth r0 1)))) (Int.toNat (IntKind.wrap .i64 (x0 + (1 : Int)))) (0 : Int) + D.toInt (nth r0 0)))))))
 (lp k spec_l11Step [] fu 11 n (qmj (IntKind.wrap .i64 (x0 + (1 : Int))) z1 l2 z3 l4 z5 l6 z7 l8 x9 z10 l11 z12 l13 z14 l15 z16 l17 x18 z19 l20 z21 l22 z23 (List.set (List.set (List.set l24 (Int.toNat x0) (IntKind.wrap .i64 (IntKind.wrap .i64 (List.getD l24 (Int.toNat x0) (0 : Int) - D.toInt (nth r0 0)) - D.toInt (nth r0 1)))) (Int.toNat (IntKind.wrap .i64 (x0 + (1 : Int)))) (IntKind.wrap .i64 (List.getD (List.set l24 (Int.toNat x0) (IntKind.wrap .i64 (IntKind.wrap .i64 (List.getD l24 (Int.toNat x0) (0 : Int) - D.toInt (nth r0 0)) - D.toInt (nth r0 1)))) (Int.toNat (IntKind.wrap .i64 (x0 + (1 : Int)))) (0 : Int) + D.toInt (nth r0 0)))) (Int.toNat (IntKind.wrap .i64 (x0 - (1 : Int)))) (IntKind.wrap .i64 (List.getD (List.set (List.set l24 (Int.toNat x0) (IntKind.wrap .i64 (IntKind.wrap .i64 (List.getD l24 (Int.toNat x0) (0 : Int) - D.toInt (nth r0 0)) - D.toInt (nth r0 1)))) (Int.toNat (IntKind.wrap .i64 (x0 + (1 : Int)))) (IntKind.wrap .i64 (List.getD (List.set l24 (Int.toNat x0) (IntKind.wrap .i64 (IntKind.wrap .i64 (List.getD l24 (Int.toNat x0) (0 : Int) - D.toInt (nth r0 0)) - D.toInt (nth r0 1)))) (Int.toNat (IntKind.wrap .i64 (x0 + (1 : Int)))) (0 : Int) + D.toInt (nth r0 0)))) (Int.toNat (IntKind.wrap .i64 (x0 - (1 : Int)))) (0 : Int) + D.toInt (nth r0 1)))) z25 l26 x27 z28 l29))
 (none))
 (none))
 (lp k spec_l11Step [] fu 11 n (qmj (IntKind.wrap .i64 (x0 + (1 : Int))) z1 l2 z3 l4 z5 l6 z7 l8 x9 z10 l11 z12 l13 z14 l15 z16 l17 x18 z19 l20 z21 l22 z23 (List.set (List.set l24 (Int.toNat x0) (IntKind.wrap .i64 (IntKind.wrap .i64 (List.getD l24 (Int.toNat x0) (0 : Int) - D.toInt (nth r0 0)) - D.toInt (nth r0 1)))) (Int.toNat (IntKind.wrap .i64 (x0 + (1 : Int)))) (IntKind.wrap .i64 (List.getD (List.set l24 (Int.toNat x0) (IntKind.wrap .i64 (IntKind.wrap .i64 (List.getD l24 (Int.toNat x0) (0 : Int) - D.toInt (nth r0 0)) - D.toInt (nth r0 1)))) (Int.toNat (IntKind.wrap .i64 (x0 + (1 : Int)))) (0 : Int) + D.toInt (nth r0 0)))) z25 l26 x27 z28 l29)))
 (none))
 (none))
 (cond (decide ((0 : Int) < if (0 : Int) > IntKind.wrap .i64 ((0 : Int) - List.getD l29 (Int.toNat (IntKind.wrap .i64 (x0 - (1 : Int)))) (0 : Int)) then (0 : Int) else IntKind.wrap .i64 ((0 : Int) - List.getD l29 (Int.toNat (IntKind.wrap .i64 (x0 - (1 : Int)))) (0 : Int))))
 (cond (decide ((0 : Int) ≤ IntKind.wrap .i64 (x0 - (1 : Int))) && decide (IntKind.wrap .i64 (x0 - (1 : Int)) < nI (List.length (List.set l24 (Int.toNat x0) (IntKind.wrap .i64 (IntKind.wrap .i64 (List.getD l24 (Int.toNat x0) (0 : Int) - D.toInt (nth r0 0)) - D.toInt (nth r0 1)))))))
 (cond (decide ((0 : Int) ≤ IntKind.wrap .i64 (x0 - (1 : Int))) && decide (IntKind.wrap .i64 (x0 - (1 : Int)) < nI (List.length (List.set l24 (Int.toNat x0) (IntKind.wrap .i64 (IntKind.wrap .i64 (List.getD l24 (Int.toNat x0) (0 : Int) - D.toInt (nth r0 0)) - D.toInt (nth r0 1)))))))
 (lp k spec_l11Step [] fu 11 n (qmj (IntKind.wrap .i64 (x0 + (1 : Int))) z1 l2 z3 l4 z5 l6 z7 l8 x9 z10 l11 z12 l13 z14 l15 z16 l17 x18 z19 l20 z21 l22 z23 (List.set (List.set l24 (Int.toNat x0) (IntKind.wrap .i64 (IntKind.wrap .i64 (List.getD l24 (Int.toNat x0) (0 : Int) - D.toInt (nth r0 0)) - D.toInt (nth r0 1)))) (Int.toNat (IntKind.wrap .i64 (x0 - (1 : Int)))) (IntKind.wrap .i64 (List.getD (List.set l24 (Int.toNat x0) (IntKind.wrap .i64 (IntKind.wrap .i64 (List.getD l24 (Int.toNat x0) (0 : Int) - D.toInt (nth r0 0)) - D.toInt (nth r0 1)))) (Int.toNat (IntKind.wrap .i64 (x0 - (1 : Int)))) (0 : Int) + D.toInt (nth r0 1)))) z25 l26 x27 z28 l29))
 (none))
 (none))
 (lp k spec_l11Step [] fu 11 n (qmj (IntKind.wrap .i64 (x0 + (1 : Int))) z1 l2 z3 l4 z5 l6 z7 l8 x9 z10 l11 z12 l13 z14 l15 z16 l17 x18 z19 l20 z21 l22 z23 (List.set l24 (Int.toNat x0) (IntKind.wrap .i64 (IntKind.wrap .i64 (List.getD l24 (Int.toNat x0) (0 : Int) - D.toInt (nth r0 0)) - D.toInt (nth r0 1)))) z25 l26 x27 z28 l29))))
 (none))
 (none))
 (none))
 (none))
 (none))
 (cond (decide ((0 : Int) ≤ x0) && decide (x0 < nI (List.length l6)))
 (cond (decide ((0 : Int) ≤ x0) && decide (x0 < nI (List.length l4)))
 ((go k spec_LeafOut [(.int .i64 (List.getD l6 (Int.toNat x0) (0 : Int))), (.int .i64 (List.getD l4 (Int.toNat x0) (0 : Int))), (.int .i64 (if (0 : Int) > List.getD l29 (Int.toNat x0) (0 : Int) then (0 : Int) else List.getD l29 (Int.toNat x0) (0 : Int))), (.int .i64 (0 : Int))]).bind fun r1 =>
 cond (decide ((0 : Int) ≤ x0) && decide (x0 < nI (List.length l24)))
 (cond (decide ((0 : Int) ≤ x0) && decide (x0 < nI (List.length l24)))
 (cond (decide ((0 : Int) < if (0 : Int) > List.getD l29 (Int.toNat x0) (0 : Int) then (0 : Int) else List.getD l29 (Int.toNat x0) (0 : Int)))
 (cond (decide ((0 : Int) ≤ IntKind.wrap .i64 (x0 + (1 : Int))) && decide (IntKind.wrap .i64 (x0 + (1 : Int)) < nI (List.length (List.set l24 (Int.toNat x0) (IntKind.wrap .i64 (IntKind.wrap .i64 (List.getD l24 (Int.toNat x0) (0 : Int) - D.toInt (nth r1 0)) - D.toInt (nth r1 1)))))))
 (cond (decide ((0 : Int) ≤ IntKind.wrap .i64 (x0 + (1 : Int))) && decide (IntKind.wrap .i64 (x0 + (1 : Int)) < nI (List.length (List.set l24 (Int.toNat x0) (IntKind.wrap .i64 (IntKind.wrap .i64 (List.getD l24 (Int.toNat x0) (0 : Int) - D.toInt (nth r1 0)) - D.toInt (nth r1 1)))))))
 (lp k spec_l11Step [] fu 11 n (qmj (IntKind.wrap .i64 (x0 + (1 : Int))) z1 l2 z3 l4 z5 l6 z7 l8 x9 z10 l11 z12 l13 z14 l15 z16 l17 x18 z19 l20 z21 l22 z23 (List.set (List.set l24 (Int.toNat x0) (IntKind.wrap .i64 (IntKind.wrap .i64 (List.getD l24 (Int.toNat x0) (0 : Int) - D.toInt (nth r1 0)) - D.toInt (nth r1 1)))) (Int.toNat (IntKind.wrap .i64 (x0 + (1 : Int)))) (IntKind.wrap .i64 (List.getD (List.set l24 (Int.toNat x0) (IntKind.wrap .i64 (IntKind.wrap .i64 (List.getD l24 (Int.toNat x0) (0 : Int) - D.toInt (nth r1 0)) - D.toInt (nth r1 1)))) (Int.toNat (IntKind.wrap .i64 (x0 + (1 : Int)))) (0 : Int) + D.toInt (nth r1 0)))) z25 l26 x27 z28 l29))
 (none))
 (none))
 (lp k spec_l11Step [] fu 11 n (qmj (IntKind.wrap .i64 (x0 + (1 : Int))) z1 l2 z3 l4 z5 l6 z7 l8 x9 z10 l11 z12 l13 z14 l15 z16 l17 x18 z19 l20 z21 l22 z23 (List.set l24 (Int.toNat x0) (IntKind.wrap .i64 (IntKind.wrap .i64 (List.getD l24 (Int.toNat x0) (0 : Int) - D.toInt (nth r1 0)) - D.toInt (nth r1 1)))) z25 l26 x27 z28 l29)))
 (none))
 (none))
 (none))
 (none)))
 (none))
 (some [(.agg [(.int .i64 (x27)), (.arr true (z19) (.r3 (l20))), (.arr true (z21) (.ints .i64 (l22))), (.arr true (z23) (.ints .i64 (l24))), (.arr true (z25) (.ints .i64 (l26)))])]) := by kernel_rfl
theorem qig (k n : Nat) (fu : List (Nat × Nat)) (x0 x1 : Int) (z2 : Bool) (l3 : List (Int × Int × Int)) (z4 : Bool) (l5 : List Int) (z6 : Bool) (l7 : List Int) (z8 : Bool) (l9 : List Int) (x10 : Int) (z11 : Bool) (l12 : List (Int × Int × Int)) (z13 : Bool) (l14 : List Int) (z15 : Bool) (l16 : List Int) (z17 : Bool) (l18 : List Int) (x19 : Int) (z20 : Bool) (l21 : List (Int × Int × Int)) (z22 : Bool) (l23 : List Int) (z24 : Bool) (l25 : List Int) (z26 : Bool) (l27 : List Int) (x28 : Int) (z29 : Bool) (l30 : List Int) : lp k spec_l11Step [] fu 4 (n + 1) (qmk x0 x1 z2 l3 z4 l5 z6 l7 z8 l9 x10 z11 l12 z13 l14 z15 l16 z17 l18 x19 z20 l21 z22 l23 z24 l25 z26 l27 x28 z29 l30) =
 cond (decide (IntKind.wrap .i64 (x1 + (1 : Int)) < nI (List.length l5)))
 ((go k spec_l05Face [(.agg [(.int .i64 (x10)), (.arr false (z2) (.r3 (l3)))]), (.int .i64 (x1))]).bind fun r0 =>
 (go k spec_IsActive [(.int .i64 (x0)), (.int .i64 (D.toInt (nth r0 0)))]).bind fun r1 =>
 cond (!bit (nth r1 0))
 (lp k spec_l11Step [] fu 4 n (qmk x0 (IntKind.wrap .i64 (x1 + (1 : Int))) z2 l3 z4 l5 z6 l7 z8 l9 x10 z11 l12 z13 l14 z15 l16 z17 l18 x19 z20 l21 z22 l23 z24 l25 z26 l27 x28 z29 l30))
 ((go k spec_l09Flux [(.agg [(.int .i64 (x10)), (.arr false (z2) (.r3 (l3))), (.arr false (z4) (.ints .i64 (l5))), (.arr false (z6) (.ints .i64 (l7))), (.arr false (z8) (.ints .i64 (l9)))]), (.int .i64 (x1))]).bind fun r2 =>
 cond (decide ((0 : Int) ≤ x1) && decide (x1 < nI (List.length l30)))
 (cond (decide ((0 : Int) ≤ x1) && decide (x1 < nI (List.length l23)))
 (cond (decide ((0 : Int) ≤ x1) && decide (x1 < nI (List.length (List.set l30 (Int.toNat x1) (D.toInt (nth r2 0))))))
 (cond (decide ((0 : Int) ≤ x1) && decide (x1 < nI (List.length l23)))
 (cond (decide ((0 : Int) ≤ IntKind.wrap .i64 (x1 + (1 : Int))) && decide (IntKind.wrap .i64 (x1 + (1 : Int)) < nI (List.length (List.set l23 (Int.toNat x1) (IntKind.wrap .i64 (List.getD l23 (Int.toNat x1) (0 : Int) - List.getD (List.set l30 (Int.toNat x1) (D.toInt (nth r2 0))) (Int.toNat x1) (0 : Int)))))))
 (cond (decide ((0 : Int) ≤ x1) && decide (x1 < nI (List.length (List.set l30 (Int.toNat x1) (D.toInt (nth r2 0))))))
 (cond (decide ((0 : Int) ≤ IntKind.wrap .i64 (x1 + (1 : Int))) && decide (IntKind.wrap .i64 (x1 + (1 : Int)) < nI (List.length (List.set l23 (Int.toNat x1) (IntKind.wrap .i64 (List.getD l23 (Int.toNat x1) (0 : Int) - List.getD (List.set l30 (Int.toNat x1) (D.toInt (nth r2 0))) (Int.toNat x1) (0 : Int)))))))
 (lp k spec_l11Step [] fu 4 n (qmk x0 (IntKind.wrap .i64 (x1 + (1 : Int))) z2 l3 z4 l5 z6 l7 z8 l9 x10 z11 l12 z13 l14 z15 l16 z17 l18 x19 z20 l21 z22 (List.set (List.set l23 (Int.toNat x1) (IntKind.wrap .i64 (List.getD l23 (Int.toNat x1) (0 : Int) - List.getD (List.set l30 (Int.toNat x1) (D.toInt (nth r2 0))) (Int.toNat x1) (0 : Int)))) (Int.toNat (IntKind.wrap .i64 (x1 + (1 : Int)))) (IntKind.wrap .i64 (List.getD (List.set l23 (Int.toNat x1) (IntKind.wrap .i64 (List.getD l23 (Int.toNat x1) (0 : Int) - List.getD (List.set l30 (Int.toNat x1) (D.toInt (nth r2 0))) (Int.toNat x1) (0 : Int)))) (Int.toNat (IntKind.wrap .i64 (x1 + (1 : Int)))) (0 : Int) + List.getD (List.set l30 (Int.toNat x1) (D.toInt (nth r2 0))) (Int.toNat x1) (0 : Int)))) z24 l25 z26 l27 x28 z29 (List.set l30 (Int.toNat x1) (D.toInt (nth r2 0)))))
 (none))
 (none))
 (none))
 (none))
 (none))
 (none))
 (none)))
 (lp k spec_l11Step [] fu 11 k (qmj (0 : Int) z2 l3 z4 l5 z6 l7 z8 l9 x10 z11 l12 z13 l14 z15 l16 z17 l18 x19 z20 l21 z22 l23 z24 l25 z26 l27 x28 z29 l30)) := by kernel_rfl

end Go.Proofs.Ytcaapedadpnjoaa
end
section
namespace Go.Proofs.Ytcaapedadpnjoaa
open Go.Ev
def qhi (t lv : Int) : Bool := inR lv 0 4 && (decide (0 ≤ t) && decide (Int.tmod t (qn0 lv) = 0))
theorem qn4 {l : Int} (h : inR l 0 4 = true) : 0 < qn0 l := by
  rcases lev h with rfl | rfl | rfl | rfl | rfl <;> decide
theorem qn3 {l : Int} (h : inR l 0 4 = false) : qn0 l = 0 := by simp [qn0, h]
theorem qcr (k : Nat) (hk : 2000000 ≤ k) (a : Int) (b : Int) : go (k + 3) spec_IsActive [(.int .i64 (a)), (.int .i64 (b))] = some [.bool (qhi a b)] := by
  rw [qf8]
  simp (disch := omega) only [qaw, nth0, nth1, nth2, nth3, bit, qde, qdf, qdq, qdv, qdw, qdx, qdy, qdz, qd0, qd1, qdg, qdh, qdi, qdj, qdk, qdl, qdm, qdn, qdo, qdp, qdr, qds, qdt, qdu, qnn, qnm, qno, qko, qlb, qlc, qhh, qax, qm5, nI, qd7, qd5, Bool.not_true, Bool.not_false, Bool.and_true, Bool.true_and, Bool.and_false, Bool.false_and, Bool.or_true, Bool.true_or, Bool.or_false, Bool.false_or, beq_self_eq_true, dTT, dFF, dT, dF, bigI, big0, qkn, qn7, qn8, List.length_set, List.length_replicate, Int.toNat_natCast, qdc, qdd, imax, imin, qcz]
  unfold qhi
  cases h : inR b 0 4
  · rw [qn3 h]; cases decide ((0 : Int) ≤ a) <;> simp
  · have := qn4 h
    simp (disch := omega) only [qaw, nth0, nth1, nth2, nth3, bit, qde, qdf, qdq, qdv, qdw, qdx, qdy, qdz, qd0, qd1, qdg, qdh, qdi, qdj, qdk, qdl, qdm, qdn, qdo, qdp, qdr, qds, qdt, qdu, qnn, qnm, qno, qko, qlb, qlc, qhh, qax, qm5, nI, qd7, qd5, Bool.not_true, Bool.not_false, Bool.and_true, Bool.true_and, Bool.and_false, Bool.false_and, Bool.or_true, Bool.true_or, Bool.or_false, Bool.false_or, beq_self_eq_true, dTT, dFF, dT, dF, bigI, big0, qkn, qn7, qn8, List.length_set, List.length_replicate, Int.toNat_natCast, qdc, qdd, imax, imin, decide_not]
    cases decide ((0 : Int) ≤ a) <;> simp
theorem qa6 (k : Nat) (hk : 2000000 ≤ k) (a : Int) (b : Int) : go (k + 4) impl_IsActive [(.int .i64 (a)), (.int .i64 (b))] = some [.bool (qhi a b)] := by
  rw [qel]
  simp (disch := omega) only [qaw, nth0, nth1, nth2, nth3, bit, qde, qdf, qdq, qdv, qdw, qdx, qdy, qdz, qd0, qd1, qdg, qdh, qdi, qdj, qdk, qdl, qdm, qdn, qdo, qdp, qdr, qds, qdt, qdu, qnn, qnm, qno, qko, qlb, qlc, qhh, qax, qm5, nI, qd7, qd5, Bool.not_true, Bool.not_false, Bool.and_true, Bool.true_and, Bool.and_false, Bool.false_and, Bool.or_true, Bool.true_or, Bool.or_false, Bool.false_or, beq_self_eq_true, dTT, dFF, dT, dF, bigI, big0, qkn, qn7, qn8, List.length_set, List.length_replicate, Int.toNat_natCast, qdc, qdd, imax, imin, qbf, qbq]
  unfold qhi
  cases h : inR b 0 4
  · simp
  · have := qn4 h
    simp (disch := omega) only [qaw, nth0, nth1, nth2, nth3, bit, qde, qdf, qdq, qdv, qdw, qdx, qdy, qdz, qd0, qd1, qdg, qdh, qdi, qdj, qdk, qdl, qdm, qdn, qdo, qdp, qdr, qds, qdt, qdu, qnn, qnm, qno, qko, qlb, qlc, qhh, qax, qm5, nI, qd7, qd5, Bool.not_true, Bool.not_false, Bool.and_true, Bool.true_and, Bool.and_false, Bool.false_and, Bool.or_true, Bool.true_or, Bool.or_false, Bool.false_or, beq_self_eq_true, dTT, dFF, dT, dF, bigI, big0, qkn, qn7, qn8, List.length_set, List.length_replicate, Int.toNat_natCast, qdc, qdd, imax, imin]
    cases decide ((0 : Int) ≤ a) <;> simp
def qgx (l : List Cell) (i : Nat) : Int := max (qij l (i + 1)) (qij l i)
theorem qc3 (k : Nat) (hk : 2000000 ≤ k) (a0 : Int) (a1z : Bool) (a1 : List Cell) (i : Nat) (hi : i + 1 < a1.length) (hl : (a1.length : Int) ≤ 1048576) : go (k + 1) spec_l05Face [.agg [.int .i64 a0, .arr false a1z (.r3 a1)], .int .i64 (i : Int)] = some [.int .i64 (qgx a1 i)] := by
  rw [qgk]
  simp (disch := omega) only [qaw, nth0, nth1, nth2, nth3, bit, qde, qdf, qdq, qdv, qdw, qdx, qdy, qdz, qd0, qd1, qdg, qdh, qdi, qdj, qdk, qdl, qdm, qdn, qdo, qdp, qdr, qds, qdt, qdu, qnn, qnm, qno, qko, qlb, qlc, qhh, qax, qm5, nI, qd7, qd5, Bool.not_true, Bool.not_false, Bool.and_true, Bool.true_and, Bool.and_false, Bool.false_and, Bool.or_true, Bool.true_or, Bool.or_false, Bool.false_or, beq_self_eq_true, dTT, dFF, dT, dF, bigI, big0, qkn, qn7, qn8, List.length_set, List.length_replicate, Int.toNat_natCast, qdc, qdd, imax, imin]
  rfl
theorem qbl (k : Nat) (hk : 2000000 ≤ k) (a0 : Int) (a1z : Bool) (a1 : List Cell) (i : Nat) (hi : i + 1 < a1.length) (hl : (a1.length : Int) ≤ 1048576) : go (k + 1) impl_Mesh_faceLevel [.agg [.int .i64 a0, .arr false a1z (.r3 a1)], .int .i64 (i : Int)] = some [.int .i64 (qgx a1 i)] := by
  rw [qeq]
  simp (disch := omega) only [qaw, nth0, nth1, nth2, nth3, bit, qde, qdf, qdq, qdv, qdw, qdx, qdy, qdz, qd0, qd1, qdg, qdh, qdi, qdj, qdk, qdl, qdm, qdn, qdo, qdp, qdr, qds, qdt, qdu, qnn, qnm, qno, qko, qlb, qlc, qhh, qax, qm5, nI, qd7, qd5, Bool.not_true, Bool.not_false, Bool.and_true, Bool.true_and, Bool.and_false, Bool.false_and, Bool.or_true, Bool.true_or, Bool.or_false, Bool.false_or, beq_self_eq_true, dTT, dFF, dT, dF, bigI, big0, qkn, qn7, qn8, List.length_set, List.length_replicate, Int.toNat_natCast, qdc, qdd, imax, imin]
  rfl
def qal (t : Int) (l : List Cell) (i : Nat) : Bool := decide (i + 1 < l.length) && qhi t (qgx l i)
end Go.Proofs.Ytcaapedadpnjoaa
end
section
namespace Go.Proofs.Ytcaapedadpnjoaa
open Go.Ev
def tab (L : Nat) (g : Nat → Int) : List Int := (List.range L).map g
theorem qm9 (L : Nat) (g : Nat → Int) : (tab L g).length = L := by simp [tab]
theorem qm8 {L : Nat} {g : Nat → Int} {i : Nat} (h : i < L) : (tab L g).getD i 0 = g i := by simp [tab, h]
theorem qm7 {L : Nat} {g g' : Nat → Int} (h : ∀ j, j < L → g j = g' j) : tab L g = tab L g' := by
  unfold tab
  exact List.map_congr_left fun j hj => h j (by simpa using hj)
theorem qnb {L : Nat} {g : Nat → Int} (i : Nat) (v : Int) : (tab L g).set i v = tab L (fun j => if j = i then v else g j) := by
  apply List.ext_getElem
  · simp [tab]
  · intro j h1 h2
    simp only [tab, List.getElem_set, List.getElem_map, List.getElem_range]
    by_cases h : i = j
    · simp [h]
    · rw [if_neg h, if_neg (fun e => h e.symm)]
theorem qna (l : List Int) : l = tab l.length (fun j => l.getD j 0) := by
  apply List.ext_getElem
  · simp [tab]
  · intro j h1 h2
    simp [tab, h1]
theorem qnc (L : Nat) : List.replicate L (0 : Int) = tab L (fun _ => 0) := by
  apply List.ext_getElem
  · simp [tab]
  · intro j h1 h2; simp [tab]
theorem qnf {x y B : Int} (hy : 0 < y) (h : -B ≤ x) (h' : x ≤ B) : -B ≤ Int.tdiv x y ∧ Int.tdiv x y ≤ B := by
  by_cases hx : 0 ≤ x
  · rw [Int.tdiv_eq_ediv_of_nonneg hx]
    have h1 := Int.ediv_nonneg hx (by omega : 0 ≤ y)
    have h2 := Int.ediv_le_self y hx
    omega
  · obtain ⟨z, rfl⟩ : ∃ z, x = -z := ⟨-x, by omega⟩
    rw [Int.neg_tdiv, Int.tdiv_eq_ediv_of_nonneg (by omega : 0 ≤ z)]
    have h1 := Int.ediv_nonneg (by omega : 0 ≤ z) (by omega : 0 ≤ y)
    have h2 := Int.ediv_le_self y (by omega : 0 ≤ z)
    omega
theorem qki {x w A : Int} (hx : -A ≤ x) (hx' : x ≤ A) (hw : 0 ≤ w) (hw' : w ≤ 16) : -(16 * A) ≤ x * w ∧ x * w ≤ 16 * A := by
  have hA : 0 ≤ A := by omega
  have h1 : x * w ≤ A * w := Int.mul_le_mul_of_nonneg_right hx' hw
  have h2 : A * w ≤ A * 16 := Int.mul_le_mul_of_nonneg_left hw' hA
  have h3 : (-A) * w ≤ x * w := Int.mul_le_mul_of_nonneg_right hx hw
  have h4 : (-A) * w = -(A * w) := Int.neg_mul A w
  omega
def qmw (t p m : Int) : Int := cond (inR m 1 10000000 && (inR p 0 m && inR t 0 (1000 * m))) (Int.tdiv (t * p) m) 0
theorem qmy {t p m : Int} (hm : inR m 1 10000000 = true) (hp : inR p 0 m = true) (ht : inR t 0 (1000 * m) = true) : 0 ≤ t * p ∧ t * p ≤ 100000000000000000 := by
  rw [qhf] at *
  refine ⟨Int.mul_nonneg (by omega) (by omega), ?_⟩
  calc t * p ≤ 10000000000 * p := Int.mul_le_mul_of_nonneg_right (by omega) (by omega)
    _ ≤ 10000000000 * 10000000 := Int.mul_le_mul_of_nonneg_left (by omega) (by omega)
theorem qmx (t p m : Int) : 0 ≤ qmw t p m ∧ qmw t p m ≤ 100000000000000000 := by
  unfold qmw
  cases hm : inR m 1 10000000
  · simp
  cases hp : inR p 0 m
  · simp
  cases ht : inR t 0 (1000 * m)
  · simp
  have := qmy hm hp ht
  have hm' := qhf.1 hm
  simp only [Bool.and_self, qd7]
  rw [Int.tdiv_eq_ediv_of_nonneg this.1]
  exact ⟨Int.ediv_nonneg this.1 (by omega), Int.le_trans (Int.ediv_le_self m this.1) this.2⟩
def loOk (t m r l : Int) : Bool := inR m 1 10000000 && (inR t 0 (1000 * m) && (inR r 0 m && inR l 0 (m - r)))
def loA (t m r l : Int) : Int := cond (loOk t m r l) (qmw t r m) 0
def loB (t m r l : Int) : Int := cond (loOk t m r l) (qmw t (r + l) m - qmw t r m) 0
def quo (sa sb la lb : Int) : Int := Int.tdiv ((sa - sb) * qn0 (max lb la)) (32 * (qn0 la + qn0 lb))
def qk4 (sa sb ma mb la lb : Int) : Int := max (0 - mb / 4) (min (ma / 4) (quo sa sb la lb))
def fl (l : List Cell) (m b : List Int) (i : Nat) : Int := qk4 (surf l m b i) (surf l m b (i + 1)) (m.getD i 0) (m.getD (i + 1) 0) (qij l i) (qij l (i + 1))
def ff (t : Int) (l : List Cell) (m b : List Int) (i : Nat) : Int := cond (qal t l i) (fl l m b i) 0
theorem qgy {t : Int} {l : List Cell} {m b : List Int} {i : Nat} (h : l.length ≤ i + 1) : ff t l m b i = 0 := by
  unfold ff qal
  rw [dF (p := i + 1 < l.length) (by omega)]; rfl
theorem qg2 {r : Int} {l : List Cell} {m t b : List Int} (F : StF r l m t b) (i : Nat) : 0 - m.getD (i + 1) 0 / 4 ≤ fl l m b i ∧ fl l m b i ≤ m.getD i 0 / 4 := by
  have h1 := F.at i; have h2 := F.at (i + 1)
  unfold fl qk4
  omega
theorem qgz {r : Int} {l : List Cell} {m t b : List Int} (F : StF r l m t b) (tk : Int) (i : Nat) : 0 - m.getD (i + 1) 0 / 4 ≤ ff tk l m b i ∧ ff tk l m b i ≤ m.getD i 0 / 4 := by
  have h1 := F.at i; have h2 := F.at (i + 1); have h3 := qg2 F i
  unfold ff
  cases qal tk l i
  · simp only [qd5]; omega
  · simp only [qd7]; omega
def rgt (tk : Int) (l : List Cell) (m b : List Int) (i : Nat) : Int := max 0 (ff tk l m b i)
def lft (tk : Int) (l : List Cell) (m b : List Int) (i : Nat) : Int := if 1 ≤ i then max 0 (0 - ff tk l m b (i - 1)) else 0
def outA (tk : Int) (l : List Cell) (m t b : List Int) (i : Nat) : Int := loA (t.getD i 0) (m.getD i 0) (rgt tk l m b i) (lft tk l m b i)
def outB (tk : Int) (l : List Cell) (m t b : List Int) (i : Nat) : Int := loB (t.getD i 0) (m.getD i 0) (rgt tk l m b i) (lft tk l m b i)
def stM (tk : Int) (l : List Cell) (m b : List Int) (j : Nat) : Int := m.getD j 0 - ff tk l m b j + (if 1 ≤ j then ff tk l m b (j - 1) else 0)
def stT (tk : Int) (l : List Cell) (m t b : List Int) (j : Nat) : Int := t.getD j 0 - outA tk l m t b j - outB tk l m t b j + (if 1 ≤ j then outA tk l m t b (j - 1) else 0) + outB tk l m t b (j + 1)
theorem qin (t m l : Int) : loA t m 0 l = 0 := by
  unfold loA qmw
  cases loOk t m 0 l
  · rfl
  · simp
theorem qio (t m r : Int) : loB t m r 0 = 0 := by
  unfold loB
  cases loOk t m r 0
  · rfl
  · simp
theorem qkv {tk : Int} {l : List Cell} {m t b : List Int} {i : Nat} (h : rgt tk l m b i = 0) : outA tk l m t b i = 0 := by unfold outA; rw [h, qin]
theorem qkx {tk : Int} {l : List Cell} {m t b : List Int} {i : Nat} (h : lft tk l m b i = 0) : outB tk l m t b i = 0 := by unfold outB; rw [h, qio]
theorem qku (tk : Int) (l : List Cell) (m t b : List Int) (i : Nat) : 0 ≤ outA tk l m t b i ∧ outA tk l m t b i ≤ 100000000000000000 := by
  unfold outA loA
  cases loOk (t.getD i 0) (m.getD i 0) (rgt tk l m b i) (lft tk l m b i)
  · simp
  · exact qmx _ _ _
theorem qkw (tk : Int) (l : List Cell) (m t b : List Int) (i : Nat) : -100000000000000000 ≤ outB tk l m t b i ∧ outB tk l m t b i ≤ 100000000000000000 := by
  unfold outB loB
  cases loOk (t.getD i 0) (m.getD i 0) (rgt tk l m b i) (lft tk l m b i)
  · simp
  · have h1 := qmx (t.getD i 0) (rgt tk l m b i) (m.getD i 0)
    have h2 := qmx (t.getD i 0) (rgt tk l m b i + lft tk l m b i) (m.getD i 0)
    simp only [qd7]; omega
def Tk (tk : Int) (l : List Cell) (m t b : List Int) (k j : Nat) : Int := t.getD j 0 - (if j < k then outA tk l m t b j + outB tk l m t b j else 0) + (if 1 ≤ j ∧ j ≤ k then outA tk l m t b (j - 1) else 0) + (if j + 1 < k then outB tk l m t b (j + 1) else 0)
def upd (G : Nat → Int) (i : Nat) (A B : Int) (j : Nat) : Int := if 1 ≤ i ∧ j = i - 1 then G j + B else if j = i + 1 then G j + A else if j = i then G j - A - B else G j
theorem qny {G : Nat → Int} {i : Nat} {A B : Int} (g : 1 ≤ i) : (fun j => if j = i - 1 then G (i - 1) + B else if j = i + 1 then G (i + 1) + A else if j = i then G i - A - B else G j) = upd G i A B := by
  funext j
  unfold upd
  by_cases q1 : j = i - 1
  · rw [if_pos q1, if_pos ⟨g, q1⟩, q1]
  · rw [if_neg q1, if_neg (show ¬ (1 ≤ i ∧ j = i - 1) from fun hh => q1 hh.2)]
    by_cases q2 : j = i + 1
    · rw [if_pos q2, if_pos q2, q2]
    · rw [if_neg q2, if_neg q2]
      by_cases q3 : j = i
      · rw [if_pos q3, if_pos q3, q3]
      · rw [if_neg q3, if_neg q3]
theorem qnx {G : Nat → Int} {i : Nat} {A B : Int} (hB : B = 0) : (fun j => if j = i + 1 then G (i + 1) + A else if j = i then G i - A - B else G j) = upd G i A B := by
  funext j
  unfold upd
  by_cases q1 : 1 ≤ i ∧ j = i - 1
  · rw [if_pos q1, if_neg (by omega), if_neg (by omega), hB]; omega
  · rw [if_neg q1]
    by_cases q2 : j = i + 1
    · rw [if_pos q2, if_pos q2, q2]
    · rw [if_neg q2, if_neg q2]
      by_cases q3 : j = i
      · rw [if_pos q3, if_pos q3, q3]
      · rw [if_neg q3, if_neg q3]
theorem qnw {G : Nat → Int} {i : Nat} {A B : Int} (g : 1 ≤ i) (hA : A = 0) : (fun j => if j = i - 1 then G (i - 1) + B else if j = i then G i - A - B else G j) = upd G i A B := by
  funext j
  unfold upd
  by_cases q1 : j = i - 1
  · rw [if_pos q1, if_pos ⟨g, q1⟩, q1]
  · rw [if_neg q1, if_neg (show ¬ (1 ≤ i ∧ j = i - 1) from fun hh => q1 hh.2)]
    by_cases q2 : j = i + 1
    · rw [if_pos q2, if_neg (by omega), hA]; omega
    · rw [if_neg q2]
      by_cases q3 : j = i
      · rw [if_pos q3, if_pos q3, q3]
      · rw [if_neg q3, if_neg q3]
theorem qnv {G : Nat → Int} {i : Nat} {A B : Int} (hA : A = 0) (hB : B = 0) : (fun j => if j = i then G i - A - B else G j) = upd G i A B := by
  funext j
  unfold upd
  by_cases q1 : 1 ≤ i ∧ j = i - 1
  · rw [if_pos q1, if_neg (by omega), hB]; omega
  · rw [if_neg q1]
    by_cases q2 : j = i + 1
    · rw [if_pos q2, if_neg (by omega), hA]; omega
    · rw [if_neg q2]
      by_cases q3 : j = i
      · rw [if_pos q3, if_pos q3, q3]
      · rw [if_neg q3, if_neg q3]
theorem qaj (tk : Int) (l : List Cell) (m t b : List Int) (i : Nat) (hi : i < l.length) :
    tab l.length (upd (Tk tk l m t b i) i (outA tk l m t b i) (outB tk l m t b i)) = tab l.length (Tk tk l m t b (i + 1)) := qm7 fun j hj => by
  unfold upd
  by_cases g1 : 1 ≤ i ∧ j = i - 1
  · obtain ⟨g1, rfl⟩ := g1
    rw [if_pos ⟨g1, rfl⟩]
    unfold Tk
    rw [if_pos (show i - 1 < i by omega), if_neg (show ¬ (i - 1 + 1 < i) by omega), if_pos (show i - 1 < i + 1 by omega), if_pos (show i - 1 + 1 < i + 1 by omega), show i - 1 + 1 = i by omega]
    have e2 : (1 ≤ i - 1 ∧ i - 1 ≤ i) = (1 ≤ i - 1 ∧ i - 1 ≤ i + 1) := by rw [eq_iff_iff]; omega
    simp only [e2]; omega
  · rw [if_neg g1]
    by_cases g2 : j = i + 1
    · subst g2
      rw [if_pos rfl]
      unfold Tk
      rw [if_neg (show ¬ (i + 1 < i) by omega), if_neg (show ¬ (1 ≤ i + 1 ∧ i + 1 ≤ i) by omega), if_neg (show ¬ (i + 1 + 1 < i) by omega), if_neg (show ¬ (i + 1 < i + 1) by omega), if_pos (show 1 ≤ i + 1 ∧ i + 1 ≤ i + 1 by omega), if_neg (show ¬ (i + 1 + 1 < i + 1) by omega), Nat.add_sub_cancel]; omega
    · rw [if_neg g2]
      by_cases g3 : j = i
      · subst g3
        rw [if_pos rfl]
        unfold Tk
        rw [if_neg (show ¬ (j < j) by omega), if_neg (show ¬ (j + 1 < j) by omega), if_pos (show j < j + 1 by omega), if_neg (show ¬ (j + 1 < j + 1) by omega)]
        have e2 : (1 ≤ j ∧ j ≤ j) = (1 ≤ j ∧ j ≤ j + 1) := by rw [eq_iff_iff]; omega
        simp only [e2]; omega
      · rw [if_neg g3]
        unfold Tk
        have e1 : (j < i) = (j < i + 1) := by rw [eq_iff_iff]; omega
        have e2 : (1 ≤ j ∧ j ≤ i) = (1 ≤ j ∧ j ≤ i + 1) := by rw [eq_iff_iff]; omega
        have e3 : (j + 1 < i) = (j + 1 < i + 1) := by rw [eq_iff_iff]; omega
        simp only [e1, e2, e3]
theorem qai (tk : Int) (l : List Cell) (m t b : List Int) (hm : m.length = l.length) : tab l.length (Tk tk l m t b l.length) = tab l.length (stT tk l m t b) := qm7 fun j hj => by
  unfold Tk stT
  rw [if_pos hj]
  have e2 : (1 ≤ j ∧ j ≤ l.length) = (1 ≤ j) := by rw [eq_iff_iff]; omega
  simp only [e2]
  by_cases g : j + 1 < l.length
  · rw [if_pos g]; omega
  · rw [if_neg g]
    have : outB tk l m t b (j + 1) = 0 := by
      apply qkx
      unfold lft
      rw [if_pos (by omega), Nat.add_sub_cancel, qgy (by omega)]; rfl
    omega
theorem qak (tk : Int) (l : List Cell) (m t b : List Int) (ht : t.length = l.length) : t = tab l.length (Tk tk l m t b 0) := by
  have h := qna t
  rw [ht] at h
  refine h.trans (qm7 fun j hj => ?_)
  unfold Tk
  rw [if_neg (by omega), if_neg (by omega), if_neg (by omega)]; omega
end Go.Proofs.Ytcaapedadpnjoaa
end
section
namespace Go.Proofs.Ytcaapedadpnjoaa
open Go.Ev
theorem qcw (k : Nat) (hk : 2000000 ≤ k) (a : Int) (b : Int) (c : Int) : go (k + 2) spec_ShareOut [(.int .i64 (a)), (.int .i64 (b)), (.int .i64 (c))] = some [.int .i64 (qmw a b c)] := by
  rw [qgd]
  unfold qmw
  cases hm : inR c 1 10000000
  · simp (disch := omega) only [qaw, nth0, nth1, nth2, nth3, bit, qde, qdf, qdq, qdv, qdw, qdx, qdy, qdz, qd0, qd1, qdg, qdh, qdi, qdj, qdk, qdl, qdm, qdn, qdo, qdp, qdr, qds, qdt, qdu, qnn, qnm, qno, qko, qlb, qlc, qhh, qax, qm5, nI, qd7, qd5, Bool.not_true, Bool.not_false, Bool.and_true, Bool.true_and, Bool.and_false, Bool.false_and, Bool.or_true, Bool.true_or, Bool.or_false, Bool.false_or, beq_self_eq_true, dTT, dFF, dT, dF, bigI, big0, qkn, qn7, qn8, List.length_set, List.length_replicate, Int.toNat_natCast, qdc, qdd, imax, imin, qc0, hm]
  cases hp : inR b 0 c
  · simp (disch := omega) only [qaw, nth0, nth1, nth2, nth3, bit, qde, qdf, qdq, qdv, qdw, qdx, qdy, qdz, qd0, qd1, qdg, qdh, qdi, qdj, qdk, qdl, qdm, qdn, qdo, qdp, qdr, qds, qdt, qdu, qnn, qnm, qno, qko, qlb, qlc, qhh, qax, qm5, nI, qd7, qd5, Bool.not_true, Bool.not_false, Bool.and_true, Bool.true_and, Bool.and_false, Bool.false_and, Bool.or_true, Bool.true_or, Bool.or_false, Bool.false_or, beq_self_eq_true, dTT, dFF, dT, dF, bigI, big0, qkn, qn7, qn8, List.length_set, List.length_replicate, Int.toNat_natCast, qdc, qdd, imax, imin, qc0, hm, hp]
  have hm' := qhf.1 hm
  cases ht : inR a 0 (1000 * c)
  · simp (disch := omega) only [qaw, nth0, nth1, nth2, nth3, bit, qde, qdf, qdq, qdv, qdw, qdx, qdy, qdz, qd0, qd1, qdg, qdh, qdi, qdj, qdk, qdl, qdm, qdn, qdo, qdp, qdr, qds, qdt, qdu, qnn, qnm, qno, qko, qlb, qlc, qhh, qax, qm5, nI, qd7, qd5, Bool.not_true, Bool.not_false, Bool.and_true, Bool.true_and, Bool.and_false, Bool.false_and, Bool.or_true, Bool.true_or, Bool.or_false, Bool.false_or, beq_self_eq_true, dTT, dFF, dT, dF, bigI, big0, qkn, qn7, qn8, List.length_set, List.length_replicate, Int.toNat_natCast, qdc, qdd, imax, imin, qc0, hm, hp, ht]
  have q := qmy hm hp ht
  have q2 : 0 ≤ Int.tdiv (a * b) c ∧ Int.tdiv (a * b) c ≤ 100000000000000000 := by
    have := qnf (x := a * b) (y := c) (B := 100000000000000000) (by omega) (by omega) (by omega)
    rw [Int.tdiv_eq_ediv_of_nonneg q.1] at *
    exact ⟨Int.ediv_nonneg q.1 (by omega), this.2⟩
  simp (disch := omega) only [qaw, nth0, nth1, nth2, nth3, bit, qde, qdf, qdq, qdv, qdw, qdx, qdy, qdz, qd0, qd1, qdg, qdh, qdi, qdj, qdk, qdl, qdm, qdn, qdo, qdp, qdr, qds, qdt, qdu, qnn, qnm, qno, qko, qlb, qlc, qhh, qax, qm5, nI, qd7, qd5, Bool.not_true, Bool.not_false, Bool.and_true, Bool.true_and, Bool.and_false, Bool.false_and, Bool.or_true, Bool.true_or, Bool.or_false, Bool.false_or, beq_self_eq_true, dTT, dFF, dT, dF, bigI, big0, qkn, qn7, qn8, List.length_set, List.length_replicate, Int.toNat_natCast, qdc, qdd, imax, imin, qc0, hm, hp, ht]
theorem qct (k : Nat) (hk : 2000000 ≤ k) (a : Int) (b : Int) (c : Int) (d : Int) : go (k + 3) spec_LeafOut [(.int .i64 (a)), (.int .i64 (b)), (.int .i64 (c)), (.int .i64 (d))] = some [.int .i64 (loA a b c d), .int .i64 (loB a b c d)] := by
  rw [qga]
  unfold loA loB loOk
  cases hm : inR b 1 10000000
  · simp (disch := omega) only [qaw, nth0, nth1, nth2, nth3, bit, qde, qdf, qdq, qdv, qdw, qdx, qdy, qdz, qd0, qd1, qdg, qdh, qdi, qdj, qdk, qdl, qdm, qdn, qdo, qdp, qdr, qds, qdt, qdu, qnn, qnm, qno, qko, qlb, qlc, qhh, qax, qm5, nI, qd7, qd5, Bool.not_true, Bool.not_false, Bool.and_true, Bool.true_and, Bool.and_false, Bool.false_and, Bool.or_true, Bool.true_or, Bool.or_false, Bool.false_or, beq_self_eq_true, dTT, dFF, dT, dF, bigI, big0, qkn, qn7, qn8, List.length_set, List.length_replicate, Int.toNat_natCast, qdc, qdd, imax, imin, qc0, hm]
  have hm' := qhf.1 hm
  cases ht : inR a 0 (1000 * b)
  · simp (disch := omega) only [qaw, nth0, nth1, nth2, nth3, bit, qde, qdf, qdq, qdv, qdw, qdx, qdy, qdz, qd0, qd1, qdg, qdh, qdi, qdj, qdk, qdl, qdm, qdn, qdo, qdp, qdr, qds, qdt, qdu, qnn, qnm, qno, qko, qlb, qlc, qhh, qax, qm5, nI, qd7, qd5, Bool.not_true, Bool.not_false, Bool.and_true, Bool.true_and, Bool.and_false, Bool.false_and, Bool.or_true, Bool.true_or, Bool.or_false, Bool.false_or, beq_self_eq_true, dTT, dFF, dT, dF, bigI, big0, qkn, qn7, qn8, List.length_set, List.length_replicate, Int.toNat_natCast, qdc, qdd, imax, imin, qc0, hm, ht]
  cases hr : inR c 0 b
  · simp (disch := omega) only [qaw, nth0, nth1, nth2, nth3, bit, qde, qdf, qdq, qdv, qdw, qdx, qdy, qdz, qd0, qd1, qdg, qdh, qdi, qdj, qdk, qdl, qdm, qdn, qdo, qdp, qdr, qds, qdt, qdu, qnn, qnm, qno, qko, qlb, qlc, qhh, qax, qm5, nI, qd7, qd5, Bool.not_true, Bool.not_false, Bool.and_true, Bool.true_and, Bool.and_false, Bool.false_and, Bool.or_true, Bool.true_or, Bool.or_false, Bool.false_or, beq_self_eq_true, dTT, dFF, dT, dF, bigI, big0, qkn, qn7, qn8, List.length_set, List.length_replicate, Int.toNat_natCast, qdc, qdd, imax, imin, qc0, hm, ht, hr]
  have hr' := qhf.1 hr
  cases hl : inR d 0 (b - c)
  · simp (disch := omega) only [qaw, nth0, nth1, nth2, nth3, bit, qde, qdf, qdq, qdv, qdw, qdx, qdy, qdz, qd0, qd1, qdg, qdh, qdi, qdj, qdk, qdl, qdm, qdn, qdo, qdp, qdr, qds, qdt, qdu, qnn, qnm, qno, qko, qlb, qlc, qhh, qax, qm5, nI, qd7, qd5, Bool.not_true, Bool.not_false, Bool.and_true, Bool.true_and, Bool.and_false, Bool.false_and, Bool.or_true, Bool.true_or, Bool.or_false, Bool.false_or, beq_self_eq_true, dTT, dFF, dT, dF, bigI, big0, qkn, qn7, qn8, List.length_set, List.length_replicate, Int.toNat_natCast, qdc, qdd, imax, imin, qc0, hm, ht, hr, hl]
  have hl' := qhf.1 hl
  have s1 := qmx a c b; have s2 := qmx a (c + d) b
  simp (disch := omega) only [qaw, nth0, nth1, nth2, nth3, bit, qde, qdf, qdq, qdv, qdw, qdx, qdy, qdz, qd0, qd1, qdg, qdh, qdi, qdj, qdk, qdl, qdm, qdn, qdo, qdp, qdr, qds, qdt, qdu, qnn, qnm, qno, qko, qlb, qlc, qhh, qax, qm5, nI, qd7, qd5, Bool.not_true, Bool.not_false, Bool.and_true, Bool.true_and, Bool.and_false, Bool.false_and, Bool.or_true, Bool.true_or, Bool.or_false, Bool.false_or, beq_self_eq_true, dTT, dFF, dT, dF, bigI, big0, qkn, qn7, qn8, List.length_set, List.length_replicate, Int.toNat_natCast, qdc, qdd, imax, imin, qc0, hm, ht, hr, hl, qcw]
theorem qcp (k : Nat) (hk : 2000000 ≤ k) (a b : Int) (hb : 0 < b) (ha : -1000000000000 ≤ a) (ha' : a ≤ 1000000000000) : go (k + 1) spec_DivTrunc [.int .i64 a, .int .i64 b] = some [.int .i64 (Int.tdiv a b)] := by
  rw [qf6]
  have := qnf hb ha ha'
  simp (disch := omega) only [qaw, nth0, nth1, nth2, nth3, bit, qde, qdf, qdq, qdv, qdw, qdx, qdy, qdz, qd0, qd1, qdg, qdh, qdi, qdj, qdk, qdl, qdm, qdn, qdo, qdp, qdr, qds, qdt, qdu, qnn, qnm, qno, qko, qlb, qlc, qhh, qax, qm5, nI, qd7, qd5, Bool.not_true, Bool.not_false, Bool.and_true, Bool.true_and, Bool.and_false, Bool.false_and, Bool.or_true, Bool.true_or, Bool.or_false, Bool.false_or, beq_self_eq_true, dTT, dFF, dT, dF, bigI, big0, qkn, qn7, qn8, List.length_set, List.length_replicate, Int.toNat_natCast, qdc, qdd, imax, imin]
theorem qc8 (k : Nat) (hk : 2000000 ≤ k) (a : Int) (b : Int) (c : Int) (d : Int) (e : Int) (f : Int) (ha : 0 ≤ a ∧ a ≤ 161000000) (hb : 0 ≤ b ∧ b ≤ 161000000) (hc : 0 ≤ c ∧ c ≤ 10000000) (hd : 0 ≤ d ∧ d ≤ 10000000) (he : inR e 0 4 = true) (hf : inR f 0 4 = true) : go (k + 3) spec_l09Pair [(.int .i64 (a)), (.int .i64 (b)), (.int .i64 (c)), (.int .i64 (d)), (.int .i64 (e)), (.int .i64 (f))] = some [.int .i64 (qk4 a b c d e f)] := by
  rw [qgp]
  have w1 := qn1 he; have w2 := qn1 hf; have w3 := qn2 (max f e)
  have p := qki (x := a - b) (w := qn0 (max f e)) (A := 161000000) (by omega) (by omega) w3.1 w3.2
  have t := qnf (x := (a - b) * qn0 (max f e)) (y := 32 * (qn0 e + qn0 f)) (B := 2576000000) (by omega) (by omega) (by omega)
  have t1 : Int.tdiv c 4 = c / 4 := Int.tdiv_eq_ediv_of_nonneg (by omega)
  have t2 : Int.tdiv d 4 = d / 4 := Int.tdiv_eq_ediv_of_nonneg (by omega)
  simp (disch := omega) only [qaw, nth0, nth1, nth2, nth3, bit, qde, qdf, qdq, qdv, qdw, qdx, qdy, qdz, qd0, qd1, qdg, qdh, qdi, qdj, qdk, qdl, qdm, qdn, qdo, qdp, qdr, qds, qdt, qdu, qnn, qnm, qno, qko, qlb, qlc, qhh, qax, qm5, nI, qd7, qd5, Bool.not_true, Bool.not_false, Bool.and_true, Bool.true_and, Bool.and_false, Bool.false_and, Bool.or_true, Bool.true_or, Bool.or_false, Bool.false_or, beq_self_eq_true, dTT, dFF, dT, dF, bigI, big0, qkn, qn7, qn8, List.length_set, List.length_replicate, Int.toNat_natCast, qdc, qdd, imax, imin, qcz, qcp, t1, t2]
  rfl
theorem qc7 (k : Nat) (hk : 2000000 ≤ k) (r : Int) (z1 z2 z3 z4 : Bool) (l : List Cell) (m t b : List Int) (F : StF r l m t b) (i : Nat) (hi : i + 1 < l.length) :
    go (k + 4) spec_l09Flux [.agg [.int .i64 r, .arr false z1 (.r3 l), .arr false z2 (.ints .i64 m), .arr false z3 (.ints .i64 t), .arr false z4 (.ints .i64 b)], .int .i64 (i : Int)] = some [.int .i64 (fl l m b i)] := by
  rw [qgo]
  have hl := F.len; have hm := F.ml
  have h1 := F.at i; have h2 := F.at (i + 1); have s1 := qm6 F i; have s2 := qm6 F (i + 1)
  have v1 := F.lev i; have v2 := F.lev (i + 1)
  have e1 := qc9 (k + 3 - 1) (by omega) r z1 z2 z3 z4 l m t b F i (by omega)
  have e2 := qc9 (k + 3 - 1) (by omega) r z1 z2 z3 z4 l m t b F (i + 1) hi
  rw [show k + 3 - 1 + 1 = k + 3 by omega] at e1 e2
  have e3 := qc8 (k + 3 - 3) (by omega) (surf l m b i) (surf l m b (i + 1)) (m.getD i 0) (m.getD (i + 1) 0) (l.getD i zz3).2.1 (l.getD (i + 1) zz3).2.1 s1 s2 ⟨h1.1, h1.2.1⟩ ⟨h2.1, h2.2.1⟩ v1 v2
  rw [show k + 3 - 3 + 3 = k + 3 by omega] at e3
  simp (disch := omega) only [qaw, nth0, nth1, nth2, nth3, bit, qde, qdf, qdq, qdv, qdw, qdx, qdy, qdz, qd0, qd1, qdg, qdh, qdi, qdj, qdk, qdl, qdm, qdn, qdo, qdp, qdr, qds, qdt, qdu, qnn, qnm, qno, qko, qlb, qlc, qhh, qax, qm5, nI, qd7, qd5, Bool.not_true, Bool.not_false, Bool.and_true, Bool.true_and, Bool.and_false, Bool.false_and, Bool.or_true, Bool.true_or, Bool.or_false, Bool.false_or, beq_self_eq_true, dTT, dFF, dT, dF, bigI, big0, qkn, qn7, qn8, List.length_set, List.length_replicate, Int.toNat_natCast, qdc, qdd, imax, imin, e1, e2, e3]
  rfl
def Fk (tk : Int) (l : List Cell) (m b : List Int) (k j : Nat) : Int := if j < k then ff tk l m b j else 0
def Mk (tk : Int) (l : List Cell) (m b : List Int) (k j : Nat) : Int := m.getD j 0 - (if j < k then ff tk l m b j else 0) + (if 1 ≤ j ∧ j ≤ k then ff tk l m b (j - 1) else 0)
theorem qjj (k : Nat) (hk : 2000000 ≤ k) (fu : List (Nat × Nat)) (r tk : Int) (z1 z2 z3 z4 y1 y2 y3 y4 x1 x2 x3 x4 : Bool) (c1 : List Cell) (c2 c3 c4 : List Int) (c0 : Int) (l : List Cell) (m t b tr bd : List Int) (ld : List Cell) (r' : Int) (F : StF r l m t b) : ∀ (n i : Nat), i < l.length → l.length - i < n →
    lp (k + 4) spec_l11Step [] fu 4 (n) (qmk tk (i : Int) z1 l z2 m z3 t z4 b r y1 c1 y2 c2 y3 c3 y4 c4 c0 x1 ld x2 (tab l.length (Mk tk l m b i)) x3 tr x4 bd r' false (tab l.length (Fk tk l m b i))) = lp (k + 4) spec_l11Step [] fu 11 (k + 4) (qmj 0 z1 l z2 m z3 t z4 b r y1 c1 y2 c2 y3 c3 y4 c4 c0 x1 ld x2 (tab l.length (stM tk l m b)) x3 tr x4 bd r' false (tab l.length (ff tk l m b)))
  | 0, i, hi, hn => by omega
  | n + 1, i, hi, hn => by
    have hl := F.len; have hm := F.ml
    rw [qig]
    by_cases h : i + 1 < l.length
    · have IH := qjj k hk fu r tk z1 z2 z3 z4 y1 y2 y3 y4 x1 x2 x3 x4 c1 c2 c3 c4 c0 l m t b tr bd ld r' F n (i + 1) h (by omega)
      have b0 := qg2 F i; have b1 := qgz F tk (i - 1); have a0 := F.at i; have a1 := F.at (i + 1); have a2 := F.at (i - 1)
      have eF := qc7 (k + 4 - 4) (by omega) r z1 z2 z3 z4 l m t b F i h
      rw [show k + 4 - 4 + 4 = k + 4 by omega] at eF
      cases ha : qhi tk (qgx l i)
      · have hz : ff tk l m b i = 0 := by unfold ff qal; rw [ha]; simp
        simp (disch := omega) only [qaw, nth0, nth1, nth2, nth3, bit, qde, qdf, qdq, qdv, qdw, qdx, qdy, qdz, qd0, qd1, qdg, qdh, qdi, qdj, qdk, qdl, qdm, qdn, qdo, qdp, qdr, qds, qdt, qdu, qnn, qnm, qno, qko, qlb, qlc, qhh, qax, qm5, nI, qd7, qd5, Bool.not_true, Bool.not_false, Bool.and_true, Bool.true_and, Bool.and_false, Bool.false_and, Bool.or_true, Bool.true_or, Bool.or_false, Bool.false_or, beq_self_eq_true, dTT, dFF, dT, dF, bigI, big0, qkn, qn7, qn8, List.length_set, List.length_replicate, Int.toNat_natCast, qdc, qdd, imax, imin, qc3, qcr, ha]
        rw [← IH]
        have q1 : tab l.length (Mk tk l m b i) = tab l.length (Mk tk l m b (i + 1)) := qm7 fun j hj => by
          unfold Mk
          by_cases g1 : j = i
          · subst g1
            by_cases g2 : 1 ≤ j
            · simp (disch := omega) only [itT, itF, if_pos, if_neg, hz]
            · simp (disch := omega) only [itT, itF, if_pos, if_neg, hz]
          · by_cases g2 : j = i + 1
            · subst g2; simp (disch := omega) only [itT, itF, if_pos, if_neg, Nat.add_sub_cancel, hz]
            · have e1 : (j < i) = (j < i + 1) := by rw [eq_iff_iff]; omega
              have e2 : (1 ≤ j ∧ j ≤ i) = (1 ≤ j ∧ j ≤ i + 1) := by rw [eq_iff_iff]; omega
              simp only [e1, e2]
        have q2 : tab l.length (Fk tk l m b i) = tab l.length (Fk tk l m b (i + 1)) := qm7 fun j hj => by
          unfold Fk
          by_cases g1 : j = i
          · subst g1; rw [if_neg (by omega), if_pos (by omega), hz]
          · have e1 : (j < i) = (j < i + 1) := by rw [eq_iff_iff]; omega
            simp only [e1]
        rw [q1, q2]
      · have hz : ff tk l m b i = fl l m b i := by unfold ff qal; rw [ha, dT h]; rfl
        have v1 : Mk tk l m b i i = m.getD i 0 + (if 1 ≤ i then ff tk l m b (i - 1) else 0) := by
          unfold Mk; rw [if_neg (by omega)]
          by_cases g2 : 1 ≤ i
          · rw [if_pos (by omega), if_pos g2]; omega
          · rw [if_neg (by omega), if_neg g2]; omega
        have v2 : Mk tk l m b i (i + 1) = m.getD (i + 1) 0 := by
          unfold Mk; rw [if_neg (by omega), if_neg (by omega)]; omega
        have bb : -5000000 ≤ (if 1 ≤ i then ff tk l m b (i - 1) else 0) ∧ (if 1 ≤ i then ff tk l m b (i - 1) else 0) ≤ 5000000 := by
          by_cases g2 : 1 ≤ i
          · rw [if_pos g2]; rw [show i - 1 + 1 = i by omega] at b1; omega
          · rw [if_neg g2]; omega
        have w1 : -20000000 ≤ Mk tk l m b i i ∧ Mk tk l m b i i ≤ 20000000 := by rw [v1]; omega
        have w2 : -20000000 ≤ Mk tk l m b i (i + 1) ∧ Mk tk l m b i (i + 1) ≤ 20000000 := by rw [v2]; omega
        simp (disch := omega) only [qaw, nth0, nth1, nth2, nth3, bit, qde, qdf, qdq, qdv, qdw, qdx, qdy, qdz, qd0, qd1, qdg, qdh, qdi, qdj, qdk, qdl, qdm, qdn, qdo, qdp, qdr, qds, qdt, qdu, qnn, qnm, qno, qko, qlb, qlc, qhh, qax, qm5, nI, qd7, qd5, Bool.not_true, Bool.not_false, Bool.and_true, Bool.true_and, Bool.and_false, Bool.false_and, Bool.or_true, Bool.true_or, Bool.or_false, Bool.false_or, beq_self_eq_true, dTT, dFF, dT, dF, bigI, big0, qkn, qn7, qn8, List.length_set, List.length_replicate, Int.toNat_natCast, qdc, qdd, imax, imin, qc3, qcr, ha, eF, qm9, qnb, qm8, itT, itF, if_pos, if_neg]
        rw [v1, v2]
        rw [← IH]
        have q1 : tab l.length (fun j => if j = i + 1 then m.getD (i + 1) 0 + fl l m b i else if j = i then m.getD i 0 + (if 1 ≤ i then ff tk l m b (i - 1) else 0) - fl l m b i else Mk tk l m b i j) = tab l.length (Mk tk l m b (i + 1)) := qm7 fun j hj => by
          by_cases g2 : j = i + 1
          · subst g2; unfold Mk; simp (disch := omega) only [itT, itF, if_pos, if_neg, Nat.add_sub_cancel, hz]; omega
          · by_cases g1 : j = i
            · subst g1; unfold Mk
              by_cases g3 : 1 ≤ j
              · simp (disch := omega) only [itT, itF, if_pos, if_neg, hz]; omega
              · simp (disch := omega) only [itT, itF, if_pos, if_neg, hz]; omega
            · rw [if_neg g2, if_neg g1]
              have e1 : (j < i) = (j < i + 1) := by rw [eq_iff_iff]; omega
              have e2 : (1 ≤ j ∧ j ≤ i) = (1 ≤ j ∧ j ≤ i + 1) := by rw [eq_iff_iff]; omega
              unfold Mk
              simp only [e1, e2]
        have q2 : tab l.length (fun j => if j = i then fl l m b i else Fk tk l m b i j) = tab l.length (Fk tk l m b (i + 1)) := qm7 fun j hj => by
          by_cases g1 : j = i
          · subst g1; unfold Fk; rw [if_pos rfl, if_pos (by omega), hz]
          · rw [if_neg g1]
            have e1 : (j < i) = (j < i + 1) := by rw [eq_iff_iff]; omega
            unfold Fk
            simp only [e1]
        rw [q1, q2]
    · simp (disch := omega) only [qaw, nth0, nth1, nth2, nth3, bit, qde, qdf, qdq, qdv, qdw, qdx, qdy, qdz, qd0, qd1, qdg, qdh, qdi, qdj, qdk, qdl, qdm, qdn, qdo, qdp, qdr, qds, qdt, qdu, qnn, qnm, qno, qko, qlb, qlc, qhh, qax, qm5, nI, qd7, qd5, Bool.not_true, Bool.not_false, Bool.and_true, Bool.true_and, Bool.and_false, Bool.false_and, Bool.or_true, Bool.true_or, Bool.or_false, Bool.false_or, beq_self_eq_true, dTT, dFF, dT, dF, bigI, big0, qkn, qn7, qn8, List.length_set, List.length_replicate, Int.toNat_natCast, qdc, qdd, imax, imin]
      have q1 : tab l.length (Mk tk l m b i) = tab l.length (stM tk l m b) := qm7 fun j hj => by
        unfold Mk stM
        by_cases g1 : j = i
        · subst g1; rw [if_neg (by omega), qgy (i := j) (show l.length ≤ j + 1 by omega)]
          by_cases g3 : 1 ≤ j
          · rw [if_pos g3, if_pos (by omega)]
          · rw [if_neg g3, if_neg (by omega)]
        · rw [if_pos (by omega)]
          by_cases g3 : 1 ≤ j
          · rw [if_pos g3, if_pos (by omega)]
          · rw [if_neg g3, if_neg (by omega)]
      have q2 : tab l.length (Fk tk l m b i) = tab l.length (ff tk l m b) := qm7 fun j hj => by
        unfold Fk
        by_cases g1 : j = i
        · subst g1; rw [if_neg (by omega), qgy (i := j) (show l.length ≤ j + 1 by omega)]
        · rw [if_pos (by omega)]
      rw [q1, q2]
set_option maxHeartbeats 2000000 in
theorem qji (k : Nat) (hk : 2000000 ≤ k) (fu : List (Nat × Nat)) (r tk : Int) (z1 z2 z3 z4 y1 y2 y3 y4 : Bool) (c1 : List Cell) (c2 c3 c4 : List Int) (c0 : Int) (l : List Cell) (m t b mm bd : List Int) (ld : List Cell) (r' : Int) (F : StF r l m t b) : ∀ (n i : Nat), i ≤ l.length → l.length - i < n →
    lp (k + 4) spec_l11Step [] fu 11 (n) (qmj (i : Int) z1 l z2 m z3 t z4 b r y1 c1 y2 c2 y3 c3 y4 c4 c0 false ld false mm false (tab l.length (Tk tk l m t b i)) false bd r' false (tab l.length (ff tk l m b))) = some [.agg [.int .i64 r', .arr true false (.r3 ld), .arr true false (.ints .i64 mm), .arr true false (.ints .i64 (tab l.length (stT tk l m t b))), .arr true false (.ints .i64 bd)]]
  | 0, i, hi, hn => by omega
  | n + 1, i, hi, hn => by
    have hl := F.len; have hm := F.ml; have ht := F.tl
    rw [qif]
    by_cases h : i < l.length
    · have IH := qji k hk fu r tk z1 z2 z3 z4 y1 y2 y3 y4 c1 c2 c3 c4 c0 l m t b mm bd ld r' F n (i + 1) (by omega) (by omega)
      rw [← qaj tk l m t b i h] at IH
      have f1 := qgz F tk i; have f2 := qgz F tk (i - 1); have a0 := F.at i; have a1 := F.at (i + 1); have a2 := F.at (i - 1)
      have A := qku tk l m t b i; have B := qkw tk l m t b i
      have A' := qku tk l m t b (i - 1); have B' := qkw tk l m t b (i - 1); have A'' := qku tk l m t b (i - 1 - 1)
      have v1 : Tk tk l m t b i i = t.getD i 0 + (if 1 ≤ i then outA tk l m t b (i - 1) else 0) := by
        unfold Tk; rw [if_neg (by omega), if_neg (show ¬ (i + 1 < i) by omega)]
        by_cases g2 : 1 ≤ i
        · rw [if_pos (by omega), if_pos g2]; omega
        · rw [if_neg (by omega), if_neg g2]; omega
      have w1 : 0 ≤ Tk tk l m t b i i ∧ Tk tk l m t b i i ≤ 200000000000000000 := by
        rw [v1]
        by_cases g2 : 1 ≤ i
        · rw [if_pos g2]; omega
        · rw [if_neg g2]; omega
      have w2 : 0 ≤ Tk tk l m t b i (i + 1) ∧ Tk tk l m t b i (i + 1) ≤ 200000000000000000 := by
        unfold Tk; rw [if_neg (by omega), if_neg (by omega), if_neg (by omega)]; omega
      have hA : loA (t.getD i 0) (m.getD i 0) (max 0 (ff tk l m b i)) (lft tk l m b i) = outA tk l m t b i := rfl
      have hB : loB (t.getD i 0) (m.getD i 0) (max 0 (ff tk l m b i)) (lft tk l m b i) = outB tk l m t b i := rfl
      have hi1 : 0 < ff tk l m b i → i + 1 < l.length := fun g4 => by
        rcases Nat.lt_or_ge (i + 1) l.length with q | q
        · exact q
        · rw [qgy q] at g4; omega
      have zA : ¬ 0 < ff tk l m b i → outA tk l m t b i = 0 := fun g4 => qkv (by unfold rgt; omega)
      by_cases g1 : 1 ≤ i
      · have hL : max 0 (0 - ff tk l m b (i - 1)) = lft tk l m b i := by unfold lft; rw [if_pos g1]
        have hL0 : 0 ≤ lft tk l m b i := by rw [← hL]; omega
        rw [show i - 1 + 1 = i by omega] at f2
        have w3 : -300000000000000000 ≤ Tk tk l m t b i (i - 1) ∧ Tk tk l m t b i (i - 1) ≤ 300000000000000000 := by
          unfold Tk; rw [if_pos (by omega), if_neg (show ¬ (i - 1 + 1 < i) by omega)]
          by_cases g3 : 1 ≤ i - 1
          · rw [if_pos (show 1 ≤ i - 1 ∧ i - 1 ≤ i by omega)]; omega
          · rw [if_neg (show ¬ (1 ≤ i - 1 ∧ i - 1 ≤ i) by omega)]; omega
        by_cases g4 : 0 < ff tk l m b i
        · have := hi1 g4
          by_cases g5 : 0 < lft tk l m b i
          · rw [← qny g1] at IH
            simp (disch := omega) only [qaw, nth0, nth1, nth2, nth3, bit, qde, qdf, qdq, qdv, qdw, qdx, qdy, qdz, qd0, qd1, qdg, qdh, qdi, qdj, qdk, qdl, qdm, qdn, qdo, qdp, qdr, qds, qdt, qdu, qnn, qnm, qno, qko, qlb, qlc, qhh, qax, qm5, nI, qd7, qd5, Bool.not_true, Bool.not_false, Bool.and_true, Bool.true_and, Bool.and_false, Bool.false_and, Bool.or_true, Bool.true_or, Bool.or_false, Bool.false_or, beq_self_eq_true, dTT, dFF, dT, dF, bigI, big0, qkn, qn7, qn8, List.length_set, List.length_replicate, Int.toNat_natCast, qdc, qdd, imax, imin, qdb, qm9, qm8, qnb, hL, qct, hA, hB, itT, niF]
            exact IH
          · rw [← qnx (qkx (by omega))] at IH
            simp (disch := omega) only [qaw, nth0, nth1, nth2, nth3, bit, qde, qdf, qdq, qdv, qdw, qdx, qdy, qdz, qd0, qd1, qdg, qdh, qdi, qdj, qdk, qdl, qdm, qdn, qdo, qdp, qdr, qds, qdt, qdu, qnn, qnm, qno, qko, qlb, qlc, qhh, qax, qm5, nI, qd7, qd5, Bool.not_true, Bool.not_false, Bool.and_true, Bool.true_and, Bool.and_false, Bool.false_and, Bool.or_true, Bool.true_or, Bool.or_false, Bool.false_or, beq_self_eq_true, dTT, dFF, dT, dF, bigI, big0, qkn, qn7, qn8, List.length_set, List.length_replicate, Int.toNat_natCast, qdc, qdd, imax, imin, qdb, qm9, qm8, qnb, hL, qct, hA, hB, itT, niF]
            exact IH
        · by_cases g5 : 0 < lft tk l m b i
          · rw [← qnw g1 (zA g4)] at IH
            simp (disch := omega) only [qaw, nth0, nth1, nth2, nth3, bit, qde, qdf, qdq, qdv, qdw, qdx, qdy, qdz, qd0, qd1, qdg, qdh, qdi, qdj, qdk, qdl, qdm, qdn, qdo, qdp, qdr, qds, qdt, qdu, qnn, qnm, qno, qko, qlb, qlc, qhh, qax, qm5, nI, qd7, qd5, Bool.not_true, Bool.not_false, Bool.and_true, Bool.true_and, Bool.and_false, Bool.false_and, Bool.or_true, Bool.true_or, Bool.or_false, Bool.false_or, beq_self_eq_true, dTT, dFF, dT, dF, bigI, big0, qkn, qn7, qn8, List.length_set, List.length_replicate, Int.toNat_natCast, qdc, qdd, imax, imin, qdb, qm9, qm8, qnb, hL, qct, hA, hB, itT, niF]
            exact IH
          · rw [← qnv (zA g4) (qkx (by omega))] at IH
            simp (disch := omega) only [qaw, nth0, nth1, nth2, nth3, bit, qde, qdf, qdq, qdv, qdw, qdx, qdy, qdz, qd0, qd1, qdg, qdh, qdi, qdj, qdk, qdl, qdm, qdn, qdo, qdp, qdr, qds, qdt, qdu, qnn, qnm, qno, qko, qlb, qlc, qhh, qax, qm5, nI, qd7, qd5, Bool.not_true, Bool.not_false, Bool.and_true, Bool.true_and, Bool.and_false, Bool.false_and, Bool.or_true, Bool.true_or, Bool.or_false, Bool.false_or, beq_self_eq_true, dTT, dFF, dT, dF, bigI, big0, qkn, qn7, qn8, List.length_set, List.length_replicate, Int.toNat_natCast, qdc, qdd, imax, imin, qdb, qm9, qm8, qnb, hL, qct, hA, hB, itT, niF]
            exact IH
      · have hL : (0 : Int) = lft tk l m b i := by unfold lft; rw [if_neg g1]
        have zB : outB tk l m t b i = 0 := qkx hL.symm
        have hA' : loA (t.getD i 0) (m.getD i 0) (max 0 (ff tk l m b i)) 0 = outA tk l m t b i := by unfold outA rgt; rw [← hL]
        have hB' : loB (t.getD i 0) (m.getD i 0) (max 0 (ff tk l m b i)) 0 = outB tk l m t b i := by unfold outB rgt; rw [← hL]
        by_cases g4 : 0 < ff tk l m b i
        · have := hi1 g4
          rw [← qnx zB] at IH
          simp (disch := omega) only [qaw, nth0, nth1, nth2, nth3, bit, qde, qdf, qdq, qdv, qdw, qdx, qdy, qdz, qd0, qd1, qdg, qdh, qdi, qdj, qdk, qdl, qdm, qdn, qdo, qdp, qdr, qds, qdt, qdu, qnn, qnm, qno, qko, qlb, qlc, qhh, qax, qm5, nI, qd7, qd5, Bool.not_true, Bool.not_false, Bool.and_true, Bool.true_and, Bool.and_false, Bool.false_and, Bool.or_true, Bool.true_or, Bool.or_false, Bool.false_or, beq_self_eq_true, dTT, dFF, dT, dF, bigI, big0, qkn, qn7, qn8, List.length_set, List.length_replicate, Int.toNat_natCast, qdc, qdd, imax, imin, qdb, qm9, qm8, qnb, hA', hB', qct, hA, hB, itT, niF]
          exact IH
        · rw [← qnv (zA g4) zB] at IH
          simp (disch := omega) only [qaw, nth0, nth1, nth2, nth3, bit, qde, qdf, qdq, qdv, qdw, qdx, qdy, qdz, qd0, qd1, qdg, qdh, qdi, qdj, qdk, qdl, qdm, qdn, qdo, qdp, qdr, qds, qdt, qdu, qnn, qnm, qno, qko, qlb, qlc, qhh, qax, qm5, nI, qd7, qd5, Bool.not_true, Bool.not_false, Bool.and_true, Bool.true_and, Bool.and_false, Bool.false_and, Bool.or_true, Bool.true_or, Bool.or_false, Bool.false_or, beq_self_eq_true, dTT, dFF, dT, dF, bigI, big0, qkn, qn7, qn8, List.length_set, List.length_replicate, Int.toNat_natCast, qdc, qdd, imax, imin, qdb, qm9, qm8, qnb, hA', hB', qct, hA, hB, itT, niF]
          exact IH
    · simp (disch := omega) only [qaw, nth0, nth1, nth2, nth3, bit, qde, qdf, qdq, qdv, qdw, qdx, qdy, qdz, qd0, qd1, qdg, qdh, qdi, qdj, qdk, qdl, qdm, qdn, qdo, qdp, qdr, qds, qdt, qdu, qnn, qnm, qno, qko, qlb, qlc, qhh, qax, qm5, nI, qd7, qd5, Bool.not_true, Bool.not_false, Bool.and_true, Bool.true_and, Bool.and_false, Bool.false_and, Bool.or_true, Bool.true_or, Bool.or_false, Bool.false_or, beq_self_eq_true, dTT, dFF, dT, dF, bigI, big0, qkn, qn7, qn8, List.length_set, List.length_replicate, Int.toNat_natCast, qdc, qdd, imax, imin]
      rw [show i = l.length by omega, qai tk l m t b hm]
theorem qae (tk : Int) (l : List Cell) (m b : List Int) (hm : m.length = l.length) : m = tab l.length (Mk tk l m b 0) := by
  have h := qna m
  rw [hm] at h
  refine h.trans (qm7 fun j hj => ?_)
  unfold Mk
  rw [if_neg (by omega), if_neg (by omega)]; omega
theorem qaa (tk : Int) (l : List Cell) (m b : List Int) : List.replicate l.length (0 : Int) = tab l.length (Fk tk l m b 0) := by
  rw [qnc]
  refine qm7 fun j hj => ?_
  unfold Fk
  rw [if_neg (by omega)]
theorem qda (k : Nat) (hk : 2000000 ≤ k) (r : Int) (z1 z2 z3 z4 : Bool) (l : List Cell) (m t b : List Int) (F : StF r l m t b) (tk : Int) :
    go (k + 5) spec_l11Step [.agg [.int .i64 r, .arr false z1 (.r3 l), .arr false z2 (.ints .i64 m), .arr false z3 (.ints .i64 t), .arr false z4 (.ints .i64 b)], .int .i64 tk] = some [.agg [.int .i64 r, .arr true false (.r3 l), .arr true false (.ints .i64 (tab l.length (stM tk l m b))), .arr true false (.ints .i64 (tab l.length (stT tk l m t b))), .arr true false (.ints .i64 b)]] := by
  rw [qgr]
  have hl := F.len; have hm := F.ml; have ht := F.tl; have hb := F.bl; have hr := F.rr
  simp (disch := omega) only [qaw, nth0, nth1, nth2, nth3, bit, qde, qdf, qdq, qdv, qdw, qdx, qdy, qdz, qd0, qd1, qdg, qdh, qdi, qdj, qdk, qdl, qdm, qdn, qdo, qdp, qdr, qds, qdt, qdu, qnn, qnm, qno, qko, qlb, qlc, qhh, qax, qm5, nI, qd7, qd5, Bool.not_true, Bool.not_false, Bool.and_true, Bool.true_and, Bool.and_false, Bool.false_and, Bool.or_true, Bool.true_or, Bool.or_false, Bool.false_or, beq_self_eq_true, dTT, dFF, dT, dF, bigI, big0, qkn, qn7, qn8, List.length_set, List.length_replicate, Int.toNat_natCast, qdc, qdd, imax, imin, qc5]
  rw [show List.replicate m.length (0 : Int) = tab l.length (Fk tk l m b 0) by rw [hm]; exact qaa tk l m b]
  have e1 := qjj k hk [] r tk z1 z2 z3 z4 true true true true false false false false [] [] [] [] 0 l m t b t b l r F (k + 4) 0 (by omega) (by omega)
  have e2 := qji k hk [] r tk z1 z2 z3 z4 true true true true [] [] [] [] 0 l m t b (tab l.length (stM tk l m b)) b l r F (k + 4) 0 (by omega) (by omega)
  rw [← qae tk l m b hm] at e1
  rw [← qak tk l m t b ht] at e2
  exact e1.trans e2
end Go.Proofs.Ytcaapedadpnjoaa
end
section
namespace Go.Proofs.Ytcaapedadpnjoaa
open Go.Ev
set_option maxRecDepth 20000
theorem qbb (k : Nat) (hk : 2000000 ≤ k) (a : Int) (b : Int) (c : Int) : go (k + 2) impl_ShareOut [(.int .i64 (a)), (.int .i64 (b)), (.int .i64 (c))] = some [.int .i64 (qmw a b c)] := by
  rw [qet]
  unfold qmw
  cases hm : inR c 1 10000000
  · simp (disch := omega) only [qaw, nth0, nth1, nth2, nth3, bit, qde, qdf, qdq, qdv, qdw, qdx, qdy, qdz, qd0, qd1, qdg, qdh, qdi, qdj, qdk, qdl, qdm, qdn, qdo, qdp, qdr, qds, qdt, qdu, qnn, qnm, qno, qko, qlb, qlc, qhh, qax, qm5, nI, qd7, qd5, Bool.not_true, Bool.not_false, Bool.and_true, Bool.true_and, Bool.and_false, Bool.false_and, Bool.or_true, Bool.true_or, Bool.or_false, Bool.false_or, beq_self_eq_true, dTT, dFF, dT, dF, bigI, big0, qkn, qn7, qn8, List.length_set, List.length_replicate, Int.toNat_natCast, qdc, qdd, imax, imin, qbx, hm]
  cases hp : inR b 0 c
  · simp (disch := omega) only [qaw, nth0, nth1, nth2, nth3, bit, qde, qdf, qdq, qdv, qdw, qdx, qdy, qdz, qd0, qd1, qdg, qdh, qdi, qdj, qdk, qdl, qdm, qdn, qdo, qdp, qdr, qds, qdt, qdu, qnn, qnm, qno, qko, qlb, qlc, qhh, qax, qm5, nI, qd7, qd5, Bool.not_true, Bool.not_false, Bool.and_true, Bool.true_and, Bool.and_false, Bool.false_and, Bool.or_true, Bool.true_or, Bool.or_false, Bool.false_or, beq_self_eq_true, dTT, dFF, dT, dF, bigI, big0, qkn, qn7, qn8, List.length_set, List.length_replicate, Int.toNat_natCast, qdc, qdd, imax, imin, qbx, hm, hp]
  have hm' := qhf.1 hm
  cases ht : inR a 0 (1000 * c)
  · simp (disch := omega) only [qaw, nth0, nth1, nth2, nth3, bit, qde, qdf, qdq, qdv, qdw, qdx, qdy, qdz, qd0, qd1, qdg, qdh, qdi, qdj, qdk, qdl, qdm, qdn, qdo, qdp, qdr, qds, qdt, qdu, qnn, qnm, qno, qko, qlb, qlc, qhh, qax, qm5, nI, qd7, qd5, Bool.not_true, Bool.not_false, Bool.and_true, Bool.true_and, Bool.and_false, Bool.false_and, Bool.or_true, Bool.true_or, Bool.or_false, Bool.false_or, beq_self_eq_true, dTT, dFF, dT, dF, bigI, big0, qkn, qn7, qn8, List.length_set, List.length_replicate, Int.toNat_natCast, qdc, qdd, imax, imin, qbx, hm, hp, ht]
  have q := qmy hm hp ht
  have q2 : 0 ≤ Int.tdiv (a * b) c ∧ Int.tdiv (a * b) c ≤ 100000000000000000 := by
    have := qnf (x := a * b) (y := c) (B := 100000000000000000) (by omega) (by omega) (by omega)
    rw [Int.tdiv_eq_ediv_of_nonneg q.1] at *
    exact ⟨Int.ediv_nonneg q.1 (by omega), this.2⟩
  simp (disch := omega) only [qaw, nth0, nth1, nth2, nth3, bit, qde, qdf, qdq, qdv, qdw, qdx, qdy, qdz, qd0, qd1, qdg, qdh, qdi, qdj, qdk, qdl, qdm, qdn, qdo, qdp, qdr, qds, qdt, qdu, qnn, qnm, qno, qko, qlb, qlc, qhh, qax, qm5, nI, qd7, qd5, Bool.not_true, Bool.not_false, Bool.and_true, Bool.true_and, Bool.and_false, Bool.false_and, Bool.or_true, Bool.true_or, Bool.or_false, Bool.false_or, beq_self_eq_true, dTT, dFF, dT, dF, bigI, big0, qkn, qn7, qn8, List.length_set, List.length_replicate, Int.toNat_natCast, qdc, qdd, imax, imin, qbx, hm, hp, ht]
theorem qa8 (k : Nat) (hk : 2000000 ≤ k) (a : Int) (b : Int) (c : Int) (d : Int) : go (k + 3) impl_LeafOut [(.int .i64 (a)), (.int .i64 (b)), (.int .i64 (c)), (.int .i64 (d))] = some [.int .i64 (loA a b c d), .int .i64 (loB a b c d)] := by
  rw [qen]
  unfold loA loB loOk
  cases hm : inR b 1 10000000
  · simp (disch := omega) only [qaw, nth0, nth1, nth2, nth3, bit, qde, qdf, qdq, qdv, qdw, qdx, qdy, qdz, qd0, qd1, qdg, qdh, qdi, qdj, qdk, qdl, qdm, qdn, qdo, qdp, qdr, qds, qdt, qdu, qnn, qnm, qno, qko, qlb, qlc, qhh, qax, qm5, nI, qd7, qd5, Bool.not_true, Bool.not_false, Bool.and_true, Bool.true_and, Bool.and_false, Bool.false_and, Bool.or_true, Bool.true_or, Bool.or_false, Bool.false_or, beq_self_eq_true, dTT, dFF, dT, dF, bigI, big0, qkn, qn7, qn8, List.length_set, List.length_replicate, Int.toNat_natCast, qdc, qdd, imax, imin, qbx, hm]
  have hm' := qhf.1 hm
  cases ht : inR a 0 (1000 * b)
  · simp (disch := omega) only [qaw, nth0, nth1, nth2, nth3, bit, qde, qdf, qdq, qdv, qdw, qdx, qdy, qdz, qd0, qd1, qdg, qdh, qdi, qdj, qdk, qdl, qdm, qdn, qdo, qdp, qdr, qds, qdt, qdu, qnn, qnm, qno, qko, qlb, qlc, qhh, qax, qm5, nI, qd7, qd5, Bool.not_true, Bool.not_false, Bool.and_true, Bool.true_and, Bool.and_false, Bool.false_and, Bool.or_true, Bool.true_or, Bool.or_false, Bool.false_or, beq_self_eq_true, dTT, dFF, dT, dF, bigI, big0, qkn, qn7, qn8, List.length_set, List.length_replicate, Int.toNat_natCast, qdc, qdd, imax, imin, qbx, hm, ht]
  cases hr : inR c 0 b
  · simp (disch := omega) only [qaw, nth0, nth1, nth2, nth3, bit, qde, qdf, qdq, qdv, qdw, qdx, qdy, qdz, qd0, qd1, qdg, qdh, qdi, qdj, qdk, qdl, qdm, qdn, qdo, qdp, qdr, qds, qdt, qdu, qnn, qnm, qno, qko, qlb, qlc, qhh, qax, qm5, nI, qd7, qd5, Bool.not_true, Bool.not_false, Bool.and_true, Bool.true_and, Bool.and_false, Bool.false_and, Bool.or_true, Bool.true_or, Bool.or_false, Bool.false_or, beq_self_eq_true, dTT, dFF, dT, dF, bigI, big0, qkn, qn7, qn8, List.length_set, List.length_replicate, Int.toNat_natCast, qdc, qdd, imax, imin, qbx, hm, ht, hr]
  have hr' := qhf.1 hr
  cases hl : inR d 0 (b - c)
  · simp (disch := omega) only [qaw, nth0, nth1, nth2, nth3, bit, qde, qdf, qdq, qdv, qdw, qdx, qdy, qdz, qd0, qd1, qdg, qdh, qdi, qdj, qdk, qdl, qdm, qdn, qdo, qdp, qdr, qds, qdt, qdu, qnn, qnm, qno, qko, qlb, qlc, qhh, qax, qm5, nI, qd7, qd5, Bool.not_true, Bool.not_false, Bool.and_true, Bool.true_and, Bool.and_false, Bool.false_and, Bool.or_true, Bool.true_or, Bool.or_false, Bool.false_or, beq_self_eq_true, dTT, dFF, dT, dF, bigI, big0, qkn, qn7, qn8, List.length_set, List.length_replicate, Int.toNat_natCast, qdc, qdd, imax, imin, qbx, hm, ht, hr, hl]
  have hl' := qhf.1 hl
  have s1 := qmx a c b; have s2 := qmx a (c + d) b
  simp (disch := omega) only [qaw, nth0, nth1, nth2, nth3, bit, qde, qdf, qdq, qdv, qdw, qdx, qdy, qdz, qd0, qd1, qdg, qdh, qdi, qdj, qdk, qdl, qdm, qdn, qdo, qdp, qdr, qds, qdt, qdu, qnn, qnm, qno, qko, qlb, qlc, qhh, qax, qm5, nI, qd7, qd5, Bool.not_true, Bool.not_false, Bool.and_true, Bool.true_and, Bool.and_false, Bool.false_and, Bool.or_true, Bool.true_or, Bool.or_false, Bool.false_or, beq_self_eq_true, dTT, dFF, dT, dF, bigI, big0, qkn, qn7, qn8, List.length_set, List.length_replicate, Int.toNat_natCast, qdc, qdd, imax, imin, qbx, hm, ht, hr, hl, qbb]
theorem qa3 (k : Nat) (hk : 2000000 ≤ k) (a b : Int) (hb : 0 < b) (ha : -1000000000000 ≤ a) (ha' : a ≤ 1000000000000) : go (k + 1) impl_DivTrunc [.int .i64 a, .int .i64 b] = some [.int .i64 (Int.tdiv a b)] := by
  rw [qeh]
  have := qnf hb ha ha'
  simp (disch := omega) only [qaw, nth0, nth1, nth2, nth3, bit, qde, qdf, qdq, qdv, qdw, qdx, qdy, qdz, qd0, qd1, qdg, qdh, qdi, qdj, qdk, qdl, qdm, qdn, qdo, qdp, qdr, qds, qdt, qdu, qnn, qnm, qno, qko, qlb, qlc, qhh, qax, qm5, nI, qd7, qd5, Bool.not_true, Bool.not_false, Bool.and_true, Bool.true_and, Bool.and_false, Bool.false_and, Bool.or_true, Bool.true_or, Bool.or_false, Bool.false_or, beq_self_eq_true, dTT, dFF, dT, dF, bigI, big0, qkn, qn7, qn8, List.length_set, List.length_replicate, Int.toNat_natCast, qdc, qdd, imax, imin]
theorem qa2 (k : Nat) (hk : 2000000 ≤ k) (a b c : Int) (h : b ≤ c) : go (k + 1) impl_Clamp [.int .i64 a, .int .i64 b, .int .i64 c] = some [.int .i64 (max b (min c a))] := by
  rw [qeg]
  simp (disch := omega) only [qaw, nth0, nth1, nth2, nth3, bit, qde, qdf, qdq, qdv, qdw, qdx, qdy, qdz, qd0, qd1, qdg, qdh, qdi, qdj, qdk, qdl, qdm, qdn, qdo, qdp, qdr, qds, qdt, qdu, qnn, qnm, qno, qko, qlb, qlc, qhh, qax, qm5, nI, qd7, qd5, Bool.not_true, Bool.not_false, Bool.and_true, Bool.true_and, Bool.and_false, Bool.false_and, Bool.or_true, Bool.true_or, Bool.or_false, Bool.false_or, beq_self_eq_true, dTT, dFF, dT, dF, bigI, big0, qkn, qn7, qn8, List.length_set, List.length_replicate, Int.toNat_natCast, qdc, qdd, imax, imin]
  rw [show min c (max b a) = max b (min c a) by omega]
theorem qbm (k : Nat) (hk : 2000000 ≤ k) (e c a f d b : Int) (ha : 0 ≤ a ∧ a ≤ 161000000) (hb : 0 ≤ b ∧ b ≤ 161000000) (hc : 0 ≤ c ∧ c ≤ 10000000) (hd : 0 ≤ d ∧ d ≤ 10000000) (he : inR e 0 4 = true) (hf : inR f 0 4 = true) :
    go (k + 4) impl_flux [.agg [.int .i64 e, .int .i64 c, .int .i64 a], .agg [.int .i64 f, .int .i64 d, .int .i64 b]] = some [.int .i64 (qk4 a b c d e f)] := by
  rw [qe9]
  have w1 := qn1 he; have w2 := qn1 hf; have w3 := qn2 (max f e)
  have p := qki (x := a - b) (w := qn0 (max f e)) (A := 161000000) (by omega) (by omega) w3.1 w3.2
  have t := qnf (x := (a - b) * qn0 (max f e)) (y := 32 * (qn0 e + qn0 f)) (B := 2576000000) (by omega) (by omega) (by omega)
  have t1 : Int.tdiv c 4 = c / 4 := Int.tdiv_eq_ediv_of_nonneg (by omega)
  have t2 : Int.tdiv d 4 = d / 4 := Int.tdiv_eq_ediv_of_nonneg (by omega)
  simp (disch := omega) only [qaw, nth0, nth1, nth2, nth3, bit, qde, qdf, qdq, qdv, qdw, qdx, qdy, qdz, qd0, qd1, qdg, qdh, qdi, qdj, qdk, qdl, qdm, qdn, qdo, qdp, qdr, qds, qdt, qdu, qnn, qnm, qno, qko, qlb, qlc, qhh, qax, qm5, nI, qd7, qd5, Bool.not_true, Bool.not_false, Bool.and_true, Bool.true_and, Bool.and_false, Bool.false_and, Bool.or_true, Bool.true_or, Bool.or_false, Bool.false_or, beq_self_eq_true, dTT, dFF, dT, dF, bigI, big0, qkn, qn7, qn8, List.length_set, List.length_replicate, Int.toNat_natCast, qdc, qdd, imax, imin, qbf, qa3, qa2, t1, t2]
  rfl
theorem qbt (k : Nat) (hk : 2000000 ≤ k) (r : Int) (z1 z2 z3 z4 : Bool) (l : List Cell) (m t b : List Int) (F : StF r l m t b) (i : Nat) (hi : i < l.length) :
    go (k + 2) impl_State_side [.agg [.int .i64 (r), .arr false (z1) (.r3 (l)), .arr false (z2) (.ints .i64 (m)), .arr false (z3) (.ints .i64 (t)), .arr false (z4) (.ints .i64 (b))], .int .i64 (i : Int)] = some [.agg [.int .i64 (qij l i), .int .i64 (m.getD i 0), .int .i64 (surf l m b i)]] := by
  rw [qe1]
  have hl := F.len; have hm := F.ml
  have e1 := qbv (k + 1 - 1) (by omega) r z1 z2 z3 z4 l m t b F i hi
  rw [show k + 1 - 1 + 1 = k + 1 by omega] at e1
  simp (disch := omega) only [qaw, nth0, nth1, nth2, nth3, bit, qde, qdf, qdq, qdv, qdw, qdx, qdy, qdz, qd0, qd1, qdg, qdh, qdi, qdj, qdk, qdl, qdm, qdn, qdo, qdp, qdr, qds, qdt, qdu, qnn, qnm, qno, qko, qlb, qlc, qhh, qax, qm5, nI, qd7, qd5, Bool.not_true, Bool.not_false, Bool.and_true, Bool.true_and, Bool.and_false, Bool.false_and, Bool.or_true, Bool.true_or, Bool.or_false, Bool.false_or, beq_self_eq_true, dTT, dFF, dT, dF, bigI, big0, qkn, qn7, qn8, List.length_set, List.length_replicate, Int.toNat_natCast, qdc, qdd, imax, imin, e1]
theorem qbs (k : Nat) (hk : 2000000 ≤ k) (r : Int) (z1 z2 z3 z4 : Bool) (l : List Cell) (m t b : List Int) (F : StF r l m t b) (i : Nat) (hi : i + 1 < l.length) :
    go (k + 5) impl_State_flux [.agg [.int .i64 (r), .arr false (z1) (.r3 (l)), .arr false (z2) (.ints .i64 (m)), .arr false (z3) (.ints .i64 (t)), .arr false (z4) (.ints .i64 (b))], .int .i64 (i : Int)] = some [.int .i64 (fl l m b i)] := by
  rw [qew]
  have hl := F.len
  have h1 := F.at i; have h2 := F.at (i + 1); have s1 := qm6 F i; have s2 := qm6 F (i + 1)
  have v1 := F.lev i; have v2 := F.lev (i + 1)
  have e1 := qbt (k + 4 - 2) (by omega) r z1 z2 z3 z4 l m t b F i (by omega)
  have e2 := qbt (k + 4 - 2) (by omega) r z1 z2 z3 z4 l m t b F (i + 1) hi
  rw [show k + 4 - 2 + 2 = k + 4 by omega] at e1 e2
  have e3 := qbm (k + 4 - 4) (by omega) (qij l i) (m.getD i 0) (surf l m b i) (qij l (i + 1)) (m.getD (i + 1) 0) (surf l m b (i + 1)) s1 s2 ⟨h1.1, h1.2.1⟩ ⟨h2.1, h2.2.1⟩ v1 v2
  rw [show k + 4 - 4 + 4 = k + 4 by omega] at e3
  simp (disch := omega) only [qaw, nth0, nth1, nth2, nth3, bit, qde, qdf, qdq, qdv, qdw, qdx, qdy, qdz, qd0, qd1, qdg, qdh, qdi, qdj, qdk, qdl, qdm, qdn, qdo, qdp, qdr, qds, qdt, qdu, qnn, qnm, qno, qko, qlb, qlc, qhh, qax, qm5, nI, qd7, qd5, Bool.not_true, Bool.not_false, Bool.and_true, Bool.true_and, Bool.and_false, Bool.false_and, Bool.or_true, Bool.true_or, Bool.or_false, Bool.false_or, beq_self_eq_true, dTT, dFF, dT, dF, bigI, big0, qkn, qn7, qn8, List.length_set, List.length_replicate, Int.toNat_natCast, qdc, qdd, imax, imin, e1, e2, e3]
  rfl
def nats (l : List Nat) : List Int := l.map (fun i : Nat => (i : Int))
theorem qkl (l : List Nat) : (nats l).length = l.length := by simp [nats]
theorem qkk {l : List Nat} {i : Nat} (h : i < l.length) : (nats l).getD i 0 = ((l.getD i 0 : Nat) : Int) := by simp [nats, h]
def qam (tk : Int) (l : List Cell) : Nat → Nat → List Nat
  | 0, _ => []
  | n + 1, i => if qhi tk (qgx l i) = true then i :: qam tk l n (i + 1) else qam tk l n (i + 1)
theorem qan (tk : Int) (l : List Cell) : ∀ n i, (qam tk l n i).length ≤ n
  | 0, i => by simp [qam]
  | n + 1, i => by
    have := qan tk l n (i + 1)
    unfold qam
    split
    · simp only [List.length_cons]; omega
    · omega
theorem qao (tk : Int) (l : List Cell) : ∀ n i j, j ∈ qam tk l n i ↔ (i ≤ j ∧ j < i + n) ∧ qhi tk (qgx l j) = true
  | 0, i, j => by simp [qam]; omega
  | n + 1, i, j => by
    have ih := qao tk l n (i + 1) j
    unfold qam
    split
    · rename_i h
      rw [List.mem_cons, ih]
      constructor
      · rintro (rfl | ⟨h1, h2⟩)
        · exact ⟨by omega, h⟩
        · exact ⟨by omega, h2⟩
      · rintro ⟨h1, h2⟩
        by_cases e : j = i
        · exact .inl e
        · exact .inr ⟨by omega, h2⟩
    · rename_i h
      rw [ih]
      constructor
      · rintro ⟨h1, h2⟩; exact ⟨by omega, h2⟩
      · rintro ⟨h1, h2⟩
        refine ⟨?_, h2⟩
        by_cases e : j = i
        · subst e; exact absurd h2 h
        · omega
def acts (tk : Int) (l : List Cell) : List Nat := qam tk l (l.length - 1) 0
theorem qix (k : Nat) (hk : 2000000 ≤ k) (fu : List (Nat × Nat)) (z : Bool) (tk r : Int) (l : List Cell) (hl : (l.length : Int) ≤ 1000) (h1 : 1 ≤ l.length) : ∀ (n i : Nat) (acc : List Nat), i ≤ l.length - 1 → l.length - 1 - i < n → acc.length ≤ i →
    lp (k + 4) impl_Mesh_active [] fu 3 (n) (qls tk ((l.length - 1 : Nat) : Int) (i : Int) z l r false (nats acc)) = some [.arr true false (.ints .i64 (nats (acc ++ qam tk l (l.length - 1 - i) i)))]
  | 0, i, acc, hi, hn, ha => by omega
  | n + 1, i, acc, hi, hn, ha => by
    rw [qho]
    have nl := qkl acc
    by_cases h : i < l.length - 1
    · rw [show l.length - 1 - i = (l.length - 1 - (i + 1)) + 1 by omega, qam]
      have eL := qbl (k + 4 - 1) (by omega) r z l i (by omega) (by omega)
      rw [show k + 4 - 1 + 1 = k + 4 by omega] at eL
      have hd : (i : Int) < ((l.length - 1 : Nat) : Int) := by omega
      rw [dT hd, qd7, eL, qaw, nth0, qnn, qa6 _ (by omega), qaw, nth0, bit, qnm]
      cases g : qhi tk (qgx l i)
      · have e := qix k hk fu z tk r l hl h1 n (i + 1) acc (by omega) (by omega) (by omega)
        rw [if_neg (by simp), qd5]
        simp (disch := omega) only [qaw, nth0, nth1, nth2, nth3, bit, qde, qdf, qdq, qdv, qdw, qdx, qdy, qdz, qd0, qd1, qdg, qdh, qdi, qdj, qdk, qdl, qdm, qdn, qdo, qdp, qdr, qds, qdt, qdu, qnn, qnm, qno, qko, qlb, qlc, qhh, qax, qm5, nI, qd7, qd5, Bool.not_true, Bool.not_false, Bool.and_true, Bool.true_and, Bool.and_false, Bool.false_and, Bool.or_true, Bool.true_or, Bool.or_false, Bool.false_or, beq_self_eq_true, dTT, dFF, dT, dF, bigI, big0, qkn, qn7, qn8, List.length_set, List.length_replicate, Int.toNat_natCast, qdc, qdd, imax, imin, e]
      · have e := qix k hk fu z tk r l hl h1 n (i + 1) (acc ++ [i]) (by omega) (by omega) (by simp; omega)
        rw [if_pos rfl, qd7]
        have q : nats acc ++ [(i : Int)] = nats (acc ++ [i]) := by simp [nats]
        have ql : (nats (acc ++ [i])).length = acc.length + 1 := by simp [nats]
        rw [show acc ++ i :: qam tk l (l.length - 1 - (i + 1)) (i + 1) = (acc ++ [i]) ++ qam tk l (l.length - 1 - (i + 1)) (i + 1) by simp]
        simp (disch := omega) only [qaw, nth0, nth1, nth2, nth3, bit, qde, qdf, qdq, qdv, qdw, qdx, qdy, qdz, qd0, qd1, qdg, qdh, qdi, qdj, qdk, qdl, qdm, qdn, qdo, qdp, qdr, qds, qdt, qdu, qnn, qnm, qno, qko, qlb, qlc, qhh, qax, qm5, nI, qd7, qd5, Bool.not_true, Bool.not_false, Bool.and_true, Bool.true_and, Bool.and_false, Bool.false_and, Bool.or_true, Bool.true_or, Bool.or_false, Bool.false_or, beq_self_eq_true, dTT, dFF, dT, dF, bigI, big0, qkn, qn7, qn8, List.length_set, List.length_replicate, Int.toNat_natCast, qdc, qdd, imax, imin, q, ql, big0, e]
    · simp (disch := omega) only [qaw, nth0, nth1, nth2, nth3, bit, qde, qdf, qdq, qdv, qdw, qdx, qdy, qdz, qd0, qd1, qdg, qdh, qdi, qdj, qdk, qdl, qdm, qdn, qdo, qdp, qdr, qds, qdt, qdu, qnn, qnm, qno, qko, qlb, qlc, qhh, qax, qm5, nI, qd7, qd5, Bool.not_true, Bool.not_false, Bool.and_true, Bool.true_and, Bool.and_false, Bool.false_and, Bool.or_true, Bool.true_or, Bool.or_false, Bool.false_or, beq_self_eq_true, dTT, dFF, dT, dF, bigI, big0, qkn, qn7, qn8, List.length_set, List.length_replicate, Int.toNat_natCast, qdc, qdd, imax, imin]
      rw [show l.length - 1 - i = 0 by omega, qam, List.append_nil]
theorem qbh (k : Nat) (hk : 2000000 ≤ k) (a0 : Int) (a1z : Bool) (a1 : List (Int × Int × Int)) (b : Int) (hl : (a1.length : Int) ≤ 1000) (h1 : 1 ≤ a1.length) : go (k + 5) impl_Mesh_active [(.agg [(.int .i64 (a0)), (.arr false (a1z) (.r3 (a1)))]), (.int .i64 (b))] = some [.arr true false (.ints .i64 (nats (acts b a1)))] := by
  rw [qep]
  have e := qix k hk [] a1z b a0 a1 hl h1 (k + 4) 0 [] (by omega) (by omega) (by simp)
  rw [List.nil_append, show nats [] = [] from rfl] at e
  simp (disch := omega) only [qaw, nth0, nth1, nth2, nth3, bit, qde, qdf, qdq, qdv, qdw, qdx, qdy, qdz, qd0, qd1, qdg, qdh, qdi, qdj, qdk, qdl, qdm, qdn, qdo, qdp, qdr, qds, qdt, qdu, qnn, qnm, qno, qko, qlb, qlc, qhh, qax, qm5, nI, qd7, qd5, Bool.not_true, Bool.not_false, Bool.and_true, Bool.true_and, Bool.and_false, Bool.false_and, Bool.or_true, Bool.true_or, Bool.or_false, Bool.false_or, beq_self_eq_true, dTT, dFF, dT, dF, bigI, big0, qkn, qn7, qn8, List.length_set, List.length_replicate, Int.toNat_natCast, qdc, qdd, imax, imin, qdb]
  exact e
end Go.Proofs.Ytcaapedadpnjoaa
end
section
namespace Go.Proofs.Ytcaapedadpnjoaa
open Go.Ev
set_option maxRecDepth 20000
theorem qk5 (o : Bool) (d0 : D) (l : List D) : (D.ptr o (d0 :: l)).cell 0 = d0 := Eq.trans rfl rfl
theorem qk6 (o : Bool) (d0 d1 : D) (l : List D) : (D.ptr o (d0 :: d1 :: l)).cell 1 = d1 := Eq.trans rfl rfl
theorem qk7 (o : Bool) (d0 d1 d2 : D) (l : List D) : (D.ptr o (d0 :: d1 :: d2 :: l)).cell 2 = d2 := Eq.trans rfl rfl
theorem qk8 (o : Bool) (d0 d1 d2 d3 : D) (l : List D) : (D.ptr o (d0 :: d1 :: d2 :: d3 :: l)).cell 3 = d3 := Eq.trans rfl rfl
theorem qk9 (o : Bool) (d0 d1 d2 d3 d4 : D) (l : List D) : (D.ptr o (d0 :: d1 :: d2 :: d3 :: d4 :: l)).cell 4 = d4 := Eq.trans rfl rfl
theorem qjy {fs : List Nat} {p : Nat} (h : p < fs.length) (j : Nat) : j ∈ fs.take (p + 1) ↔ j ∈ fs.take p ∨ j = fs.getD p 0 := by
  rw [List.take_succ_eq_append_getElem h, List.mem_append, List.mem_singleton]
  simp [h]
def Rk (tk : Int) (l : List Cell) (m b : List Int) (fs : List Nat) (j : Nat) : Int := if j ∈ fs then rgt tk l m b j else 0
def Lk (tk : Int) (l : List Cell) (m b : List Int) (fs : List Nat) (j : Nat) : Int := if 1 ≤ j ∧ j - 1 ∈ fs then lft tk l m b j else 0
theorem qjc (k : Nat) (hk : 2000000 ≤ k) (fu : List (Nat × Nat)) (a0 : Int) (a1z : Bool) (a1 : List Cell) (a2z : Bool) (a2 : List Int) (a3z : Bool) (a3 : List Int) (a4z : Bool) (a4 : List Int) (z1 z2 z3 z4 z5 : Bool) (r : Int) (l : List Cell) (m t b : List Int) (tk : Int) (F : StF r l m t b) (fs : List Nat) (hf : ∀ i ∈ fs, i + 1 < l.length ∧ qhi tk (qgx l i) = true) (hfl : (fs.length : Int) ≤ 1000) : ∀ (n p : Nat), p ≤ fs.length → fs.length - p < n →
    lp (k + 5) impl_State_move [(.ptr true [(.int .i64 (a0)), (.arr true (a1z) (.r3 (a1))), (.arr true (a2z) (.ints .i64 (a2))), (.arr true (a3z) (.ints .i64 (a3))), (.arr true (a4z) (.ints .i64 (a4)))])] fu 2 (n) (qlx (fs.length : Int) (p : Int) z1 l z2 m z3 t z4 b r false (tab l.length (Rk tk l m b (fs.take p))) false (tab l.length (Lk tk l m b (fs.take p))) z5 (nats fs)) = lp (k + 5) impl_State_move [(.ptr true [(.int .i64 (a0)), (.arr true (a1z) (.r3 (a1))), (.arr true (a2z) (.ints .i64 (a2))), (.arr true (a3z) (.ints .i64 (a3))), (.arr true (a4z) (.ints .i64 (a4)))])] fu 12 (k + 5) (qlv (l.length : Int) 0 z1 l z2 m z3 t z4 b r false (tab l.length (Rk tk l m b fs)) false (tab l.length (Lk tk l m b fs)) false (List.replicate l.length 0) false (List.replicate l.length 0))
  | 0, p, hp, hn => by omega
  | n + 1, p, hp, hn => by
    have hl := F.len; have hm := F.ml
    have nl := qkl fs
    rw [qht]
    by_cases h : p < fs.length
    · obtain ⟨h1, h2⟩ := hf _ (qg7 h 0)
      have ng := qkk h
      have hz : ff tk l m b (fs.getD p 0) = fl l m b (fs.getD p 0) := by unfold ff qal; rw [h2, dT h1]; rfl
      have b0 := qg2 F (fs.getD p 0); have a0' := F.at (fs.getD p 0); have a1' := F.at (fs.getD p 0 + 1)
      have IH := qjc k hk fu a0 a1z a1 a2z a2 a3z a3 a4z a4 z1 z2 z3 z4 z5 r l m t b tk F fs hf hfl n (p + 1) (by omega) (by omega)
      have eF := qbs (k + 5 - 5) (by omega) r z1 z2 z3 z4 l m t b F (fs.getD p 0) h1
      rw [show k + 5 - 5 + 5 = k + 5 by omega] at eF
      by_cases g : 0 < fl l m b (fs.getD p 0)
      · have q1 : tab l.length (fun j => if j = fs.getD p 0 then fl l m b (fs.getD p 0) else Rk tk l m b (fs.take p) j) = tab l.length (Rk tk l m b (fs.take (p + 1))) := qm7 fun j hj => by
          unfold Rk
          simp only [qjy h]
          by_cases e : j = fs.getD p 0
          · rw [if_pos e, if_pos (.inr e), e]; unfold rgt; rw [hz]; omega
          · rw [if_neg e]; simp only [e, or_false]
        have q2 : tab l.length (Lk tk l m b (fs.take p)) = tab l.length (Lk tk l m b (fs.take (p + 1))) := qm7 fun j hj => by
          unfold Lk
          simp only [qjy h]
          by_cases e : 1 ≤ j ∧ j - 1 = fs.getD p 0
          · have : lft tk l m b j = 0 := by unfold lft; rw [if_pos e.1, e.2, hz]; omega
            rw [this]; simp
          · have : (1 ≤ j ∧ (j - 1 ∈ fs.take p ∨ j - 1 = fs.getD p 0)) = (1 ≤ j ∧ j - 1 ∈ fs.take p) := propext ⟨fun hh => ⟨hh.1, hh.2.resolve_right fun e2 => e ⟨hh.1, e2⟩⟩, fun hh => ⟨hh.1, .inl hh.2⟩⟩
            simp only [this]
        rw [← q1, ← q2] at IH
        simp (disch := omega) only [qaw, nth0, nth1, nth2, nth3, bit, qde, qdf, qdq, qdv, qdw, qdx, qdy, qdz, qd0, qd1, qdg, qdh, qdi, qdj, qdk, qdl, qdm, qdn, qdo, qdp, qdr, qds, qdt, qdu, qnn, qnm, qno, qko, qlb, qlc, qhh, qax, qm5, nI, qd7, qd5, Bool.not_true, Bool.not_false, Bool.and_true, Bool.true_and, Bool.and_false, Bool.false_and, Bool.or_true, Bool.true_or, Bool.or_false, Bool.false_or, beq_self_eq_true, dTT, dFF, dT, dF, bigI, big0, qkn, qn7, qn8, List.length_set, List.length_replicate, Int.toNat_natCast, qdc, qdd, imax, imin, nl, ng, eF, qm9, qnb, IH]
      · have q1 : tab l.length (fun j => if j = fs.getD p 0 + 1 then 0 - fl l m b (fs.getD p 0) else Lk tk l m b (fs.take p) j) = tab l.length (Lk tk l m b (fs.take (p + 1))) := qm7 fun j hj => by
          unfold Lk
          simp only [qjy h]
          by_cases e : j = fs.getD p 0 + 1
          · rw [if_pos e, if_pos ⟨by omega, .inr (by omega)⟩]; unfold lft; rw [if_pos (by omega), show j - 1 = fs.getD p 0 by omega, hz]; omega
          · rw [if_neg e]
            have : (1 ≤ j ∧ (j - 1 ∈ fs.take p ∨ j - 1 = fs.getD p 0)) = (1 ≤ j ∧ j - 1 ∈ fs.take p) := propext ⟨fun hh => ⟨hh.1, hh.2.resolve_right fun e2 => e (by omega)⟩, fun hh => ⟨hh.1, .inl hh.2⟩⟩
            simp only [this]
        have q2 : tab l.length (Rk tk l m b (fs.take p)) = tab l.length (Rk tk l m b (fs.take (p + 1))) := qm7 fun j hj => by
          unfold Rk
          simp only [qjy h]
          by_cases e : j = fs.getD p 0
          · have : rgt tk l m b j = 0 := by unfold rgt; rw [e, hz]; omega
            rw [this]; simp
          · simp only [e, or_false]
        rw [← q1, ← q2] at IH
        simp (disch := omega) only [qaw, nth0, nth1, nth2, nth3, bit, qde, qdf, qdq, qdv, qdw, qdx, qdy, qdz, qd0, qd1, qdg, qdh, qdi, qdj, qdk, qdl, qdm, qdn, qdo, qdp, qdr, qds, qdt, qdu, qnn, qnm, qno, qko, qlb, qlc, qhh, qax, qm5, nI, qd7, qd5, Bool.not_true, Bool.not_false, Bool.and_true, Bool.true_and, Bool.and_false, Bool.false_and, Bool.or_true, Bool.true_or, Bool.or_false, Bool.false_or, beq_self_eq_true, dTT, dFF, dT, dF, bigI, big0, qkn, qn7, qn8, List.length_set, List.length_replicate, Int.toNat_natCast, qdc, qdd, imax, imin, nl, ng, eF, qm9, qnb, IH]
    · rw [List.take_of_length_le (by omega)]
      simp (disch := omega) only [qaw, nth0, nth1, nth2, nth3, bit, qde, qdf, qdq, qdv, qdw, qdx, qdy, qdz, qd0, qd1, qdg, qdh, qdi, qdj, qdk, qdl, qdm, qdn, qdo, qdp, qdr, qds, qdt, qdu, qnn, qnm, qno, qko, qlb, qlc, qhh, qax, qm5, nI, qd7, qd5, Bool.not_true, Bool.not_false, Bool.and_true, Bool.true_and, Bool.and_false, Bool.false_and, Bool.or_true, Bool.true_or, Bool.or_false, Bool.false_or, beq_self_eq_true, dTT, dFF, dT, dF, bigI, big0, qkn, qn7, qn8, List.length_set, List.length_replicate, Int.toNat_natCast, qdc, qdd, imax, imin]
      rw [hm]
def gk (A B : Nat → Int) (k j : Nat) : Int := 0 - (if j < k then A j + B j else 0) + (if 1 ≤ j ∧ j ≤ k then A (j - 1) else 0) + (if j + 1 < k then B (j + 1) else 0)
theorem qhc (L : Nat) (A B : Nat → Int) (i : Nat) : tab L (upd (gk A B i) i (A i) (B i)) = tab L (gk A B (i + 1)) := qm7 fun j hj => by
  unfold upd
  by_cases g1 : 1 ≤ i ∧ j = i - 1
  · obtain ⟨g1, rfl⟩ := g1
    rw [if_pos ⟨g1, rfl⟩]
    unfold gk
    rw [if_pos (show i - 1 < i by omega), if_neg (show ¬ (i - 1 + 1 < i) by omega), if_pos (show i - 1 < i + 1 by omega), if_pos (show i - 1 + 1 < i + 1 by omega), show i - 1 + 1 = i by omega]
    have e2 : (1 ≤ i - 1 ∧ i - 1 ≤ i) = (1 ≤ i - 1 ∧ i - 1 ≤ i + 1) := by rw [eq_iff_iff]; omega
    simp only [e2]; omega
  · rw [if_neg g1]
    by_cases g2 : j = i + 1
    · subst g2
      rw [if_pos rfl]
      unfold gk
      rw [if_neg (show ¬ (i + 1 < i) by omega), if_neg (show ¬ (1 ≤ i + 1 ∧ i + 1 ≤ i) by omega), if_neg (show ¬ (i + 1 + 1 < i) by omega), if_neg (show ¬ (i + 1 < i + 1) by omega), if_pos (show 1 ≤ i + 1 ∧ i + 1 ≤ i + 1 by omega), if_neg (show ¬ (i + 1 + 1 < i + 1) by omega), Nat.add_sub_cancel]; omega
    · rw [if_neg g2]
      by_cases g3 : j = i
      · subst g3
        rw [if_pos rfl]
        unfold gk
        rw [if_neg (show ¬ (j < j) by omega), if_neg (show ¬ (j + 1 < j) by omega), if_pos (show j < j + 1 by omega), if_neg (show ¬ (j + 1 < j + 1) by omega)]
        have e2 : (1 ≤ j ∧ j ≤ j) = (1 ≤ j ∧ j ≤ j + 1) := by rw [eq_iff_iff]; omega
        simp only [e2]; omega
      · rw [if_neg g3]
        unfold gk
        have e1 : (j < i) = (j < i + 1) := by rw [eq_iff_iff]; omega
        have e2 : (1 ≤ j ∧ j ≤ i) = (1 ≤ j ∧ j ≤ i + 1) := by rw [eq_iff_iff]; omega
        have e3 : (j + 1 < i) = (j + 1 < i + 1) := by rw [eq_iff_iff]; omega
        simp only [e1, e2, e3]
theorem qhb {A B : Nat → Int} {C : Int} (hA : ∀ j, -C ≤ A j ∧ A j ≤ C) (hB : ∀ j, -C ≤ B j ∧ B j ≤ C) (k j : Nat) : -(4 * C) ≤ gk A B k j ∧ gk A B k j ≤ 4 * C := by
  have a := hA j; have b := hB j; have c := hA (j - 1); have d := hB (j + 1)
  unfold gk
  split <;> split <;> split <;> omega
theorem qhd (L : Nat) (A B : Nat → Int) : List.replicate L (0 : Int) = tab L (gk A B 0) := by
  rw [qnc]
  refine qm7 fun j hj => ?_
  unfold gk
  rw [if_neg (by omega), if_neg (by omega), if_neg (by omega)]; rfl
def sh (G : Nat → Int) (i u : Nat) (x : Int) (j : Nat) : Int := if j = u then G u + x else if j = i then G i - x else G j
theorem qck (k : Nat) (hk : 2000000 ≤ k) (L : Nat) (G H : Nat → Int) (i u : Nat) (x y : Int) (z z' : Bool) (hi : i < L) (hu : u < L) (hiu : i ≠ u) (hx : 0 < x) (hL : (L : Int) ≤ 1000) (hx2 : x ≤ 1000000000000000000) (hy : -1000000000000000000 ≤ y ∧ y ≤ 1000000000000000000)
    (g1 : -1000000000000000000 ≤ G i ∧ G i ≤ 1000000000000000000) (g2 : -1000000000000000000 ≤ G u ∧ G u ≤ 1000000000000000000) (g3 : -1000000000000000000 ≤ H i ∧ H i ≤ 1000000000000000000) (g4 : -1000000000000000000 ≤ H u ∧ H u ≤ 1000000000000000000) :
    go (k + 1) impl_State_move_1 [.int .i64 (i : Int), .int .i64 (u : Int), .int .i64 x, .int .i64 y, .ptr true [.arr true z (.ints .i64 (tab L G))], .ptr true [.arr true z' (.ints .i64 (tab L H))]] = some [.ptr true [.arr true z (.ints .i64 (tab L (sh G i u x)))], .ptr true [.arr true z' (.ints .i64 (tab L (sh H i u y)))]] := by
  rw [qe0]
  simp (disch := omega) only [qaw, nth0, nth1, nth2, nth3, bit, qde, qdf, qdq, qdv, qdw, qdx, qdy, qdz, qd0, qd1, qdg, qdh, qdi, qdj, qdk, qdl, qdm, qdn, qdo, qdp, qdr, qds, qdt, qdu, qnn, qnm, qno, qko, qlb, qlc, qhh, qax, qm5, nI, qd7, qd5, Bool.not_true, Bool.not_false, Bool.and_true, Bool.true_and, Bool.and_false, Bool.false_and, Bool.or_true, Bool.true_or, Bool.or_false, Bool.false_or, beq_self_eq_true, dTT, dFF, dT, dF, bigI, big0, qkn, qn7, qn8, List.length_set, List.length_replicate, Int.toNat_natCast, qdc, qdd, imax, imin, qm9, qm8, qnb, itT, itF, niF, if_neg]
  rfl
theorem qcl (k : Nat) (hk : 2000000 ≤ k) (a b x y : Int) (z z' : Bool) (l l' : List Int) (hx : x = 0) :
    go (k + 1) impl_State_move_1 [.int .i64 a, .int .i64 b, .int .i64 x, .int .i64 y, .ptr true [.arr true z (.ints .i64 l)], .ptr true [.arr true z' (.ints .i64 l')]] = some [.ptr true [.arr true z (.ints .i64 l)], .ptr true [.arr true z' (.ints .i64 l')]] := by
  rw [qe0]
  simp (disch := omega) only [qaw, nth0, nth1, nth2, nth3, bit, qde, qdf, qdq, qdv, qdw, qdx, qdy, qdz, qd0, qd1, qdg, qdh, qdi, qdj, qdk, qdl, qdm, qdn, qdo, qdp, qdr, qds, qdt, qdu, qnn, qnm, qno, qko, qlb, qlc, qhh, qax, qm5, nI, qd7, qd5, Bool.not_true, Bool.not_false, Bool.and_true, Bool.true_and, Bool.and_false, Bool.false_and, Bool.or_true, Bool.true_or, Bool.or_false, Bool.false_or, beq_self_eq_true, dTT, dFF, dT, dF, bigI, big0, qkn, qn7, qn8, List.length_set, List.length_replicate, Int.toNat_natCast, qdc, qdd, imax, imin]
theorem qmv {G : Nat → Int} {i : Nat} {A B : Int} (g : 1 ≤ i) : sh (sh G i (i + 1) A) i (i - 1) B = upd G i A B := by
  funext j
  unfold sh upd
  by_cases q1 : j = i - 1
  · subst q1; simp (disch := omega) only [itT, true_and, and_true, if_pos, if_neg]
  · by_cases q2 : j = i + 1
    · subst q2; simp (disch := omega) only [itT, true_and, and_true, if_pos, if_neg]
    · by_cases q3 : j = i
      · subst q3; simp (disch := omega) only [itT, true_and, and_true, if_pos, if_neg]
      · simp (disch := omega) only [if_neg]
theorem sh_r {G : Nat → Int} {i : Nat} {A B : Int} (hB : B = 0) : sh G i (i + 1) A = upd G i A B := by
  funext j
  unfold sh upd
  subst hB
  by_cases q1 : 1 ≤ i ∧ j = i - 1
  · obtain ⟨q0, rfl⟩ := q1; simp (disch := omega) only [itT, true_and, and_true, if_pos, if_neg, Int.add_zero]
  · by_cases q2 : j = i + 1
    · subst q2; simp (disch := omega) only [itT, true_and, and_true, if_pos, if_neg]
    · by_cases q3 : j = i
      · subst q3; simp (disch := omega) only [itT, true_and, and_true, if_pos, if_neg, Int.sub_zero]
      · simp (disch := omega) only [if_neg]
theorem sh_l {G : Nat → Int} {i : Nat} {A B : Int} (g : 1 ≤ i) (hA : A = 0) : sh G i (i - 1) B = upd G i A B := by
  funext j
  unfold sh upd
  subst hA
  by_cases q1 : j = i - 1
  · subst q1; simp (disch := omega) only [itT, true_and, and_true, if_pos, if_neg]
  · by_cases q2 : j = i + 1
    · subst q2; simp (disch := omega) only [itT, true_and, and_true, if_pos, if_neg, Int.add_zero]
    · by_cases q3 : j = i
      · subst q3; simp (disch := omega) only [itT, true_and, and_true, if_pos, if_neg, Int.sub_zero]
      · simp (disch := omega) only [if_neg]
theorem sh_0 {G : Nat → Int} {i : Nat} {A B : Int} (hA : A = 0) (hB : B = 0) : G = upd G i A B := by
  funext j
  unfold upd
  subst hA hB
  by_cases q1 : 1 ≤ i ∧ j = i - 1
  · simp (disch := omega) only [itT, true_and, and_true, if_pos, if_neg, Int.add_zero]
  · by_cases q2 : j = i + 1
    · subst q2; simp (disch := omega) only [itT, true_and, and_true, if_pos, if_neg, Int.add_zero]
    · by_cases q3 : j = i
      · subst q3; simp (disch := omega) only [itT, true_and, and_true, if_pos, if_neg, Int.sub_zero]
      · simp (disch := omega) only [if_neg]
theorem rgtB {r : Int} {l : List Cell} {m t b : List Int} (F : StF r l m t b) (tk : Int) (j : Nat) : 0 ≤ rgt tk l m b j ∧ rgt tk l m b j ≤ 2500000 := by
  have f1 := qgz F tk j; have a0 := F.at j
  unfold rgt; omega
theorem lftB {r : Int} {l : List Cell} {m t b : List Int} (F : StF r l m t b) (tk : Int) (j : Nat) : 0 ≤ lft tk l m b j ∧ lft tk l m b j ≤ 2500000 := by
  have f1 := qgz F tk (j - 1); have a0 := F.at (j - 1 + 1)
  unfold lft
  split <;> omega
set_option maxHeartbeats 1000000 in
theorem qja (k : Nat) (hk : 2000000 ≤ k) (fu : List (Nat × Nat)) (a0 : Int) (a1z : Bool) (a1 : List Cell) (a2z : Bool) (a2 : List Int) (a3z : Bool) (a3 : List Int) (a4z : Bool) (a4 : List Int) (z1 z2 z3 z4 : Bool) (r : Int) (l : List Cell) (m t b : List Int) (tk : Int) (F : StF r l m t b) : ∀ (n i : Nat), i ≤ l.length → l.length - i < n →
    lp (k + 5) impl_State_move [(.ptr true [(.int .i64 (a0)), (.arr true (a1z) (.r3 (a1))), (.arr true (a2z) (.ints .i64 (a2))), (.arr true (a3z) (.ints .i64 (a3))), (.arr true (a4z) (.ints .i64 (a4)))])] fu 12 (n) (qlv (l.length : Int) (i : Int) z1 l z2 m z3 t z4 b r false (tab l.length (rgt tk l m b)) false (tab l.length (lft tk l m b)) false (tab l.length (gk (rgt tk l m b) (lft tk l m b) i)) false (tab l.length (gk (outA tk l m t b) (outB tk l m t b) i))) =
      lp (k + 5) impl_State_move [(.ptr true [(.int .i64 (a0)), (.arr true (a1z) (.r3 (a1))), (.arr true (a2z) (.ints .i64 (a2))), (.arr true (a3z) (.ints .i64 (a3))), (.arr true (a4z) (.ints .i64 (a4)))])] fu 19 (k + 5) (qlw (l.length : Int) 0 z1 l z2 m z3 t z4 b r false (tab l.length (gk (rgt tk l m b) (lft tk l m b) l.length)) false (tab l.length (gk (outA tk l m t b) (outB tk l m t b) l.length)))
  | 0, i, hi, hn => by omega
  | n + 1, i, hi, hn => by
    have hl := F.len; have hm := F.ml; have ht := F.tl
    rw [qhr]
    by_cases h : i < l.length
    · have IH := qja k hk fu a0 a1z a1 a2z a2 a3z a3 a4z a4 z1 z2 z3 z4 r l m t b tk F n (i + 1) (by omega) (by omega)
      rw [← qhc l.length (rgt tk l m b) (lft tk l m b) i, ← qhc l.length (outA tk l m t b) (outB tk l m t b) i] at IH
      have B1 : ∀ p j, -10000000 ≤ gk (rgt tk l m b) (lft tk l m b) p j ∧ gk (rgt tk l m b) (lft tk l m b) p j ≤ 10000000 := fun p j => qhb (C := 2500000) (fun j => by have := rgtB F tk j; omega) (fun j => by have := lftB F tk j; omega) p j
      have B2 : ∀ p j, -400000000000000000 ≤ gk (outA tk l m t b) (outB tk l m t b) p j ∧ gk (outA tk l m t b) (outB tk l m t b) p j ≤ 400000000000000000 := fun p j => qhb (C := 100000000000000000) (fun j => by have := qku tk l m t b j; omega) (fun j => qkw tk l m t b j) p j
      have r1 := rgtB F tk i; have r2 := lftB F tk i
      have A := qku tk l m t b i; have B := qkw tk l m t b i
      have b1 := B1 i i; have b2 := B1 i (i + 1); have b3 := B1 i (i - 1); have c1 := B2 i i; have c2 := B2 i (i + 1); have c3 := B2 i (i - 1)
      have hA : loA (t.getD i 0) (m.getD i 0) (rgt tk l m b i) (lft tk l m b i) = outA tk l m t b i := rfl
      have hB : loB (t.getD i 0) (m.getD i 0) (rgt tk l m b i) (lft tk l m b i) = outB tk l m t b i := rfl
      have hi1 : 0 < rgt tk l m b i → i + 1 < l.length := fun g4 => by
        rcases Nat.lt_or_ge (i + 1) l.length with q | q
        · exact q
        · unfold rgt at g4; rw [qgy q] at g4; omega
      have hi0 : 0 < lft tk l m b i → 1 ≤ i := fun g4 => by
        rcases Nat.lt_or_ge 0 i with q | q
        · exact q
        · unfold lft at g4; rw [if_neg (by omega)] at g4; omega
      have zA : rgt tk l m b i = 0 → outA tk l m t b i = 0 := qkv
      have zB : lft tk l m b i = 0 → outB tk l m t b i = 0 := qkx
      by_cases g4 : 0 < rgt tk l m b i
      · have i1 := hi1 g4
        have s1 := qck (k + 5 - 1) (by omega) l.length (gk (rgt tk l m b) (lft tk l m b) i) (gk (outA tk l m t b) (outB tk l m t b) i) i (i + 1) (rgt tk l m b i) (outA tk l m t b i) false false h i1 (by omega) g4 (by omega) (by omega) (by omega) (by omega) (by omega) (by omega) (by omega)
        rw [show k + 5 - 1 + 1 = k + 5 by omega] at s1
        by_cases g5 : 0 < lft tk l m b i
        · have i0 := hi0 g5
          have e1 : sh (gk (rgt tk l m b) (lft tk l m b) i) i (i + 1) (rgt tk l m b i) i = gk (rgt tk l m b) (lft tk l m b) i i - rgt tk l m b i := by unfold sh; rw [if_neg (by omega), if_pos rfl]
          have e2 : sh (gk (rgt tk l m b) (lft tk l m b) i) i (i + 1) (rgt tk l m b i) (i - 1) = gk (rgt tk l m b) (lft tk l m b) i (i - 1) := by unfold sh; rw [if_neg (by omega), if_neg (by omega)]
          have e3 : sh (gk (outA tk l m t b) (outB tk l m t b) i) i (i + 1) (outA tk l m t b i) i = gk (outA tk l m t b) (outB tk l m t b) i i - outA tk l m t b i := by unfold sh; rw [if_neg (by omega), if_pos rfl]
          have e4 : sh (gk (outA tk l m t b) (outB tk l m t b) i) i (i + 1) (outA tk l m t b i) (i - 1) = gk (outA tk l m t b) (outB tk l m t b) i (i - 1) := by unfold sh; rw [if_neg (by omega), if_neg (by omega)]
          have s2 := qck (k + 5 - 1) (by omega) l.length (sh (gk (rgt tk l m b) (lft tk l m b) i) i (i + 1) (rgt tk l m b i)) (sh (gk (outA tk l m t b) (outB tk l m t b) i) i (i + 1) (outA tk l m t b i)) i (i - 1) (lft tk l m b i) (outB tk l m t b i) false false h (by omega) (by omega) g5 (by omega) (by omega) (by omega) (by omega) (by omega) (by omega) (by omega)
          rw [show k + 5 - 1 + 1 = k + 5 by omega] at s2
          rw [← qmv i0, ← qmv i0] at IH
          simp (disch := omega) only [qaw, nth0, nth1, nth2, nth3, bit, qde, qdf, qdq, qdv, qdw, qdx, qdy, qdz, qd0, qd1, qdg, qdh, qdi, qdj, qdk, qdl, qdm, qdn, qdo, qdp, qdr, qds, qdt, qdu, qnn, qnm, qno, qko, qlb, qlc, qhh, qax, qm5, nI, qd7, qd5, Bool.not_true, Bool.not_false, Bool.and_true, Bool.true_and, Bool.and_false, Bool.false_and, Bool.or_true, Bool.true_or, Bool.or_false, Bool.false_or, beq_self_eq_true, dTT, dFF, dT, dF, bigI, big0, qkn, qn7, qn8, List.length_set, List.length_replicate, Int.toNat_natCast, qdc, qdd, imax, imin, qdb, qm9, qm8, qk5, qa8, hA, hB, s1, s2]
          exact IH
        · have z0 : lft tk l m b i = 0 := by omega
          rw [← sh_r z0, ← sh_r (zB z0)] at IH
          simp (disch := omega) only [qaw, nth0, nth1, nth2, nth3, bit, qde, qdf, qdq, qdv, qdw, qdx, qdy, qdz, qd0, qd1, qdg, qdh, qdi, qdj, qdk, qdl, qdm, qdn, qdo, qdp, qdr, qds, qdt, qdu, qnn, qnm, qno, qko, qlb, qlc, qhh, qax, qm5, nI, qd7, qd5, Bool.not_true, Bool.not_false, Bool.and_true, Bool.true_and, Bool.and_false, Bool.false_and, Bool.or_true, Bool.true_or, Bool.or_false, Bool.false_or, beq_self_eq_true, dTT, dFF, dT, dF, bigI, big0, qkn, qn7, qn8, List.length_set, List.length_replicate, Int.toNat_natCast, qdc, qdd, imax, imin, qm9, qm8, qk5, qa8, hA, hB, s1, qcl]
          exact IH
      · have z1' : rgt tk l m b i = 0 := by omega
        by_cases g5 : 0 < lft tk l m b i
        · have i0 := hi0 g5
          have s2 := qck (k + 5 - 1) (by omega) l.length (gk (rgt tk l m b) (lft tk l m b) i) (gk (outA tk l m t b) (outB tk l m t b) i) i (i - 1) (lft tk l m b i) (outB tk l m t b i) false false h (by omega) (by omega) g5 (by omega) (by omega) (by omega) (by omega) (by omega) (by omega) (by omega)
          rw [show k + 5 - 1 + 1 = k + 5 by omega] at s2
          rw [← sh_l i0 z1', ← sh_l i0 (zA z1')] at IH
          simp (disch := omega) only [qaw, nth0, nth1, nth2, nth3, bit, qde, qdf, qdq, qdv, qdw, qdx, qdy, qdz, qd0, qd1, qdg, qdh, qdi, qdj, qdk, qdl, qdm, qdn, qdo, qdp, qdr, qds, qdt, qdu, qnn, qnm, qno, qko, qlb, qlc, qhh, qax, qm5, nI, qd7, qd5, Bool.not_true, Bool.not_false, Bool.and_true, Bool.true_and, Bool.and_false, Bool.false_and, Bool.or_true, Bool.true_or, Bool.or_false, Bool.false_or, beq_self_eq_true, dTT, dFF, dT, dF, bigI, big0, qkn, qn7, qn8, List.length_set, List.length_replicate, Int.toNat_natCast, qdc, qdd, imax, imin, qdb, qm9, qm8, qk5, qa8, hA, hB, s2, qcl]
          exact IH
        · have z0 : lft tk l m b i = 0 := by omega
          rw [← sh_0 z1' z0, ← sh_0 (zA z1') (zB z0)] at IH
          simp (disch := omega) only [qaw, nth0, nth1, nth2, nth3, bit, qde, qdf, qdq, qdv, qdw, qdx, qdy, qdz, qd0, qd1, qdg, qdh, qdi, qdj, qdk, qdl, qdm, qdn, qdo, qdp, qdr, qds, qdt, qdu, qnn, qnm, qno, qko, qlb, qlc, qhh, qax, qm5, nI, qd7, qd5, Bool.not_true, Bool.not_false, Bool.and_true, Bool.true_and, Bool.and_false, Bool.false_and, Bool.or_true, Bool.true_or, Bool.or_false, Bool.false_or, beq_self_eq_true, dTT, dFF, dT, dF, bigI, big0, qkn, qn7, qn8, List.length_set, List.length_replicate, Int.toNat_natCast, qdc, qdd, imax, imin, qm9, qm8, qk5, qa8, hA, hB, qcl]
          exact IH
    · simp (disch := omega) only [qaw, nth0, nth1, nth2, nth3, bit, qde, qdf, qdq, qdv, qdw, qdx, qdy, qdz, qd0, qd1, qdg, qdh, qdi, qdj, qdk, qdl, qdm, qdn, qdo, qdp, qdr, qds, qdt, qdu, qnn, qnm, qno, qko, qlb, qlc, qhh, qax, qm5, nI, qd7, qd5, Bool.not_true, Bool.not_false, Bool.and_true, Bool.true_and, Bool.and_false, Bool.false_and, Bool.or_true, Bool.true_or, Bool.or_false, Bool.false_or, beq_self_eq_true, dTT, dFF, dT, dF, bigI, big0, qkn, qn7, qn8, List.length_set, List.length_replicate, Int.toNat_natCast, qdc, qdd, imax, imin]
      rw [show i = l.length by omega, hm]
end Go.Proofs.Ytcaapedadpnjoaa
end
section
namespace Go.Proofs.Ytcaapedadpnjoaa
open Go.Ev
set_option maxRecDepth 20000
theorem qg9 (tk : Int) (l : List Cell) (m b : List Int) {j : Nat} (hj : j < l.length) : m.getD j 0 + gk (rgt tk l m b) (lft tk l m b) l.length j = stM tk l m b j := by
  have e1 : lft tk l m b (j + 1) = max 0 (0 - ff tk l m b j) := by unfold lft; rw [if_pos (by omega), Nat.add_sub_cancel]
  have e2 : rgt tk l m b j = max 0 (ff tk l m b j) := rfl
  have e3 : (if j + 1 < l.length then lft tk l m b (j + 1) else 0) = max 0 (0 - ff tk l m b j) := by
    by_cases g : j + 1 < l.length
    · rw [if_pos g, e1]
    · rw [if_neg g, qgy (by omega)]; rfl
  unfold gk stM
  rw [if_pos hj, e3, e2]
  by_cases g : 1 ≤ j
  · have e4 : lft tk l m b j = max 0 (0 - ff tk l m b (j - 1)) := by unfold lft; rw [if_pos g]
    have e5 : rgt tk l m b (j - 1) = max 0 (ff tk l m b (j - 1)) := rfl
    rw [if_pos (by omega), if_pos g, e4, e5]; omega
  · have e4 : lft tk l m b j = 0 := by unfold lft; rw [if_neg g]
    rw [if_neg (by omega), if_neg g, e4]; omega
theorem qha (tk : Int) (l : List Cell) (m t b : List Int) {j : Nat} (hj : j < l.length) : t.getD j 0 + gk (outA tk l m t b) (outB tk l m t b) l.length j = stT tk l m t b j := by
  have e3 : (if j + 1 < l.length then outB tk l m t b (j + 1) else 0) = outB tk l m t b (j + 1) := by
    by_cases g : j + 1 < l.length
    · rw [if_pos g]
    · rw [if_neg g, qkx]
      unfold lft
      rw [if_pos (by omega), Nat.add_sub_cancel, qgy (by omega)]; rfl
  unfold gk stT
  rw [if_pos hj, e3]
  by_cases g : 1 ≤ j
  · rw [if_pos (by omega), if_pos g]; omega
  · rw [if_neg (by omega), if_neg g]; omega
theorem qjb (k : Nat) (hk : 2000000 ≤ k) (fu : List (Nat × Nat)) (a0 : Int) (a1z : Bool) (a1 : List Cell) (a2z : Bool) (a2 : List Int) (a3z : Bool) (a3 : List Int) (a4z : Bool) (a4 : List Int) (z1 z2 z3 z4 : Bool) (r : Int) (l : List Cell) (m t b : List Int) (tk : Int) (F : StF r l m t b) : ∀ (n i : Nat), i ≤ l.length → l.length - i < n →
    lp (k + 5) impl_State_move [(.ptr true [(.int .i64 (a0)), (.arr true (a1z) (.r3 (a1))), (.arr true (a2z) (.ints .i64 (a2))), (.arr true (a3z) (.ints .i64 (a3))), (.arr true (a4z) (.ints .i64 (a4)))])] fu 19 (n) (qlw (l.length : Int) (i : Int) z1 l z2 (tab l.length (fun j => if j < i then stM tk l m b j else m.getD j 0)) z3 (tab l.length (fun j => if j < i then stT tk l m t b j else t.getD j 0)) z4 b r false (tab l.length (gk (rgt tk l m b) (lft tk l m b) l.length)) false (tab l.length (gk (outA tk l m t b) (outB tk l m t b) l.length))) =
      some [.ptr true [.int .i64 (r), .arr true (z1) (.r3 (l)), .arr true (z2) (.ints .i64 (tab l.length (stM tk l m b))), .arr true (z3) (.ints .i64 (tab l.length (stT tk l m t b))), .arr true (z4) (.ints .i64 (b))]]
  | 0, i, hi, hn => by omega
  | n + 1, i, hi, hn => by
    have hl := F.len
    rw [qhs]
    by_cases h : i < l.length
    · have IH := qjb k hk fu a0 a1z a1 a2z a2 a3z a3 a4z a4 z1 z2 z3 z4 r l m t b tk F n (i + 1) (by omega) (by omega)
      have q1 : tab l.length (fun j => if j = i then stM tk l m b i else if j < i then stM tk l m b j else m.getD j 0) = tab l.length (fun j => if j < i + 1 then stM tk l m b j else m.getD j 0) := qm7 fun j hj => by
        by_cases e : j = i
        · subst e; rw [if_pos rfl, if_pos (by omega)]
        · rw [if_neg e]
          by_cases e2 : j < i
          · rw [if_pos e2, if_pos (by omega)]
          · rw [if_neg e2, if_neg (by omega)]
      have q2 : tab l.length (fun j => if j = i then stT tk l m t b i else if j < i then stT tk l m t b j else t.getD j 0) = tab l.length (fun j => if j < i + 1 then stT tk l m t b j else t.getD j 0) := qm7 fun j hj => by
        by_cases e : j = i
        · subst e; rw [if_pos rfl, if_pos (by omega)]
        · rw [if_neg e]
          by_cases e2 : j < i
          · rw [if_pos e2, if_pos (by omega)]
          · rw [if_neg e2, if_neg (by omega)]
      rw [← q1, ← q2] at IH
      have B1 := qhb (A := rgt tk l m b) (B := lft tk l m b) (C := 2500000) (fun j => by have := rgtB F tk j; omega) (fun j => by have := lftB F tk j; omega) l.length i
      have B2 := qhb (A := outA tk l m t b) (B := outB tk l m t b) (C := 100000000000000000) (fun j => by have := qku tk l m t b j; omega) (fun j => qkw tk l m t b j) l.length i
      have a := F.at i
      have v1 : (if i < i then stM tk l m b i else m.getD i 0) = m.getD i 0 := if_neg (by omega)
      have v2 : (if i < i then stT tk l m t b i else t.getD i 0) = t.getD i 0 := if_neg (by omega)
      have e1 := qg9 tk l m b h
      have e2 := qha tk l m t b h
      simp (disch := omega) only [qaw, nth0, nth1, nth2, nth3, bit, qde, qdf, qdq, qdv, qdw, qdx, qdy, qdz, qd0, qd1, qdg, qdh, qdi, qdj, qdk, qdl, qdm, qdn, qdo, qdp, qdr, qds, qdt, qdu, qnn, qnm, qno, qko, qlb, qlc, qhh, qax, qm5, nI, qd7, qd5, Bool.not_true, Bool.not_false, Bool.and_true, Bool.true_and, Bool.and_false, Bool.false_and, Bool.or_true, Bool.true_or, Bool.or_false, Bool.false_or, beq_self_eq_true, dTT, dFF, dT, dF, bigI, big0, qkn, qn7, qn8, List.length_set, List.length_replicate, Int.toNat_natCast, qdc, qdd, imax, imin, qm9, qm8, qnb, v1, v2, e1, e2]
      exact IH
    · simp (disch := omega) only [qaw, nth0, nth1, nth2, nth3, bit, qde, qdf, qdq, qdv, qdw, qdx, qdy, qdz, qd0, qd1, qdg, qdh, qdi, qdj, qdk, qdl, qdm, qdn, qdo, qdp, qdr, qds, qdt, qdu, qnn, qnm, qno, qko, qlb, qlc, qhh, qax, qm5, nI, qd7, qd5, Bool.not_true, Bool.not_false, Bool.and_true, Bool.true_and, Bool.and_false, Bool.false_and, Bool.or_true, Bool.true_or, Bool.or_false, Bool.false_or, beq_self_eq_true, dTT, dFF, dT, dF, bigI, big0, qkn, qn7, qn8, List.length_set, List.length_replicate, Int.toNat_natCast, qdc, qdd, imax, imin, qm9]
      have q1 : tab l.length (fun j => if j < i then stM tk l m b j else m.getD j 0) = tab l.length (stM tk l m b) := qm7 fun j hj => by rw [if_pos (by omega)]
      have q2 : tab l.length (fun j => if j < i then stT tk l m t b j else t.getD j 0) = tab l.length (stT tk l m t b) := qm7 fun j hj => by rw [if_pos (by omega)]
      rw [q1, q2]
theorem qap {tk : Int} {l : List Cell} : (∀ i ∈ acts tk l, i + 1 < l.length ∧ qhi tk (qgx l i) = true) ∧ (acts tk l).length ≤ l.length - 1 := by
  refine ⟨fun i hi => ?_, qan tk l _ _⟩
  unfold acts at hi
  rw [qao] at hi
  exact ⟨by omega, hi.2⟩
theorem qg0 {tk : Int} {l : List Cell} {m b : List Int} {i : Nat} (h : i ∉ acts tk l) : ff tk l m b i = 0 := by
  unfold acts at h
  rw [qao] at h
  unfold ff qal
  by_cases g : i + 1 < l.length
  · have : qhi tk (qgx l i) = false := by
      rw [← Bool.not_eq_true]
      exact fun e => h ⟨⟨by omega, by omega⟩, e⟩
    rw [this]; simp
  · rw [dF g]; rfl
theorem qag (tk : Int) (l : List Cell) (m b : List Int) : tab l.length (Rk tk l m b (acts tk l)) = tab l.length (rgt tk l m b) := qm7 fun j hj => by
  unfold Rk
  by_cases g : j ∈ acts tk l
  · rw [if_pos g]
  · rw [if_neg g]; unfold rgt; rw [qg0 g]; rfl
theorem qac (tk : Int) (l : List Cell) (m b : List Int) : tab l.length (Lk tk l m b (acts tk l)) = tab l.length (lft tk l m b) := qm7 fun j hj => by
  unfold Lk
  by_cases g : 1 ≤ j ∧ j - 1 ∈ acts tk l
  · rw [if_pos g]
  · rw [if_neg g]; unfold lft
    by_cases g2 : 1 ≤ j
    · rw [if_pos g2, qg0 (fun e => g ⟨g2, e⟩)]; rfl
    · rw [if_neg g2]
theorem qah (tk : Int) (l : List Cell) (m b : List Int) : List.replicate l.length (0 : Int) = tab l.length (Rk tk l m b []) := by
  rw [qnc]
  exact qm7 fun j hj => by unfold Rk; rw [if_neg (by simp)]
theorem qad (tk : Int) (l : List Cell) (m b : List Int) : List.replicate l.length (0 : Int) = tab l.length (Lk tk l m b []) := by
  rw [qnc]
  exact qm7 fun j hj => by unfold Lk; rw [if_neg (by simp)]
theorem qbr (k : Nat) (hk : 2000000 ≤ k) (z1 z2 z3 z4 z5 : Bool) (r : Int) (l : List Cell) (m t b : List Int) (tk : Int) (F : StF r l m t b) :
    go (k + 6) impl_State_move [.ptr true [.int .i64 (r), .arr true (z1) (.r3 (l)), .arr true (z2) (.ints .i64 (m)), .arr true (z3) (.ints .i64 (t)), .arr true (z4) (.ints .i64 (b))], .arr false z5 (.ints .i64 (nats (acts tk l)))] = some [.ptr true [.int .i64 (r), .arr true (z1) (.r3 (l)), .arr true (z2) (.ints .i64 (tab l.length (stM tk l m b))), .arr true (z3) (.ints .i64 (tab l.length (stT tk l m t b))), .arr true (z4) (.ints .i64 (b))]] := by
  rw [qez]
  have hl := F.len; have hm := F.ml; have ht := F.tl
  have ao := qap (tk := tk) (l := l)
  have e1 := qjc k hk [] r z1 l z2 m z3 t z4 b z1 z2 z3 z4 z5 r l m t b tk F (acts tk l) ao.1 (by omega) (k + 5) 0 (by omega) (by omega)
  have e2 := qja k hk [] r z1 l z2 m z3 t z4 b z1 z2 z3 z4 r l m t b tk F (k + 5) 0 (by omega) (by omega)
  have e3 := qjb k hk [] r z1 l z2 m z3 t z4 b z1 z2 z3 z4 r l m t b tk F (k + 5) 0 (by omega) (by omega)
  rw [List.take_zero, ← qah, ← qad, qag, qac] at e1
  rw [← qhd, ← qhd] at e2
  have q1 : tab l.length (fun j => if j < 0 then stM tk l m b j else m.getD j 0) = m := by
    refine Eq.trans (qm7 fun j hj => ?_) (hm ▸ (qna m).symm)
    rw [if_neg (by omega)]
  have q2 : tab l.length (fun j => if j < 0 then stT tk l m t b j else t.getD j 0) = t := by
    refine Eq.trans (qm7 fun j hj => ?_) (ht ▸ (qna t).symm)
    rw [if_neg (by omega)]
  rw [q1, q2] at e3
  have nl := qkl (acts tk l)
  simp (disch := omega) only [qaw, nth0, nth1, nth2, nth3, bit, qde, qdf, qdq, qdv, qdw, qdx, qdy, qdz, qd0, qd1, qdg, qdh, qdi, qdj, qdk, qdl, qdm, qdn, qdo, qdp, qdr, qds, qdt, qdu, qnn, qnm, qno, qko, qlb, qlc, qhh, qax, qm5, nI, qd7, qd5, Bool.not_true, Bool.not_false, Bool.and_true, Bool.true_and, Bool.and_false, Bool.false_and, Bool.or_true, Bool.true_or, Bool.or_false, Bool.false_or, beq_self_eq_true, dTT, dFF, dT, dF, bigI, big0, qkn, qn7, qn8, List.length_set, List.length_replicate, Int.toNat_natCast, qdc, qdd, imax, imin, nl, hm]
  exact e1.trans (e2.trans e3)
theorem qbe (k : Nat) (hk : 2000000 ≤ k) (r : Int) (l : List Cell) (m t b : List Int) (tk : Int) (F : StF r l m t b) (h0 : 0 ≤ tk) :
    go (k + 9) impl_StepState [.agg [.int .i64 (r), .arr false (false) (.r3 (l)), .arr false (false) (.ints .i64 (m)), .arr false (false) (.ints .i64 (t)), .arr false (false) (.ints .i64 (b))], .int .i64 tk] = some [.agg [.int .i64 (r), .arr true (false) (.r3 (l)), .arr true (false) (.ints .i64 (tab l.length (stM tk l m b))), .arr true (false) (.ints .i64 (tab l.length (stT tk l m t b))), .arr true (false) (.ints .i64 (b))]] := by
  rw [qe3]
  have hl := F.len; have hm := F.ml; have ht := F.tl; have hb := F.bl; have hr := F.rr
  have g := stF.2 F
  have e := qbr (k + 8 - 6) (by omega) false false false false false r l m t b tk F
  rw [show k + 8 - 6 + 6 = k + 8 by omega] at e
  simp (disch := omega) only [qaw, nth0, nth1, nth2, nth3, bit, qde, qdf, qdq, qdv, qdw, qdx, qdy, qdz, qd0, qd1, qdg, qdh, qdi, qdj, qdk, qdl, qdm, qdn, qdo, qdp, qdr, qds, qdt, qdu, qnn, qnm, qno, qko, qlb, qlc, qhh, qax, qm5, nI, qd7, qd5, Bool.not_true, Bool.not_false, Bool.and_true, Bool.true_and, Bool.and_false, Bool.false_and, Bool.or_true, Bool.true_or, Bool.or_false, Bool.false_or, beq_self_eq_true, dTT, dFF, dT, dF, bigI, big0, qkn, qn7, qn8, List.length_set, List.length_replicate, Int.toNat_natCast, qdc, qdd, imax, imin, qbj, qbd, g, qbh, e, qk5, qk6, qk7, qk8, qk9]
end Go.Proofs.Ytcaapedadpnjoaa
end
section
namespace Go.Proofs.Ytcaapedadpnjoaa
open Go Go.RowKit Go.Ev
def stp (t : Int) : List RC → List RC
  | [.n r, .r3 _ l, .is _ m, .is _ q, .is _ b] => [.n r, .r3 false l, .is false (tab l.length (stM t l m b)), .is false (tab l.length (stT t l m q b)), .is false b]
  | r => r
theorem qks {t : Int} {r : List RC} (h : okSt r = true) : okSt (stp t r) = true := by
  unfold okSt at h
  split at h
  · simp only [Bool.and_eq_true, decide_eq_true_eq] at h
    simp only [stp, okSt, qm9, h, decide_true, Bool.and_true]
  · cases h
theorem qm4 {f d : Nat} {t : Int} (hc : ∀ (r : Int) (l : List Cell) (m q b : List Int), StF r l m q b → go (2000000 + d) f [.agg [.int .i64 r, .arr false false (.r3 l), .arr false false (.ints .i64 m), .arr false false (.ints .i64 q), .arr false false (.ints .i64 b)], .int .i64 t] = some [.agg [.int .i64 r, .arr true false (.r3 l), .arr true false (.ints .i64 (tab l.length (stM t l m b))), .arr true false (.ints .i64 (tab l.length (stT t l m q b))), .arr true false (.ints .i64 b)]])
    (hm : An.mode f = []) {r : List RC} (hok : okSt r = true) (hcp : cpSt r = r) (hst : qm0 r = true) {W : World} {us : List Value} (hr : RowL W zSt us r) :
    Calls Try.prog f #[.agg us.toArray, .int .i64 t] W fun e W' => ∃ (vs : List Value) (F : Feet), e = .returned (.agg vs.toArray) ∧ RepDs W' (dsO (stp t r)) vs F ∧ Ev.Sep F ∧ (∀ b off, ownOf F b off → W.heap.size ≤ b) ∧ RowKit.Below W.heap.size W W' := by
  unfold okSt at hok
  split at hok
  · rename_i r0 z1 l z2 m z3 q z4 b
    simp only [cpSt, List.cons.injEq, RC.r3.injEq, RC.is.injEq, and_true, true_and] at hcp
    obtain ⟨h1, h2, h3, h4⟩ := hcp
    subst h1; subst h2; subst h3; subst h4
    obtain ⟨_, F, hF, sF⟩ := ds_of_row hr
    have e1 : ev Try.prog An (2000000 + d) f [.agg (dsR [.n r0, .r3 false l, .is false m, .is false q, .is false b]), .int .i64 t] = some [.agg (dsO (stp t [.n r0, .r3 false l, .is false m, .is false q, .is false b]))] := hc r0 l m q b (stF.1 hst)
    have ct := ev_contract good noExt e1
    rw [hm] at ct
    refine (ct.one (args := #[.agg us.toArray, .int .i64 t]) (F := F) (by
      simp only [RepDs, RepD]
      exact ⟨_, _, F, [], rfl, (List.append_nil F).symm, ⟨us.toArray, rfl, by simpa using hF⟩, _, [], [], [], rfl, rfl, ⟨rfl, rfl⟩, rfl, rfl⟩) sF).mono ?_
    rintro e' W' ⟨v, F', rfl, hv, hs, hn, hb⟩
    simp only [RepD] at hv
    obtain ⟨va, rfl, hv⟩ := hv
    exact ⟨va.toList, F', by simp, hv, hs, hn, hb⟩
  · cases hok
def StA (w : World) (l : List (List RC)) (t : Int) (k : Nat) (u : Value) (wr : World) : Prop := ∃ (B : Nat) (e : TypeId) (uss : List (List Value)), wr.ownsRow 0 e 5 u k uss.flatten ∧ u.ownBlock = some B ∧ w.heap.size ≤ B ∧ B < wr.heap.size ∧
  OwnR wr B w.heap.size uss ((l.take k).map (stp t)) wr.heap.size ∧ RowKit.Below w.heap.size w wr
theorem StA.start {w W : World} {l : List (List RC)} {t : Int} {el : TypeId} (hb : RowKit.Below w.heap.size w W) : StA w l t 0 (.slice (some ⟨W.heap.size, 0, none⟩) 0 0) (W.alloc (.cells #[] el)) := by
  have hs := hb.size
  have hh : (W.alloc (.cells #[] el)).heap[W.heap.size]? = some (.cells #[] el (0, 0)) := heap_alloc_new W _
  have sz : (W.alloc (.cells #[] el)).heap.size = W.heap.size + 1 := by simp
  refine ⟨W.heap.size, el, [], ⟨by simp, .inr ⟨W.heap.size, 0, #[], rfl, Nat.zero_le _, hh, Nat.le_refl _, by simp, by simp, by simp⟩⟩, rfl, hs, by omega, ?_, ?_⟩
  · rw [List.take_zero]
    show w.heap.size ≤ _
    omega
  · exact qg3 ((fr_of_below (M := fun _ _ => False) hb).trans ((fr_alloc W _).mono fun _ _ _ h => h.elim)) fun _ _ _ h => h
end Go.Proofs.Ytcaapedadpnjoaa
end
section
namespace Go.Proofs.Ytcaapedadpnjoaa
open Go Go.RowKit Go.Ev
theorem qne {f : List RC → List RC} {l : List (List RC)} {i : Nat} (h : i < l.length) : (l.take (i + 1)).map f = (l.take i).map f ++ [f (rrow l i)] := by
  rw [List.take_succ_eq_append_getElem h, List.map_append, rrow, List.getD_eq_getElem?_getD, List.getElem?_eq_getElem h]; rfl
theorem qkq {r : List RC} (hok : okSt r = true) {w : World} {us : List Value} {F : Feet} (h : RepDs w (dsO r) us F) : us.length = 5 := (qef hok h).len.1
theorem StA.next {i : TypeInfo} {z : Value} (hi : Try.prog.info? 33 = some i) (hz : i.zero = some z) (hzs : z.cells.size = 5) (hsz : i.size = 5) (hby : i.bytes = 104) {w wr W : World} {l : List (List RC)} {t : Int} {k : Nat} {u : Value} {vs : List Value} {F : Feet} (I : StA w l t k u wr) (hk : k < l.length) (hl : l.length ≤ 1048576)
    (hok : okSt (rrow l k) = true) (hb : RowKit.Below wr.heap.size wr W) (hv : RepDs W (dsO (stp t (rrow l k))) vs F) (hs : Ev.Sep F) (hn : ∀ b off, ownOf F b off → wr.heap.size ≤ b) (ty : TypeId) :
    vs.length = 5 ∧ ∃ (u' : Value) (W3 : World), (Builtin.append_ #[24, 24] ty #[u, .slice (some ⟨W.heap.size, 0, none⟩) 1 1]).run Try.prog (W.alloc (.cells vs.toArray 33)) = .ok u' W3 ∧ StA w l t (k + 1) u' W3 := by
  obtain ⟨B, e, uss, h1, h2, h3, h4, h5, h6⟩ := I
  have hok' := qks (t := t) hok
  have v5 := qkq hok' hv
  have hone := (qef hok' hv).one
  refine ⟨v5, ?_⟩
  have hbs := hb.size
  obtain ⟨W2, hW2⟩ : ∃ W2, W2 = W.alloc (.cells vs.toArray 33) := ⟨_, rfl⟩
  have f2 : Fr (fun _ _ => False) W W2 := by rw [hW2]; exact (fr_alloc W _).mono fun _ _ _ h => h.elim
  have sz2 : W2.heap.size = W.heap.size + 1 := by rw [hW2]; simp
  have hh : W2.heap[W.heap.size]? = some (.cells vs.toArray 33 (0, 0)) := by rw [hW2]; exact heap_alloc_new W _
  have hcell : ∀ j v, vs[j]? = some v → W2.cell? ((⟨W.heap.size, 0, none⟩ : Addr).add j) = some v := by
    intro j v hj
    rw [Addr.add_mid, Nat.zero_add]
    simp only [World.cell?, hh]
    simpa using hj
  rw [← hW2]
  have b12 : RowKit.Below wr.heap.size wr W2 := qg3 ((fr_of_below (M := fun _ _ => False) hb).trans f2) fun _ _ _ h => h
  have hown : W2.ownsRow 0 e i.size u k uss.flatten := by
    rw [hsz]
    refine ⟨h1.1, ?_⟩
    rcases h1.2 with h | ⟨g, cap, cur, a1, a2, a3, a4, a5, a6, a7⟩
    · exact .inl h
    · refine .inr ⟨g, cap, cur, a1, a2, ?_, a4, a5, a6, a7⟩
      have hg : g = B := by rw [a1] at h2; simpa [Value.ownBlock] using h2
      subst hg
      rw [b12.block g h4]; exact a3
  have hfc : ∀ w1, w1 = W2 ∨ w1 = W2.drew → (Builtin.firstCells i.size 1 (.slice (some ⟨W.heap.size, 0, none⟩) 1 1)).run Try.prog w1 = .ok vs.toArray w1 := by
    intro w1 hw1
    refine run_firstCells_some (P := Try.prog) w1 i.size 1 _ _ _ vs (by rw [hsz, v5]) ?_
    intro j v hj
    have hc : ∀ ad, w1.cell? ad = W2.cell? ad := by rcases hw1 with rfl | rfl <;> simp
    rw [hc]
    exact hcell j v hj
  obtain ⟨u', W3, e2, hrun, ho, hfr, hnil, hbk⟩ := append_any (P := Try.prog) (ty := ty) (w := W2) Try.underlying24 Try.underlying24 (by simp) hi hz (by rw [hzs, hsz]) (by omega) (u := u) (x := .slice (some ⟨W.heap.size, 0, none⟩) 1 1) (n := k) (m := 1) (xs := uss.flatten) (news := vs)
    (by simp [Builtin.lenOf]) hfc (by rw [hsz, v5]) hone hown (by unfold bigLen; omega) (by rw [hby]; omega)
  refine ⟨u', W3, hrun, ?_⟩
  rw [hsz] at ho
  have hub : u ≠ .slice none 0 0 := fun h => by rw [h] at h2; simp [Value.ownBlock] at h2
  have hu' : u' ≠ .slice none 0 0 := fun h => hub (hnil.1 h).1
  obtain ⟨B', hB'⟩ : ∃ B', u'.ownBlock = some B' := by
    rcases ho.2 with ⟨h, _⟩ | ⟨g, cap, cur, a1, _⟩
    · exact absurd h hu'
    · exact ⟨g, by rw [a1]; rfl⟩
  have hBB : B' = B ∨ W2.heap.size ≤ B' := by
    rcases hbk B' hB' with h | h
    · rw [h2] at h; exact .inl (Option.some.inj h).symm
    · exact .inr h
  have s3 := hfr.size
  have hlt : B' < W3.heap.size := (ho.lt B' hB').2
  have k1 : OwnR W B w.heap.size uss ((l.take k).map (stp t)) wr.heap.size := h5.frame (N := fun _ _ => False) (fr_of_below hb) fun _ _ _ _ _ h => h
  have k2 : OwnR W B w.heap.size (uss ++ [vs]) ((l.take k).map (stp t) ++ [stp t (rrow l k)]) W.heap.size := k1.snoc hok' hv hs (fun b off h => by
    have := hn b off h
    have := qed _ hv h
    omega) hbs
  have k3 : OwnR W3 B w.heap.size (uss ++ [vs]) ((l.take k).map (stp t) ++ [stp t (rrow l k)]) W.heap.size := (k2.frame f2 fun _ _ _ _ _ h => h).frame hfr fun b off _ _ h5 h => by
    rw [h2] at h
    exact h5 (Option.some.inj h).symm
  refine ⟨B', e2, uss ++ [vs], by rw [List.flatten_append]; simpa using ho, hB', by omega, hlt, ?_, ?_⟩
  · rw [qne hk]
    rcases hBB with rfl | h
    · exact k3.up (by omega)
    · exact (k3.move (by omega)).up (by omega)
  · exact qg3 (((fr_of_below (M := fun b _ => w.heap.size ≤ b) h6).trans (fr_of_below b12)).trans (hfr.mono fun b off _ h => by
      rw [h2] at h
      have := Option.some.inj h
      omega)) fun b off hb h => by omega
theorem StA.below {w wr W : World} {l : List (List RC)} {t : Int} {k : Nat} {u : Value} (I : StA w l t k u wr) (hb : RowKit.Below wr.heap.size wr W) : StA w l t k u W := by
  obtain ⟨B, e, uss, h1, h2, h3, h4, h5, h6⟩ := I
  have hbs := hb.size
  refine ⟨B, e, uss, ⟨h1.1, ?_⟩, h2, h3, by omega, (h5.frame (N := fun _ _ => False) (fr_of_below hb) fun _ _ _ _ _ h => h).up hbs, bel h6 hb⟩
  rcases h1.2 with h | ⟨g, cap, cur, a1, a2, a3, a4, a5, a6, a7⟩
  · exact .inl h
  · refine .inr ⟨g, cap, cur, a1, a2, ?_, a4, a5, a6, a7⟩
    have hg : g = B := by rw [a1] at h2; simpa [Value.ownBlock] using h2
    subst hg
    rw [hb.block g h4]; exact a3
theorem StA.none {w W : World} {l : List (List RC)} {t : Int} {u : Value} (I : StA w l t 0 u W) : StA w [] t ([] : List (List RC)).length u W := by
  obtain ⟨B, e, uss, h1, h2, h3, h4, h5, h6⟩ := I
  exact ⟨B, e, uss, h1, h2, h3, h4, by rw [List.take_zero] at h5; exact h5, h6⟩
theorem StA.bel {w W : World} {l : List (List RC)} {t : Int} {k : Nat} {u : Value} (I : StA w l t k u W) : RowKit.Below w.heap.size w W := by
  obtain ⟨_, _, _, _, _, _, _, _, h6⟩ := I
  exact h6
theorem StA.out {w W : World} {l : List (List RC)} {t : Int} {u : Value} (I : StA w l t l.length u W) : Out W w.heap.size W.heap.size (l.map (stp t)) u := by
  obtain ⟨B, e, uss, h1, h2, h3, h4, h5, h6⟩ := I
  rw [List.take_length] at h5
  rcases h1.2 with ⟨h, _⟩ | ⟨g, cap, cur, a1, a2, a3, a4, a5, a6, a7⟩
  · rw [h] at h2; simp [Value.ownBlock] at h2
  · have hg : g = B := by rw [a1] at h2; simpa [Value.ownBlock] using h2
    subst hg
    refine ⟨g, cap, uss, h5, .inr ⟨by rw [List.length_map]; exact a1, by rw [List.length_map]; exact a4, h3, h4, fun j v hj => ?_, fun j hj => ?_⟩⟩
    · have := h1.cells h2 j v hj
      rwa [Addr.add_mid] at this
    · rw [List.length_map] at hj
      have hjc : j < cur.size := by
        have : l.length * 5 ≤ cap * 5 := Nat.mul_le_mul_right _ a4
        omega
      refine ⟨?_, ?_⟩
      · simp only [World.cell?, a3, Nat.zero_add]
        rw [Array.getElem?_eq_getElem hjc]; rfl
      · simp [World.frozen?, a3]
end Go.Proofs.Ytcaapedadpnjoaa
end
section
namespace Go.Proofs.Ytcaapedadpnjoaa
open Go Go.RowKit Go.Ev
theorem qhg : ∃ i z, Try.prog.info? 33 = some i ∧ i.zero = some z ∧ z.cells.size = 5 ∧ i.size = 5 ∧ i.bytes = 104 := by
  have e : (Try.prog.info? 33).map (fun i => (i.zero, i.size, i.bytes)) = some (some (.agg #[.int .i64 0, .slice none 0 0, .slice none 0 0, .slice none 0 0, .slice none 0 0]), 5, 104) := by kernel_rfl
  obtain ⟨i, h1, h2⟩ := Option.map_eq_some_iff.1 e
  simp only [Prod.mk.injEq] at h2
  exact ⟨i, _, h1, h2.1, by kernel_rfl, h2.2.1, h2.2.2⟩
theorem qn5 {P : Program} {ops : Array Oper} {rest : List Oper} {o : Oper} {a : Act} {Q : Exit → Act → World → Prop} {w : World} (hgd : o.guard = none) (s x : Operand) (t : TypeId)
    (ho : o.op = .call { callee := .builtin .append, args := #[s, x], argTypes := #[t, t] }) (v xv : Value) (hs : a.eval s = v) (hx : a.eval x = xv) (v' : Value) (w' : World) (hr : (Builtin.append_ #[t, t] o.type #[v, xv]).run P w = .ok v' w')
    (h : wpList P ops Q rest (a.put o.dst v') w') : wpList P ops Q (o :: rest) a w :=
  wpList_plain hgd fun _ hK => by
    unfold Oper.wp execOp
    simp only [ho, resolve, invoke, builtin, Sem.run_bind, Sem.run_pure, Result.andThen_ok, List.map_toArray, List.map_cons, List.map_nil, hs, hx, hr]
    exact hK _ _ h
theorem qn6 {P : Program} {ops : Array Oper} {rest : List Oper} {o : Oper} {a : Act} {Q : Exit → Act → World → Prop} {w : World} (hgd : o.guard = none) (t : TypeId) (x : Operand)
    (ho : o.op = .buildSlice t 1 #[(0, x)]) (xv : Value) (hx : a.eval x = xv) (v' : Value) (w' : World) (hr : (Instr.buildSlice t 1 #[(0, xv)]).run P w = .ok v' w')
    (h : wpList P ops Q rest (a.put o.dst v') w') : wpList P ops Q (o :: rest) a w :=
  wpList_plain hgd fun _ hK => by
    unfold Oper.wp execOp
    simp only [ho, Sem.run_bind, Sem.run_pure, Result.andThen_ok, List.map_toArray, List.map_cons, List.map_nil, hx, hr]
    exact hK _ _ h
theorem qln (w : World) : (Instr.buildSlice 24 0 #[]).run Try.prog w = .ok (.slice (some ⟨w.heap.size, 0, none⟩) 0 0) (w.alloc (.cells #[] 33)) := by
  obtain ⟨i, z, hi, hz, hzs, hsz, hby⟩ := qhg
  have hun := run_underlying (P := Try.prog) (w := w) Try.underlying24
  simp [Instr.buildSlice, hun, sizeOf, typeInfo, hi, Instr.fill, newRow]
  rw [show Array.map (fun x => (default : Value)) (Array.range 0) = #[] from Array.ext' (by rw [Array.toList_map, Array.toList_range]; rfl)]
theorem qg1 (f : Nat → Value) (vs : List Value) (h5 : vs.length = 5) : Instr.fill (fun i => some (i * 5, 5)) ((Array.range (1 * 5)).map f) [(0, .agg vs.toArray)] = some vs.toArray := by
  match vs, h5 with
  | [a, b, c, d, e], _ =>
    rw [show (Array.range (1 * 5)).map f = #[f 0, f 1, f 2, f 3, f 4] from Array.ext' (by rw [Array.toList_map, Array.toList_range]; rfl)]
    rfl
theorem qlo (w : World) (vs : List Value) (h5 : vs.length = 5) : (Instr.buildSlice 24 1 #[(0, .agg vs.toArray)]).run Try.prog w = .ok (.slice (some ⟨w.heap.size, 0, none⟩) 1 1) (w.alloc (.cells vs.toArray 33)) := by
  obtain ⟨i, z, hi, hz, hzs, hsz, hby⟩ := qhg
  refine run_buildSlice w 24 33 1 _ _ i z Try.underlying24 hi hz (by rw [hsz]; omega) (by rw [hsz]; omega) ?_
  rw [hsz]
  exact qg1 _ vs h5
set_option maxRecDepth 100000 in
set_option maxHeartbeats 4000000 in
theorem qmn {l : List (List RC)} {t : Int} (hl : l.length ≤ 1048576) (hok : ∀ i, i < l.length → okSt (rrow l i) = true) (hcp : ∀ i, i < l.length → cpSt (rrow l i) = rrow l i) (hln : ∀ i, i < l.length → qim (rrow l i)) {w : World} {v : Value} {F : Feet} (hd : RepD w (.rows false zSt l) v F) (sF : Still F) :
    Calls Try.prog 34 #[v, .int .i64 t] w fun e w' => ∃ u, e = .returned (.tuple #[u, .bool (askE l && decide (0 ≤ t))]) ∧ Out w' w.heap.size w'.heap.size (cond (askE l && decide (0 ≤ t)) (l.map (stp t)) []) u ∧ RowKit.Below w.heap.size w w' := by
  obtain ⟨i, z, hi, hz, hzs, hsz, hby⟩ := qhg
  have hb0 := qln
  obtain ⟨q, hq⟩ : ∃ q, ∃ _ : Unit, askE l = q := ⟨_, (), rfl⟩
  have cA : Contract Try.prog 59 [] [.rows false zSt l] [.bool q] := by
    obtain ⟨_, h⟩ := hq
    rw [← h]
    have e1 : ev Try.prog An (2000000 + 8) 59 [.rows false zSt l] = some [.bool (askE l)] := qay 2000000 (by omega) false l hln
    exact ev_contract good noExt e1
  have b0 : RowKit.Below w.heap.size w (w.alloc (.cells #[] 33)) := qg3 (fr_alloc w _) fun _ _ _ h => h
  have kA := cA.bool (args := #[v]) (one' (RepD.below b0 hd)) sF
  have hI0 : StA w l t 0 (.slice (some ⟨w.heap.size, 0, none⟩) 0 0) (w.alloc (.cells #[] 33)) := StA.start (RowKit.Below.refl _ _)
  have hpost : (∃ _ : Unit, (askE l && decide (0 ≤ t)) = (q && decide (0 ≤ t))) := by obtain ⟨_, h⟩ := hq; exact ⟨(), by rw [h]⟩
  suffices hS : Calls Try.prog 34 #[v, .int .i64 t] w fun e w' => ∃ u, e = .returned (.tuple #[u, .bool (q && decide (0 ≤ t))]) ∧ Out w' w.heap.size w'.heap.size (cond (q && decide (0 ≤ t)) (l.map (stp t)) []) u ∧ RowKit.Below w.heap.size w w' by
    obtain ⟨_, h⟩ := hpost
    rw [h]; exact hS
  go_enter Try.func34, Try.ntmps34
  go_wp2_with (go_at_call 59; refine kA.mono ?_)
  rintro e W1 ⟨rfl, b1⟩
  have I1 := hI0.below b1
  cases q
  · go_wp2
    go_ret2
    exact ⟨_, rfl, I1.none.out, bel b0 b1⟩
  by_cases ht : t < 0
  · have hdt : decide (t < 0) = true := decide_eq_true ht
    have hdt' : decide (0 ≤ t) = false := decide_eq_false (by omega)
    go_wp2
    go_ret2
    rw [hdt']
    exact ⟨_, rfl, I1.none.out, bel b0 b1⟩
  have hdt : decide (t < 0) = false := decide_eq_false ht
  have hdt' : decide (0 ≤ t) = true := decide_eq_true (by omega)
  have hst : ∀ i, i < l.length → qm0 (rrow l i) = true := by
    obtain ⟨_, h⟩ := hq
    unfold askE at h
    rw [Bool.and_eq_true] at h
    exact fun i hi => (qas h.2 i (by omega) (by omega)).1
  simp only [RepD] at hd
  obtain ⟨p, rfl, ⟨q1, q2, q3, q4, q5, _, q7⟩, _⟩ := hd
  rw [← q1] at *
  go_wp2
  go_loopw [6, 7] (fun u i wr => ∃ k : Nat, k ≤ l.length ∧ i = .int .i64 k ∧ StA w l t k u wr) (fun _ i _ => l.length - (RowKit.intOf i).toNat)
  case atStart => exact ⟨0, Nat.zero_le _, rfl, I1⟩
  case round =>
    obtain ⟨k, hk, rfl, hI⟩ := hrel
    by_cases hlt : k < l.length
    · obtain ⟨x, hx⟩ : ∃ x, p.base = some x := by
        cases h : p.base with
        | none => have := (q4 h).2; omega
        | some x => exact ⟨x, rfl⟩
      obtain ⟨us, Ab, Ao, hA, u5, hra, hrow⟩ := qlh q7 (q5 x hx).2 hlt (fr_of_below hI.bel)
      have hcall := qm4 (t := t) (f := 67) (d := 5) (fun r l m q b hF => qda 2000000 (by omega) r false false false false l m q b hF t) (by kernel_rfl) (hok k hlt) (hcp k hlt) (hst k hlt) hrow
      have hcap := (q5 x hx).1
      rw [hx]
      go_wp2_with (first | (refine wp_load_mid _ _ rfl Ab Ao (by first | rfl | simp | simp [hA]) us _ hra Try.underlying33 rfl (by rw [u5]; kernel_rfl) ?_) | (refine wpList_load_mid rfl _ _ rfl Ab Ao (by first | rfl | simp | simp [hA]) us _ hra Try.underlying33 rfl (by rw [u5]; kernel_rfl) ?_))
      rename_i K hK
      refine hcall.mono ?_
      rintro e W ⟨vs, G, rfl, hv, hs, hn, hb⟩
      obtain ⟨v5, u', W3, hrun, nx⟩ := hI.next hi hz hzs hsz hby hlt hl (hok k hlt) hb hv hs hn 24
      have hb1 := qlo W vs v5
      clear hcall hra hrow hb0
      refine hK _ _ ?_
      refine qn6 rfl 24 (.tmp 29) rfl (.agg vs.toArray) rfl _ _ hb1 ?_
      refine qn5 rfl (.tmp 23) (.tmp 30) 24 rfl _ _ rfl rfl u' W3 hrun ?_
      clear hK hb1 hrun hv hs hn hI
      go_wp2
      go_roundw
      case rel => exact ⟨k + 1, by omega, by go_num, nx⟩
      case measure => simp [RowKit.intOf]; omega
    · obtain rfl : k = l.length := by omega
      go_wp2
      go_ret2
      rw [hdt']
      exact ⟨_, rfl, hI.out, hI.bel⟩
end Go.Proofs.Ytcaapedadpnjoaa
end
section
namespace Go.Proofs.Ytcaapedadpnjoaa
open Go Go.RowKit Go.Ev
theorem qll {r : List RC} (h : All2 RcFit zSt r) : qil r ∧ (qim r → okSt r = true ∧ okSt (cpSt r) = true ∧ qim (cpSt r) ∧ (rcAt (cpSt r) 2).nil = false) := by
  cases h with | cons h0 h => cases h with | cons h1 h => cases h with | cons h2 h => cases h with | cons h3 h => cases h with | cons h4 h => cases h with | nil =>
  rename_i a0 a1 a2 a3 a4
  cases a0 <;> first | exact h0.elim | skip
  cases a1 <;> first | exact h1.elim | skip
  cases a2 <;> first | exact h2.elim | skip
  cases a3 <;> first | exact h3.elim | skip
  cases a4 <;> first | exact h4.elim | skip
  refine ⟨⟨?_, ?_, ?_, ?_⟩, fun ok => ⟨?_, ?_, ok, rfl⟩⟩
  · have := h1.2.1
    simp only [maxLen] at this
    show ((_ : List (Int × Int × Int)).length : Int) ≤ _
    simp only [rcAt, List.getD_cons_succ, List.getD_cons_zero, RC.r3s]; omega
  · have := h2.2.1
    simp only [maxLen] at this
    simp only [rcAt, List.getD_cons_succ, List.getD_cons_zero, RC.ints]; omega
  · have := h3.2.1
    simp only [maxLen] at this
    simp only [rcAt, List.getD_cons_succ, List.getD_cons_zero, RC.ints]; omega
  · have := h4.2.1
    simp only [maxLen] at this
    simp only [rcAt, List.getD_cons_succ, List.getD_cons_zero, RC.ints]; omega
  · obtain ⟨o1, o2, o3, o4⟩ := ok
    simp only [rcAt, List.getD_cons_succ, List.getD_cons_zero, RC.ints, RC.r3s] at o1 o2 o3 o4
    simp only [okSt, o1, o2, o3, o4, decide_true, Bool.and_true]
  · obtain ⟨o1, o2, o3, o4⟩ := ok
    simp only [rcAt, List.getD_cons_succ, List.getD_cons_zero, RC.ints, RC.r3s] at o1 o2 o3 o4
    simp only [cpSt, okSt, o1, o2, o3, o4, decide_true, Bool.and_true]
theorem qlm {f : List RC → List RC} {l : List (List RC)} {i : Nat} (h : i < l.length) : rrow (l.map f) i = f (rrow l i) := by
  simp [rrow, List.getD_eq_getElem?_getD, h]
theorem qgv {l : List (List RC)} (h : askE l = true) : ∀ i, i < l.length → (msR (rrow l i)).length = (msR (rrow l 0)).length := by
  intro i hi
  unfold askE at h
  rw [Bool.and_eq_true] at h
  obtain ⟨s1, s2⟩ := qas h.2 i (by omega) (by omega)
  obtain ⟨s3, _⟩ := qas h.2 0 (by omega) (by omega)
  have m1 := (stF.1 s1).ml
  have m0 := (stF.1 s3).ml
  unfold qmz qmo at s2
  simp only [Bool.and_eq_true, decide_eq_true_eq] at s2
  show (rcAt (rrow l i) 2).ints.length = (rcAt (rrow l 0) 2).ints.length
  rw [m1, m0, s2.2]
end Go.Proofs.Ytcaapedadpnjoaa
end
section
namespace Go.Proofs.Ytcaapedadpnjoaa
open Go Go.RowKit Go.Ev
theorem qkm (wr : World) (us : List Value) (u5 : us.length = 5) (hone : ∀ u ∈ us, u.oneCell' = true) : (storeCells ⟨wr.heap.size, 0, none⟩ us).run Try.prog (wr.alloc (.cells #[.int .i64 0, .slice none 0 0, .slice none 0 0, .slice none 0 0, .slice none 0 0] 33)) = .ok () ((wr.alloc (.cells #[.int .i64 0, .slice none 0 0, .slice none 0 0, .slice none 0 0, .slice none 0 0] 33)).setCells wr.heap.size 0 us) ∧
    ((wr.alloc (.cells #[.int .i64 0, .slice none 0 0, .slice none 0 0, .slice none 0 0, .slice none 0 0] 33)).setCells wr.heap.size 0 us).rangeAt wr.heap.size 0 us ∧ RowKit.Below wr.heap.size wr ((wr.alloc (.cells #[.int .i64 0, .slice none 0 0, .slice none 0 0, .slice none 0 0, .slice none 0 0] 33)).setCells wr.heap.size 0 us) := by
  obtain ⟨w1, hw1⟩ : ∃ w1, w1 = wr.alloc (.cells #[.int .i64 0, .slice none 0 0, .slice none 0 0, .slice none 0 0, .slice none 0 0] 33) := ⟨_, rfl⟩
  have hh : w1.heap[wr.heap.size]? = some (.cells #[.int .i64 0, .slice none 0 0, .slice none 0 0, .slice none 0 0, .slice none 0 0] 33 (0, 0)) := by rw [hw1]; exact heap_alloc_new wr _
  have f1 : Fr (fun _ _ => False) wr w1 := by rw [hw1]; exact fr_alloc wr _
  rw [← hw1]
  have ht : w1.there wr.heap.size 0 us.length := by
    intro j hj
    refine ⟨?_, by simp [World.frozen?, hh]⟩
    simp only [World.cell?, hh, Nat.zero_add]
    rw [Array.getElem?_eq_getElem (by simp; omega)]; rfl
  have hst := run_storeCells_cells (P := Try.prog) wr.heap.size 0 us 0 w1 (fun j hj => (ht j hj).1) (fun j hj => (ht j hj).2) hone
  have fs := qg4 ht hone
  refine ⟨hst, World.rangeAt_setCells_same w1 wr.heap.size 0 us ht, qg3 (((f1.mono fun _ _ _ h => h.elim).trans fs)) fun b off hb h => ?_⟩
  have := h.1
  omega
set_option maxRecDepth 100000 in
set_option maxHeartbeats 4000000 in
theorem qmm {l : List (List RC)} {t : Int} (hl : l.length ≤ 1048576) (hok : ∀ i, i < l.length → okSt (rrow l i) = true) (hcp : ∀ i, i < l.length → cpSt (rrow l i) = rrow l i) (hln : ∀ i, i < l.length → qim (rrow l i)) {w : World} {v : Value} {F : Feet} (hd : RepD w (.rows false zSt l) v F) (sF : Still F) :
    Calls Try.prog 31 #[v, .int .i64 t] w fun e w' => ∃ u, e = .returned (.tuple #[u, .bool (askE l && decide (0 ≤ t))]) ∧ Out w' w.heap.size w'.heap.size (cond (askE l && decide (0 ≤ t)) (l.map (stp t)) []) u ∧ RowKit.Below w.heap.size w w' := by
  obtain ⟨i, z, hi, hz, hzs, hsz, hby⟩ := qhg
  have hb0 := qln
  obtain ⟨q, hq⟩ : ∃ q, ∃ _ : Unit, askE l = q := ⟨_, (), rfl⟩
  have hz2 : ∀ i, i < l.length → (rcAt (rrow l i) 2).nil = false := fun i hi => by
    rw [← hcp i hi]
    have := hok i hi
    unfold okSt at this
    split at this
    · rename_i h; rw [h]; rfl
    · cases this
  obtain ⟨L0, L1, zi, cA⟩ : ∃ (L0 L1 : List Int) (zi : Bool), Contract Try.prog 11 [] [.rows false zSt l] [.arr true zi (.ints .i64 L0), .arr true zi (.ints .i64 L1), .bool q] := by
    obtain ⟨_, h⟩ := hq
    rw [← h]
    have h2 : ev Try.prog An (2000000 + 12) 11 [.rows false zSt l] = some (envD true l) := qa4 2000000 (by omega) false l (by omega) hln hz2 qgv
    rw [qgu] at h2
    exact ⟨_, _, _, ev_contract good noExt h2⟩
  have kA := Contract.env cA (args := #[v]) (one' hd) sF
  have hpost : (∃ _ : Unit, (askE l && decide (0 ≤ t)) = (q && decide (0 ≤ t))) := by obtain ⟨_, h⟩ := hq; exact ⟨(), by rw [h]⟩
  suffices hS : Calls Try.prog 31 #[v, .int .i64 t] w fun e w' => ∃ u, e = .returned (.tuple #[u, .bool (q && decide (0 ≤ t))]) ∧ Out w' w.heap.size w'.heap.size (cond (q && decide (0 ≤ t)) (l.map (stp t)) []) u ∧ RowKit.Below w.heap.size w w' by
    obtain ⟨_, h⟩ := hpost
    rw [h]; exact hS
  go_enter Try.func31, Try.ntmps31
  go_wp2_with (go_at_call 11; refine kA.mono ?_)
  rintro e W1 ⟨g0, g1, F0, F1, rfl, _, _, _, _, b1⟩
  clear kA cA
  have hb1s := b1.size
  have hnone : Out W1 w.heap.size W1.heap.size [] (.slice none 0 0) := ⟨0, 0, [], hb1s, .inl ⟨rfl, rfl⟩⟩
  cases q
  · go_wp2
    go_ret2
    exact ⟨_, rfl, hnone, b1⟩
  by_cases ht : t < 0
  · have hdt : decide (t < 0) = true := decide_eq_true ht
    have hdt' : decide (0 ≤ t) = false := decide_eq_false (by omega)
    go_wp2
    go_ret2
    rw [hdt']
    exact ⟨_, rfl, hnone, b1⟩
  have hdt : decide (t < 0) = false := decide_eq_false ht
  have hdt' : decide (0 ≤ t) = true := decide_eq_true (by omega)
  clear hnone
  have I1 : StA w l t 0 (.slice (some ⟨W1.heap.size, 0, none⟩) 0 0) (W1.alloc (.cells #[] 33)) := StA.start b1
  have hst : ∀ i, i < l.length → qm0 (rrow l i) = true := by
    obtain ⟨_, h⟩ := hq
    unfold askE at h
    rw [Bool.and_eq_true] at h
    exact fun i hi => (qas h.2 i (by omega) (by omega)).1
  simp only [RepD] at hd
  obtain ⟨p, rfl, ⟨q1, q2, q3, q4, q5, _, q7⟩, _⟩ := hd
  rw [← q1] at *
  go_wp2
  go_loopw [9, 27] (fun u i wr => ∃ k : Nat, k ≤ l.length ∧ i = .int .i64 k ∧ StA w l t k u wr) (fun _ i _ => l.length - (RowKit.intOf i).toNat)
  case atStart => exact ⟨0, Nat.zero_le _, rfl, I1⟩
  case round =>
    obtain ⟨k, hk, rfl, hI⟩ := hrel
    by_cases hlt : k < l.length
    · obtain ⟨x, hx⟩ : ∃ x, p.base = some x := by
        cases h : p.base with
        | none => have := (q4 h).2; omega
        | some x => exact ⟨x, rfl⟩
      obtain ⟨us, Ab, Ao, hA, u5, hra, hrow⟩ := qlh q7 (q5 x hx).2 hlt (fr_of_below hI.bel)
      have hcap := (q5 x hx).1
      rw [hx]
      have hone := hrow.one
      obtain ⟨W2, hW2⟩ : ∃ W2, ∃ _ : Unit, W2 = (wr.alloc (.cells #[.int .i64 0, .slice none 0 0, .slice none 0 0, .slice none 0 0, .slice none 0 0] 33)).setCells wr.heap.size 0 us := ⟨_, (), rfl⟩
      obtain ⟨hst1, hra2, hb2⟩ : (storeCells ⟨wr.heap.size, 0, none⟩ us).run Try.prog (wr.alloc (.cells #[.int .i64 0, .slice none 0 0, .slice none 0 0, .slice none 0 0, .slice none 0 0] 33)) = .ok () W2 ∧ W2.rangeAt wr.heap.size 0 us ∧ RowKit.Below wr.heap.size wr W2 := by
        obtain ⟨_, e⟩ := hW2
        subst e
        exact qkm wr us u5 hone
      clear hW2
      have hrow2 : RowL W2 zSt us (rrow l k) := hrow.frame (N := fun _ _ => False) (fr_of_below hb2) fun _ _ _ h => h
      have hcall := qm4 (t := t) (f := 63) (d := 9) (fun r l m q b hF => qbe 2000000 (by omega) r l m q b t hF (by omega)) (by kernel_rfl) (hok k hlt) (hcp k hlt) (hst k hlt) hrow2
      clear hone hrow hb0
      go_wp2_with (first | (refine wp_load_mid _ _ rfl Ab Ao (by first | rfl | simp | simp [hA]) us _ hra Try.underlying33 rfl (by rw [u5]; kernel_rfl) ?_) | (refine wpList_load_mid rfl _ _ rfl Ab Ao (by first | rfl | simp | simp [hA]) us _ hra Try.underlying33 rfl (by rw [u5]; kernel_rfl) ?_) | (refine wpList_load_mid rfl _ _ rfl wr.heap.size 0 (by first | rfl | simp) us _ hra2 Try.underlying33 rfl (by rw [u5]; kernel_rfl) ?_))
      rename_i K hK
      refine hcall.mono ?_
      rintro e W ⟨vs, G, rfl, hv, hs, hn, hb⟩
      obtain ⟨v5, u', W3, hrun, nx⟩ := hI.next hi hz hzs hsz hby hlt hl (hok k hlt) (bel hb2 hb) hv hs (fun b off h => Nat.le_trans hb2.size (hn b off h)) 24
      have hb1 := qlo W vs v5
      clear hcall hra hra2 hrow2 hst1
      refine hK _ _ ?_
      refine qn6 rfl 24 (.tmp 34) rfl (.agg vs.toArray) rfl _ _ hb1 ?_
      refine qn5 rfl (.tmp 31) (.tmp 35) 24 rfl _ _ rfl rfl u' W3 hrun ?_
      clear hK hb1 hrun hv hs hn hI
      go_wp2
      go_roundw
      case rel => exact ⟨k + 1, by omega, by go_num, nx⟩
      case measure => simp [RowKit.intOf]; omega
    · obtain rfl : k = l.length := by omega
      go_wp2
      go_ret2
      rw [hdt']
      exact ⟨_, rfl, hI.out, hI.bel⟩
end Go.Proofs.Ytcaapedadpnjoaa
end
section
namespace Go.Proofs.Ytcaapedadpnjoaa
open Go Go.RowKit Go.Ev
set_option maxRecDepth 20000
def qj6 (kk : Int) : List RC → List RC
  | [.n _, .r3 z1 l, .is z2 a, .is z3 b, .is z4 c] => [.n kk, .r3 z1 (qjq (kk + 1) l.length), .is z2 (marks (kk + 1 + 3 * l.length) a.length), .is z3 (marks (kk + 1 + 3 * l.length + a.length) b.length), .is z4 (marks (kk + 1 + 3 * l.length + a.length + b.length) c.length)]
  | r => r
def mkN : List RC → Int
  | [.n _, .r3 _ l, .is _ a, .is _ b, .is _ c] => 1 + 3 * l.length + a.length + b.length + c.length
  | _ => 0
def qj7 : Int → List (List RC) → List (List RC)
  | _, [] => []
  | kk, r :: l => qj6 kk r :: qj7 (kk + mkN r) l
def qkb : Int → List (List RC) → Int
  | kk, [] => kk
  | kk, r :: l => qkb (kk + mkN r) l
theorem qj4 (r0 : Int) (z1 z2 z3 z4 : Bool) (l : List Cell) (a b c : List Int) : mkN [.n r0, .r3 z1 l, .is z2 a, .is z3 b, .is z4 c] = 1 + 3 * l.length + a.length + b.length + c.length := rfl
theorem qj9 : ∀ (l : List (List RC)) (kk : Int), (qj7 kk l).length = l.length
  | [], kk => rfl
  | r :: l, kk => by simp only [qj7, List.length_cons, qj9 l]
theorem qka {r : List RC} : ∀ (l : List (List RC)) (kk : Int), qj7 kk (l ++ [r]) = qj7 kk l ++ [qj6 (qkb kk l) r]
  | [], kk => rfl
  | q :: l, kk => by simp only [List.cons_append, qj7, qkb, qka l]
theorem qkd {r : List RC} : ∀ (l : List (List RC)) (kk : Int), qkb kk (l ++ [r]) = qkb kk l + mkN r
  | [], kk => rfl
  | q :: l, kk => by simp only [List.cons_append, qkb, qkd l]
theorem qnd {l : List (List RC)} {i : Nat} (h : i < l.length) : l.take (i + 1) = l.take i ++ [rrow l i] := by
  rw [List.take_succ_eq_append_getElem h, rrow, List.getD_eq_getElem?_getD, List.getElem?_eq_getElem h]; rfl
theorem qj8 {kk : Int} : ∀ {l : List (List RC)} {i : Nat}, i < l.length → rrow (qj7 kk l) i = qj6 (qkb kk (l.take i)) (rrow l i)
  | [], i, h => by cases h
  | r :: l, 0, h => rfl
  | r :: l, i + 1, h => by
    have := qj8 (kk := kk + mkN r) (l := l) (i := i) (by simpa using h)
    simpa [qj7, qkb, rrow] using this
theorem qj5 {r : List RC} (h : okSt r = true) : 1 ≤ mkN r ∧ mkN r ≤ 6300000 := by
  unfold okSt at h
  split at h
  · simp only [Bool.and_eq_true, decide_eq_true_eq] at h
    rw [qj4]
    omega
  · cases h
theorem qkc : ∀ {l : List (List RC)} {kk : Int}, (∀ i, i < l.length → okSt (rrow l i) = true) → kk ≤ qkb kk l ∧ qkb kk l ≤ kk + 6300000 * l.length
  | [], kk, h => by simp [qkb]
  | r :: l, kk, h => by
    have h0 := qj5 (h 0 (by simp))
    have h1 := qkc (l := l) (kk := kk + mkN r) fun i hi => h (i + 1) (by simpa using hi)
    simp only [qkb, List.length_cons]
    have e0 : rrow (r :: l) 0 = r := rfl
    rw [e0] at h0
    omega
theorem qke {l : List (List RC)} (h : ∀ i, i < l.length → okSt (rrow l i) = true) (hl : l.length ≤ 1048576) {i : Nat} (hi : i ≤ l.length) : 1 ≤ qkb 1 (l.take i) ∧ qkb 1 (l.take i) ≤ 1 + 6300000 * i := by
  have hlen : (l.take i).length = i := by rw [List.length_take]; omega
  have := qkc (l := l.take i) (kk := 1) fun j hj => by
    rw [hlen] at hj
    have := h j (by omega)
    unfold rrow at this ⊢
    rw [List.getD_eq_getElem?_getD, List.getElem?_take, if_pos hj, ← List.getD_eq_getElem?_getD]
    exact this
  rw [hlen] at this
  exact this
theorem qit (k : Nat) (hk : 2000000 ≤ k) (fu : List (Nat × Nat)) (z : Bool) (l : List (List RC)) (hl : l.length ≤ 1048576) (hf : ∀ i, i < l.length → okSt (rrow l i) = true) : ∀ (m N i : Nat), i + m = l.length → m < N →
    lp (k + 1) laws_heldStateS [] fu 2 (N) (ql4 (qkb 1 (l.take i)) (i : Int) z (qj7 1 l)) = some [.int .i64 (qkb 1 l)]
  | 0, N + 1, i, hi, hN => by
    rw [qh0]
    have ln := qj9 l 1
    obtain rfl : i = l.length := by omega
    rw [List.take_length]
    simp (disch := omega) only [qaw, nth0, nth1, nth2, nth3, bit, qde, qdf, qdq, qdv, qdw, qdx, qdy, qdz, qd0, qd1, qdg, qdh, qdi, qdj, qdk, qdl, qdm, qdn, qdo, qdp, qdr, qds, qdt, qdu, qnn, qnm, qno, qko, qlb, qlc, qhh, qax, qm5, nI, qd7, qd5, Bool.not_true, Bool.not_false, Bool.and_true, Bool.true_and, Bool.and_false, Bool.false_and, Bool.or_true, Bool.true_or, Bool.or_false, Bool.false_or, beq_self_eq_true, dTT, dFF, dT, dF, bigI, big0, qkn, qn7, qn8, List.length_set, List.length_replicate, Int.toNat_natCast, qdc, qdd, imax, imin, ln]
  | m + 1, N + 1, i, hi, hN => by
    rw [qh0]
    have ln := qj9 l 1
    have IH := qit k hk fu z l hl hf m N (i + 1) (by omega) (by omega)
    have bd := qke hf hl (i := i) (by omega)
    have eg := qj8 (kk := 1) (l := l) (i := i) (by omega)
    have es : qkb 1 (l.take (i + 1)) = qkb 1 (l.take i) + mkN (rrow l i) := by rw [qnd (by omega), qkd]
    rw [es] at IH
    have ho := hf i (by omega)
    obtain ⟨s, hs⟩ : ∃ s, s = qkb 1 (l.take i) := ⟨_, rfl⟩
    rw [← hs] at IH bd eg ⊢
    obtain ⟨r, hr⟩ : ∃ r, r = rrow l i := ⟨_, rfl⟩
    rw [← hr] at IH ho eg
    clear hs hr es
    unfold okSt at ho
    split at ho
    · rename_i r0 z1 q z2 a z3 b z4 c
      simp only [Bool.and_eq_true, decide_eq_true_eq] at ho
      obtain ⟨h1, h2, h3, h4⟩ := ho
      have g0 : (rcAt (rrow (qj7 1 l) i) 0).num = s := by rw [eg]; rfl
      have n1 : (rcAt (rrow (qj7 1 l) i) 1).nil = z1 := by rw [eg]; rfl
      have n2 : (rcAt (rrow (qj7 1 l) i) 2).nil = z2 := by rw [eg]; rfl
      have n3 : (rcAt (rrow (qj7 1 l) i) 3).nil = z3 := by rw [eg]; rfl
      have n4 : (rcAt (rrow (qj7 1 l) i) 4).nil = z4 := by rw [eg]; rfl
      have g1 : (rcAt (rrow (qj7 1 l) i) 1).r3s = qjq (s + 1) q.length := by rw [eg]; rfl
      have g2 : (rcAt (rrow (qj7 1 l) i) 2).ints = marks (s + 1 + 3 * q.length) a.length := by rw [eg]; rfl
      have g3 : (rcAt (rrow (qj7 1 l) i) 3).ints = marks (s + 1 + 3 * q.length + a.length) b.length := by rw [eg]; rfl
      have g4 : (rcAt (rrow (qj7 1 l) i) 4).ints = marks (s + 1 + 3 * q.length + a.length + b.length) c.length := by rw [eg]; rfl
      have em : s + mkN [RC.n r0, .r3 z1 q, .is z2 a, .is z3 b, .is z4 c] = s + 1 + 3 * q.length + a.length + b.length + c.length := by rw [qj4]; omega
      rw [em] at IH
      have ss : decide (s = s) = true := decide_eq_true rfl
      simp (disch := omega) only [qaw, nth0, nth1, nth2, nth3, bit, qde, qdf, qdq, qdv, qdw, qdx, qdy, qdz, qd0, qd1, qdg, qdh, qdi, qdj, qdk, qdl, qdm, qdn, qdo, qdp, qdr, qds, qdt, qdu, qnn, qnm, qno, qko, qlb, qlc, qhh, qax, qm5, nI, qd7, qd5, Bool.not_true, Bool.not_false, Bool.and_true, Bool.true_and, Bool.and_false, Bool.false_and, Bool.or_true, Bool.true_or, Bool.or_false, Bool.false_or, beq_self_eq_true, dTT, dFF, dT, dF, bigI, big0, qkn, qn7, qn8, List.length_set, List.length_replicate, Int.toNat_natCast, qdc, qdd, imax, imin, ln, g0, g1, g2, g3, g4, n1, n2, n3, n4, ss, qb4, qb5]
      exact IH
    · cases ho
theorem qb6 (k : Nat) (hk : 2000000 ≤ k) (z : Bool) (l : List (List RC)) (hl : l.length ≤ 1048576) (hf : ∀ i, i < l.length → okSt (rrow l i) = true) : go (k + 2) laws_heldStateS [.rows z zSt (qj7 1 l), .int .i64 1] = some [.int .i64 (qkb 1 l)] := by
  rw [qfm]
  have e := qit k hk [] z l hl hf l.length (k + 1) 0 (by omega) (by omega)
  rw [show ((0 : Nat) : Int) = 0 from rfl, List.take_zero] at e
  exact e
end Go.Proofs.Ytcaapedadpnjoaa
end
