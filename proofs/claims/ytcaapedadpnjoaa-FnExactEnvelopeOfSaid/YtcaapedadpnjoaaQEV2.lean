/- What the program's functions compute, and plain facts of it (part 2). No condition beyond those that each theorem states. -/
import Derived.Test.YtcaapedadpnjoaaQEV1
set_option linter.unusedVariables false
set_option linter.unusedSimpArgs false
section
namespace Go.Proofs.Ytcaapedadpnjoaa
open Go.Ev
set_option maxRecDepth 20000
def mnL (m x : List Int) : List Int := List.zipWith min m x
def mxL (m x : List Int) : List Int := List.zipWith max m x
theorem qjb {f : Int → Int → Int} {m x : List Int} {j : Nat} (h : m.length = x.length) (hj : j < x.length) : (List.zipWith f m x).getD j 0 = f (m.getD j 0) (x.getD j 0) := by
  have hm : j < m.length := by omega
  simp [List.getD_eq_getElem?_getD, List.getElem?_zipWith, hj, hm]
theorem qjc {f : Int → Int → Int} {m x : List Int} {j : Nat} (h : m.length = x.length) (hj : j < x.length) : ((List.zipWith f m x).take j ++ x.drop j).getD j 0 = x.getD j 0 := by
  have hl : ((List.zipWith f m x).take j).length = j := by rw [List.length_take, List.length_zipWith]; omega
  rw [List.getD_eq_getElem?_getD, List.getElem?_append_right (by omega), hl, Nat.sub_self, List.getElem?_drop, Nat.add_zero, ← List.getD_eq_getElem?_getD]
theorem qje {f : Int → Int → Int} {m x : List Int} {j : Nat} (h : m.length = x.length) (hj : j < x.length) : ((List.zipWith f m x).take j ++ x.drop j).set j (f (m.getD j 0) (x.getD j 0)) = (List.zipWith f m x).take (j + 1) ++ x.drop (j + 1) := by
  have zl : (List.zipWith f m x).length = x.length := by rw [List.length_zipWith]; omega
  have hl : ((List.zipWith f m x).take j).length = j := by rw [List.length_take]; omega
  rw [List.set_append_right _ _ (by omega), hl, Nat.sub_self, qcz hj 0, List.set_cons_zero, List.take_succ_eq_append_getElem (by omega), List.append_assoc]
  congr 1
  have := qjb (f := f) h hj
  rw [List.getD_eq_getElem?_getD, List.getElem?_eq_getElem (by omega)] at this
  simp only [Option.getD_some] at this
  rw [this]; rfl
theorem qjd {f : Int → Int → Int} {m x : List Int} (h : m.length = x.length) (j : Nat) : ((List.zipWith f m x).take j ++ x.drop j).length = x.length := by
  rw [List.length_append, List.length_take, List.length_zipWith, List.length_drop]; omega
set_option maxHeartbeats 2000000 in
theorem qf4 (k : Nat) (hk : 2000000 ≤ k) (fu : List (Nat × Nat)) (z : Bool) (l : List (List RC)) (hl : l.length ≤ 100) (i : Nat) (hi : i < l.length) (zm zl zh : Bool) (m lo up : List Int) (h1 : m.length = lo.length) (h2 : m.length = up.length) (hn : (m.length : Int) ≤ 1048576) : ∀ (N j : Nat), j ≤ m.length → m.length - j < N →
    lp (k + 11) impl_EnvelopeOf [] fu 8 (N) (qhq (l.length : Int) (i : Int) (m.length : Int) (j : Int) zl ((mnL m lo).take j ++ lo.drop j) zh ((mxL m up).take j ++ up.drop j) z l zm m) = lp (k + 11) impl_EnvelopeOf [] fu 5 (fuelOf fu 5) (qhp (l.length : Int) ((i + 1 : Nat) : Int) zl (mnL m lo) zh (mxL m up) z l)
  | 0, j, hj, hN => by omega
  | N + 1, j, hj, hN => by
    rw [qe4]
    have l1 := qjd (f := min) h1 j
    have l2 := qjd (f := max) h2 j
    by_cases g : j < m.length
    · have IH := qf4 k hk fu z l hl i hi zm zl zh m lo up h1 h2 hn N (j + 1) (by omega) (by omega)
      have c1 := qjc (f := min) h1 (show j < lo.length by omega)
      have c2 := qjc (f := max) h2 (show j < up.length by omega)
      have e1 := qje (f := min) h1 (show j < lo.length by omega)
      have e2 := qje (f := max) h2 (show j < up.length by omega)
      unfold mnL mxL at IH ⊢
      simp (disch := omega) only [qah, nth0, nth1, nth2, nth3, bit, qb3, qb4, qcf, qck, qcl, qcm, qcn, qco, qcp, qcq, qb5, qb6, qb7, qb8, qb9, qca, qcb, qcc, qcd, qce, qcg, qch, qci, qcj, qix, qiw, qiy, qg8, qhg, qhh, qe0, qai, qiq, nI, qcw, qcu, Bool.not_true, Bool.not_false, Bool.and_true, Bool.true_and, Bool.and_false, Bool.false_and, Bool.or_true, Bool.true_or, Bool.or_false, Bool.false_or, beq_self_eq_true, dTT, dFF, dT, dF, bigI, big0, qg7, qi9, qja, List.length_set, List.length_replicate, Int.toNat_natCast, qb1, qb2, imax, imin, l1, l2, c1, c2, e1, e2]
      exact IH
    · obtain rfl : j = m.length := by omega
      have t1 : (mnL m lo).take m.length ++ lo.drop m.length = mnL m lo := by
        rw [List.take_of_length_le (by unfold mnL; rw [List.length_zipWith]; omega), List.drop_eq_nil_of_le (by omega), List.append_nil]
      have t2 : (mxL m up).take m.length ++ up.drop m.length = mxL m up := by
        rw [List.take_of_length_le (by unfold mxL; rw [List.length_zipWith]; omega), List.drop_eq_nil_of_le (by omega), List.append_nil]
      rw [t1, t2]
      simp (disch := omega) only [qah, nth0, nth1, nth2, nth3, bit, qb3, qb4, qcf, qck, qcl, qcm, qcn, qco, qcp, qcq, qb5, qb6, qb7, qb8, qb9, qca, qcb, qcc, qcd, qce, qcg, qch, qci, qcj, qix, qiw, qiy, qg8, qhg, qhh, qe0, qai, qiq, nI, qcw, qcu, Bool.not_true, Bool.not_false, Bool.and_true, Bool.true_and, Bool.and_false, Bool.false_and, Bool.or_true, Bool.true_or, Bool.or_false, Bool.false_or, beq_self_eq_true, dTT, dFF, dT, dF, bigI, big0, qg7, qi9, qja, List.length_set, List.length_replicate, Int.toNat_natCast, qb1, qb2, imax, imin]
end Go.Proofs.Ytcaapedadpnjoaa
end
section
namespace Go.Proofs.Ytcaapedadpnjoaa
open Go.Ev
set_option maxRecDepth 20000
abbrev msR (r : List RC) : List Int := (rcAt r 2).ints
def envL (f : List Int → List Int → List Int) (l : List (List RC)) : Nat → Nat → List Int → List Int
  | 0, i, x => x
  | m + 1, i, x => envL f l m (i + 1) (f (msR (rrow l i)) x)
theorem qg3 {m x : List Int} (h : m.length = x.length) : (mnL m x).length = x.length := by unfold mnL; rw [List.length_zipWith]; omega
theorem qg5 {m x : List Int} (h : m.length = x.length) : (mxL m x).length = x.length := by unfold mxL; rw [List.length_zipWith]; omega
set_option maxHeartbeats 2000000 in
theorem qf3 (k : Nat) (hk : 2000000 ≤ k) (z zl zh : Bool) (l : List (List RC)) (hl : l.length ≤ 100) (n : Nat) (hn : (n : Int) ≤ 1048576) (hm : ∀ i, i < l.length → (msR (rrow l i)).length = n) : ∀ (m N i : Nat) (fu : List (Nat × Nat)) (lo up : List Int), i + m = l.length → lo.length = n → up.length = n → m < N →
    lp (k + 11) impl_EnvelopeOf [] fu 5 (N) (qhp (l.length : Int) (i : Int) zl lo zh up z l) = some [.arr true zl (.ints .i64 (envL mnL l m i lo)), .arr true zh (.ints .i64 (envL mxL l m i up)), .bool true]
  | 0, N + 1, i, fu, lo, up, hi, h1, h2, hN => by
    rw [qe3]
    simp (disch := omega) only [qah, nth0, nth1, nth2, nth3, bit, qb3, qb4, qcf, qck, qcl, qcm, qcn, qco, qcp, qcq, qb5, qb6, qb7, qb8, qb9, qca, qcb, qcc, qcd, qce, qcg, qch, qci, qcj, qix, qiw, qiy, qg8, qhg, qhh, qe0, qai, qiq, nI, qcw, qcu, Bool.not_true, Bool.not_false, Bool.and_true, Bool.true_and, Bool.and_false, Bool.false_and, Bool.or_true, Bool.true_or, Bool.or_false, Bool.false_or, beq_self_eq_true, dTT, dFF, dT, dF, bigI, big0, qg7, qi9, qja, List.length_set, List.length_replicate, Int.toNat_natCast, qb1, qb2, imax, imin]
    rfl
  | m + 1, N + 1, i, fu, lo, up, hi, h1, h2, hN => by
    rw [qe3, envL, envL]
    have hmi := hm i (by omega)
    have e8 := qf4 k hk ((5, N) :: fu) z l hl i (by omega) (rcAt (rrow l i) 2).nil zl zh (msR (rrow l i)) lo up (by omega) (by omega) (by omega) (k + 11) 0 (by omega) (by omega)
    rw [qev, List.take_zero, List.take_zero, List.drop_zero, List.drop_zero, List.nil_append, List.nil_append, show ((0 : Nat) : Int) = 0 from rfl] at e8
    have IH := qf3 k hk z zl zh l hl n hn hm m N (i + 1) fu (mnL (msR (rrow l i)) lo) (mxL (msR (rrow l i)) up) (by omega) (by rw [qg3 (by omega)]; exact h1) (by rw [qg5 (by omega)]; exact h2) (by omega)
    simp (disch := omega) only [qah, nth0, nth1, nth2, nth3, bit, qb3, qb4, qcf, qck, qcl, qcm, qcn, qco, qcp, qcq, qb5, qb6, qb7, qb8, qb9, qca, qcb, qcc, qcd, qce, qcg, qch, qci, qcj, qix, qiw, qiy, qg8, qhg, qhh, qe0, qai, qiq, nI, qcw, qcu, Bool.not_true, Bool.not_false, Bool.and_true, Bool.true_and, Bool.and_false, Bool.false_and, Bool.or_true, Bool.true_or, Bool.or_false, Bool.false_or, beq_self_eq_true, dTT, dFF, dT, dF, bigI, big0, qg7, qi9, qja, List.length_set, List.length_replicate, Int.toNat_natCast, qb1, qb2, imax, imin]
    exact e8.trans IH
end Go.Proofs.Ytcaapedadpnjoaa
end
section
namespace Go.Proofs.Ytcaapedadpnjoaa
open Go.Ev
set_option maxRecDepth 20000
theorem qae {l : List (List RC)} : ∀ {m i : Nat}, askF l m i = true → ∀ j, i ≤ j → j < i + m → qim (rrow l j) = true ∧ qil (rrow l j) (rrow l 0) = true
  | 0, i, h, j, h1, h2 => by omega
  | m + 1, i, h, j, h1, h2 => by
    rw [askF] at h
    simp only [Bool.and_eq_true] at h
    by_cases e : j = i
    · rw [e]; exact h.1
    · exact qae h.2 j (by omega) (by omega)
theorem qal (k : Nat) (hk : 2000000 ≤ k) (z z' : Bool) (l : List (List RC)) (hl : l.length ≤ 100) (hr : ∀ i, i < l.length → qfy (rrow l i)) : go (k + 11) slices_ContainsFunc_impl_State_impl_State [.rows z [.n, .r3, .is, .is, .is] l, .fn impl_EnvelopeOf_1 [.ptr false [.rows z' [.n, .r3, .is, .is, .is] l]]] = some [.bool (!askF l l.length 0)] := by
  obtain ⟨x, e, p⟩ := qf0 k (by omega) [] z z' l hl hr l.length (k + 9) 0 (by omega) (by omega)
  rw [show ((0 : Nat) : Int) = 0 from rfl] at e
  rw [qd5, ← p]
  simp (disch := omega) only [qah, nth0, nth1, nth2, nth3, bit, qb3, qb4, qcf, qck, qcl, qcm, qcn, qco, qcp, qcq, qb5, qb6, qb7, qb8, qb9, qca, qcb, qcc, qcd, qce, qcg, qch, qci, qcj, qix, qiw, qiy, qg8, qhg, qhh, qe0, qai, qiq, nI, qcw, qcu, Bool.not_true, Bool.not_false, Bool.and_true, Bool.true_and, Bool.and_false, Bool.false_and, Bool.or_true, Bool.true_or, Bool.or_false, Bool.false_or, beq_self_eq_true, dTT, dFF, dT, dF, bigI, big0, qg7, qi9, qja, List.length_set, List.length_replicate, Int.toNat_natCast, qb1, qb2, imax, imin, qd8, e]
def envD (zz : Bool) (l : List (List RC)) : List D := cond (askE l) [.arr true false (.ints .i64 (envL mnL l l.length 0 (msR (rrow l 0)))), .arr true false (.ints .i64 (envL mxL l l.length 0 (msR (rrow l 0)))), .bool true] [.arr true zz (.ints .i64 []), .arr true zz (.ints .i64 []), .bool false]
theorem qan (k : Nat) (hk : 2000000 ≤ k) (z : Bool) (l : List (List RC)) (hl : (l.length : Int) ≤ 1048576) (hr : ∀ i, i < l.length → qfy (rrow l i)) (hz : ∀ i, i < l.length → (rcAt (rrow l i) 2).nil = false) (hm : askE l = true → ∀ i, i < l.length → (msR (rrow l i)).length = (msR (rrow l 0)).length) :
    go (k + 12) impl_EnvelopeOf [.rows z [.n, .r3, .is, .is, .is] l] = some (envD true l) := by
  rw [qc3]
  unfold envD
  have t0 : Int.toNat 0 = 0 := rfl
  cases g : inR (l.length : Int) 1 100
  · rw [show askE l = false by unfold askE; rw [g]; rfl]
    simp (disch := omega) only [qah, nth0, nth1, nth2, nth3, bit, qb3, qb4, qcf, qck, qcl, qcm, qcn, qco, qcp, qcq, qb5, qb6, qb7, qb8, qb9, qca, qcb, qcc, qcd, qce, qcg, qch, qci, qcj, qix, qiw, qiy, qg8, qhg, qhh, qe0, qai, qiq, nI, qcw, qcu, Bool.not_true, Bool.not_false, Bool.and_true, Bool.true_and, Bool.and_false, Bool.false_and, Bool.or_true, Bool.true_or, Bool.or_false, Bool.false_or, beq_self_eq_true, dTT, dFF, dT, dF, bigI, big0, qg7, qi9, qja, List.length_set, List.length_replicate, Int.toNat_natCast, qb1, qb2, imax, imin, qa3, g]
  have b := qez.1 g
  have eC := qal k (by omega) z z l (by omega) hr
  have ea : askE l = askF l l.length 0 := by unfold askE; rw [g, Bool.true_and]
  cases h : askF l l.length 0
  · rw [h] at eC ea
    rw [ea]
    simp (disch := omega) only [qah, nth0, nth1, nth2, nth3, bit, qb3, qb4, qcf, qck, qcl, qcm, qcn, qco, qcp, qcq, qb5, qb6, qb7, qb8, qb9, qca, qcb, qcc, qcd, qce, qcg, qch, qci, qcj, qix, qiw, qiy, qg8, qhg, qhh, qe0, qai, qiq, nI, qcw, qcu, Bool.not_true, Bool.not_false, Bool.and_true, Bool.true_and, Bool.and_false, Bool.false_and, Bool.or_true, Bool.true_or, Bool.or_false, Bool.false_or, beq_self_eq_true, dTT, dFF, dT, dF, bigI, big0, qg7, qi9, qja, List.length_set, List.length_replicate, Int.toNat_natCast, qb1, qb2, imax, imin, qa3, g, eC]
  rw [h] at eC ea
  rw [ea]
  have z0 := hz 0 (by omega)
  have h0 := (hr 0 (by omega)).2.1
  have e := qf3 k hk z false false l (by omega) (msR (rrow l 0)).length h0 (hm ea) l.length (k + 11) 0 [] (msR (rrow l 0)) (msR (rrow l 0)) (by omega) rfl rfl (by omega)
  rw [show ((0 : Nat) : Int) = 0 from rfl] at e
  simp (disch := omega) only [qah, nth0, nth1, nth2, nth3, bit, qb3, qb4, qcf, qck, qcl, qcm, qcn, qco, qcp, qcq, qb5, qb6, qb7, qb8, qb9, qca, qcb, qcc, qcd, qce, qcg, qch, qci, qcj, qix, qiw, qiy, qg8, qhg, qhh, qe0, qai, qiq, nI, qcw, qcu, Bool.not_true, Bool.not_false, Bool.and_true, Bool.true_and, Bool.and_false, Bool.false_and, Bool.or_true, Bool.true_or, Bool.or_false, Bool.false_or, beq_self_eq_true, dTT, dFF, dT, dF, bigI, big0, qg7, qi9, qja, List.length_set, List.length_replicate, Int.toNat_natCast, qb1, qb2, imax, imin, qa3, g, eC, t0, z0, qbn]
  exact e
end Go.Proofs.Ytcaapedadpnjoaa
end
section
namespace Go.Proofs.Ytcaapedadpnjoaa
open Go.Ev
set_option maxRecDepth 20000
set_option maxHeartbeats 2000000 in
theorem qgh (k : Nat) (hk : 2000000 ≤ k) (fu : List (Nat × Nat)) (z : Bool) (l : List (List RC)) (hl : l.length ≤ 100) (i : Nat) (hi : i < l.length) (zl zh : Bool) (lo up : List Int) (h1 : (msR (rrow l i)).length = lo.length) (h2 : (msR (rrow l i)).length = up.length) (hn : (lo.length : Int) ≤ 1048576) : ∀ (N j : Nat), j ≤ lo.length → lo.length - j < N →
    lp (k + 8) spec_EnvelopeOf [] fu 9 (N) (qh8 (i : Int) (j : Int) z l zl ((mnL (msR (rrow l i)) lo).take j ++ lo.drop j) zh ((mxL (msR (rrow l i)) up).take j ++ up.drop j)) = lp (k + 8) spec_EnvelopeOf [] fu 6 (fuelOf fu 6) (qh7 ((i + 1 : Nat) : Int) z l zl (mnL (msR (rrow l i)) lo) zh (mxL (msR (rrow l i)) up))
  | 0, j, hj, hN => by omega
  | N + 1, j, hj, hN => by
    rw [qfm]
    have h3 : (rcAt (rrow l i) 2).ints.length = lo.length := h1
    have l1 := qjd (f := min) h1 j
    have l2 := qjd (f := max) h2 j
    by_cases g : j < lo.length
    · have IH := qgh k hk fu z l hl i hi zl zh lo up h1 h2 hn N (j + 1) (by omega) (by omega)
      have c1 := qjc (f := min) h1 g
      have c2 := qjc (f := max) h2 (show j < up.length by omega)
      have e1 := qje (f := min) h1 g
      have e2 := qje (f := max) h2 (show j < up.length by omega)
      unfold mnL mxL at IH ⊢
      simp (disch := omega) only [qah, nth0, nth1, nth2, nth3, bit, qb3, qb4, qcf, qck, qcl, qcm, qcn, qco, qcp, qcq, qb5, qb6, qb7, qb8, qb9, qca, qcb, qcc, qcd, qce, qcg, qch, qci, qcj, qix, qiw, qiy, qg8, qhg, qhh, qe0, qai, qiq, nI, qcw, qcu, Bool.not_true, Bool.not_false, Bool.and_true, Bool.true_and, Bool.and_false, Bool.false_and, Bool.or_true, Bool.true_or, Bool.or_false, Bool.false_or, beq_self_eq_true, dTT, dFF, dT, dF, bigI, big0, qg7, qi9, qja, List.length_set, List.length_replicate, Int.toNat_natCast, qb1, qb2, imax, imin, l1, l2, c1, c2, e1, e2]
      exact IH
    · obtain rfl : j = lo.length := by omega
      have t1 : (mnL (msR (rrow l i)) lo).take lo.length ++ lo.drop lo.length = mnL (msR (rrow l i)) lo := by
        rw [List.take_of_length_le (by rw [qg3 h1]; exact Nat.le_refl _), List.drop_length, List.append_nil]
      have t2 : (mxL (msR (rrow l i)) up).take lo.length ++ up.drop lo.length = mxL (msR (rrow l i)) up := by
        rw [List.take_of_length_le (by rw [qg5 h2]; omega), List.drop_eq_nil_of_le (by omega), List.append_nil]
      have ml := qg3 h1
      rw [t1, t2]
      simp (disch := omega) only [qah, nth0, nth1, nth2, nth3, bit, qb3, qb4, qcf, qck, qcl, qcm, qcn, qco, qcp, qcq, qb5, qb6, qb7, qb8, qb9, qca, qcb, qcc, qcd, qce, qcg, qch, qci, qcj, qix, qiw, qiy, qg8, qhg, qhh, qe0, qai, qiq, nI, qcw, qcu, Bool.not_true, Bool.not_false, Bool.and_true, Bool.true_and, Bool.and_false, Bool.false_and, Bool.or_true, Bool.true_or, Bool.or_false, Bool.false_or, beq_self_eq_true, dTT, dFF, dT, dF, bigI, big0, qg7, qi9, qja, List.length_set, List.length_replicate, Int.toNat_natCast, qb1, qb2, imax, imin, ml]
end Go.Proofs.Ytcaapedadpnjoaa
end
section
namespace Go.Proofs.Ytcaapedadpnjoaa
open Go.Ev
set_option maxRecDepth 20000
theorem qg4 : ∀ x : List Int, mnL x x = x
  | [] => rfl
  | a :: x => by show min a a :: mnL x x = a :: x; rw [qg4 x, Int.min_self]
theorem qg6 : ∀ x : List Int, mxL x x = x
  | [] => rfl
  | a :: x => by show max a a :: mxL x x = a :: x; rw [qg6 x, Int.max_self]
set_option maxHeartbeats 2000000 in
theorem qgg (k : Nat) (hk : 2000000 ≤ k) (z zl zh : Bool) (l : List (List RC)) (hl : l.length ≤ 100) (n : Nat) (hn : (n : Int) ≤ 1048576) (hm : ∀ i, i < l.length → (msR (rrow l i)).length = n) : ∀ (m N i : Nat) (fu : List (Nat × Nat)) (lo up : List Int), i + m = l.length → lo.length = n → up.length = n → m < N →
    lp (k + 8) spec_EnvelopeOf [] fu 6 (N) (qh7 (i : Int) z l zl lo zh up) = some [.arr true zl (.ints .i64 (envL mnL l m i lo)), .arr true zh (.ints .i64 (envL mxL l m i up)), .bool true]
  | 0, N + 1, i, fu, lo, up, hi, h1, h2, hN => by
    rw [qfl]
    simp (disch := omega) only [qah, nth0, nth1, nth2, nth3, bit, qb3, qb4, qcf, qck, qcl, qcm, qcn, qco, qcp, qcq, qb5, qb6, qb7, qb8, qb9, qca, qcb, qcc, qcd, qce, qcg, qch, qci, qcj, qix, qiw, qiy, qg8, qhg, qhh, qe0, qai, qiq, nI, qcw, qcu, Bool.not_true, Bool.not_false, Bool.and_true, Bool.true_and, Bool.and_false, Bool.false_and, Bool.or_true, Bool.true_or, Bool.or_false, Bool.false_or, beq_self_eq_true, dTT, dFF, dT, dF, bigI, big0, qg7, qi9, qja, List.length_set, List.length_replicate, Int.toNat_natCast, qb1, qb2, imax, imin]
    rfl
  | m + 1, N + 1, i, fu, lo, up, hi, h1, h2, hN => by
    rw [qfl, envL, envL]
    have hmi := hm i (by omega)
    have e9 := qgh k hk ((6, N) :: fu) z l hl i (by omega) zl zh lo up (by omega) (by omega) (by omega) (k + 8) 0 (by omega) (by omega)
    rw [qev, List.take_zero, List.take_zero, List.drop_zero, List.drop_zero, List.nil_append, List.nil_append, show ((0 : Nat) : Int) = 0 from rfl] at e9
    have IH := qgg k hk z zl zh l hl n hn hm m N (i + 1) ((6, N) :: fu) (mnL (msR (rrow l i)) lo) (mxL (msR (rrow l i)) up) (by omega) (by rw [qg3 (by omega)]; exact h1) (by rw [qg5 (by omega)]; exact h2) (by omega)
    simp (disch := omega) only [qah, nth0, nth1, nth2, nth3, bit, qb3, qb4, qcf, qck, qcl, qcm, qcn, qco, qcp, qcq, qb5, qb6, qb7, qb8, qb9, qca, qcb, qcc, qcd, qce, qcg, qch, qci, qcj, qix, qiw, qiy, qg8, qhg, qhh, qe0, qai, qiq, nI, qcw, qcu, Bool.not_true, Bool.not_false, Bool.and_true, Bool.true_and, Bool.and_false, Bool.false_and, Bool.or_true, Bool.true_or, Bool.or_false, Bool.false_or, beq_self_eq_true, dTT, dFF, dT, dF, bigI, big0, qg7, qi9, qja, List.length_set, List.length_replicate, Int.toNat_natCast, qb1, qb2, imax, imin]
    exact e9.trans IH
theorem qaj (k : Nat) (hk : 2000000 ≤ k) (z : Bool) (l : List (List RC)) (hr : ∀ i, i < l.length → qfy (rrow l i)) : go (k + 8) spec_l34Ask [.rows z [.n, .r3, .is, .is, .is] l] = some [.bool (askE l)] := by
  rw [qem]
  unfold askE
  cases g : inR (l.length : Int) 1 100
  · simp (disch := omega) only [qah, nth0, nth1, nth2, nth3, bit, qb3, qb4, qcf, qck, qcl, qcm, qcn, qco, qcp, qcq, qb5, qb6, qb7, qb8, qb9, qca, qcb, qcc, qcd, qce, qcg, qch, qci, qcj, qix, qiw, qiy, qg8, qhg, qhh, qe0, qai, qiq, nI, qcw, qcu, Bool.not_true, Bool.not_false, Bool.and_true, Bool.true_and, Bool.and_false, Bool.false_and, Bool.or_true, Bool.true_or, Bool.or_false, Bool.false_or, beq_self_eq_true, dTT, dFF, dT, dF, bigI, big0, qg7, qi9, qja, List.length_set, List.length_replicate, Int.toNat_natCast, qb1, qb2, imax, imin, qbx, g]
  have b := qez.1 g
  have e := qfz k hk [] z l (by omega) hr l.length (k + 7) 0 (by omega) (by omega)
  rw [show ((0 : Nat) : Int) = 0 from rfl] at e
  simp (disch := omega) only [qah, nth0, nth1, nth2, nth3, bit, qb3, qb4, qcf, qck, qcl, qcm, qcn, qco, qcp, qcq, qb5, qb6, qb7, qb8, qb9, qca, qcb, qcc, qcd, qce, qcg, qch, qci, qcj, qix, qiw, qiy, qg8, qhg, qhh, qe0, qai, qiq, nI, qcw, qcu, Bool.not_true, Bool.not_false, Bool.and_true, Bool.true_and, Bool.and_false, Bool.false_and, Bool.or_true, Bool.true_or, Bool.or_false, Bool.false_or, beq_self_eq_true, dTT, dFF, dT, dF, bigI, big0, qg7, qi9, qja, List.length_set, List.length_replicate, Int.toNat_natCast, qb1, qb2, imax, imin, qbx, g]
  exact e
theorem qbp (k : Nat) (hk : 2000000 ≤ k) (z : Bool) (l : List (List RC)) (hl : (l.length : Int) ≤ 1048576) (hr : ∀ i, i < l.length → qfy (rrow l i)) (hm : askE l = true → ∀ i, i < l.length → (msR (rrow l i)).length = (msR (rrow l 0)).length) :
    go (k + 9) spec_EnvelopeOf [.rows z [.n, .r3, .is, .is, .is] l] = some (envD false l) := by
  rw [qea]
  unfold envD
  have t0 : Int.toNat 0 = 0 := rfl
  have ea := qaj k (by omega) z l hr
  cases h : askE l
  · rw [h] at ea
    simp (disch := omega) only [qah, nth0, nth1, nth2, nth3, bit, qb3, qb4, qcf, qck, qcl, qcm, qcn, qco, qcp, qcq, qb5, qb6, qb7, qb8, qb9, qca, qcb, qcc, qcd, qce, qcg, qch, qci, qcj, qix, qiw, qiy, qg8, qhg, qhh, qe0, qai, qiq, nI, qcw, qcu, Bool.not_true, Bool.not_false, Bool.and_true, Bool.true_and, Bool.and_false, Bool.false_and, Bool.or_true, Bool.true_or, Bool.or_false, Bool.false_or, beq_self_eq_true, dTT, dFF, dT, dF, bigI, big0, qg7, qi9, qja, List.length_set, List.length_replicate, Int.toNat_natCast, qb1, qb2, imax, imin, ea]
  rw [h] at ea
  have h0 : 0 < l.length := by
    unfold askE at h
    rw [Bool.and_eq_true] at h
    have := qez.1 h.1; omega
  have hl' : l.length ≤ 100 := by
    unfold askE at h
    rw [Bool.and_eq_true] at h
    have := qez.1 h.1; omega
  have hn := (hr 0 (by omega)).2.1
  obtain ⟨n, hn'⟩ : ∃ n, l.length = n + 1 := ⟨l.length - 1, by omega⟩
  have e := qgg k hk z false false l hl' (msR (rrow l 0)).length hn (hm h) n (k + 8) 1 [] (msR (rrow l 0)) (msR (rrow l 0)) (by omega) rfl rfl (by omega)
  have s1 : envL mnL l l.length 0 (msR (rrow l 0)) = envL mnL l n 1 (msR (rrow l 0)) := by rw [hn', envL, qg4]
  have s2 : envL mxL l l.length 0 (msR (rrow l 0)) = envL mxL l n 1 (msR (rrow l 0)) := by rw [hn', envL, qg6]
  rw [show ((1 : Nat) : Int) = 1 from rfl] at e
  simp (disch := omega) only [qah, nth0, nth1, nth2, nth3, bit, qb3, qb4, qcf, qck, qcl, qcm, qcn, qco, qcp, qcq, qb5, qb6, qb7, qb8, qb9, qca, qcb, qcc, qcd, qce, qcg, qch, qci, qcj, qix, qiw, qiy, qg8, qhg, qhh, qe0, qai, qiq, nI, qcw, qcu, Bool.not_true, Bool.not_false, Bool.and_true, Bool.true_and, Bool.and_false, Bool.false_and, Bool.or_true, Bool.true_or, Bool.or_false, Bool.false_or, beq_self_eq_true, dTT, dFF, dT, dF, bigI, big0, qg7, qi9, qja, List.length_set, List.length_replicate, Int.toNat_natCast, qb1, qb2, imax, imin, ea, t0, s1, s2]
  exact e
end Go.Proofs.Ytcaapedadpnjoaa
end
section
namespace Go.Proofs.Ytcaapedadpnjoaa
open Go Go.RowKit Go.Ev
theorem one' {w : World} {d : D} {v : Value} {F : Feet} (h1 : RepD w d v F) : RepDs w [d] [v] F := by
  simp only [RepDs]
  exact ⟨v, [], F, [], rfl, (List.append_nil F).symm, h1, rfl, rfl⟩
theorem two {w : World} {d e : D} {v u : Value} {F G : Feet} (h1 : RepD w d v F) (h2 : RepD w e u G) : RepDs w [d, e] [v, u] (F ++ G) := by
  simp only [RepDs]
  exact ⟨v, [u], F, G, rfl, rfl, h1, u, [], G, [], rfl, (List.append_nil G).symm, h2, rfl, rfl⟩
theorem qhj {w : World} {k : IntKind} {n : Int} : RepD w (.int k n) (.int k n) [] := by simp [RepD]
theorem bel {w W W' : World} (h : RowKit.Below w.heap.size w W) (h' : RowKit.Below W.heap.size W W') : RowKit.Below w.heap.size w W' := h.trans (h'.mono h.size)
theorem belF {N : Nat → Nat → Prop} {w W W' : World} (h : RowKit.Below w.heap.size w W) (f : Fr N W W') (hn : ∀ b off, N b off → w.heap.size ≤ b) : RowKit.Below w.heap.size w W' :=
  qet ((fr_of_below (M := N) h).trans f) fun b off hb h => by have := hn b off h; omega
def At (W : World) (lo hi : Nat) (z : Bool) (a : Arr) (v : Value) : Prop := ∃ F, RepD W (.arr true z a) v F ∧ ∀ b off, ownOf F b off → lo ≤ b ∧ b < hi
theorem At.frame {N : Nat → Nat → Prop} {W W' : World} {lo hi : Nat} {z : Bool} {a : Arr} {v : Value} (h : At W lo hi z a v) (f : Fr N W W') (hn : ∀ b off, lo ≤ b → b < hi → ¬ N b off) : At W' lo hi z a v := by
  obtain ⟨F, hF, hb⟩ := h
  exact ⟨F, qhb hF (qad hF) f fun b off ho => hn b off (hb b off ho).1 (hb b off ho).2, hb⟩
theorem At.below {W W' : World} {lo hi : Nat} {z : Bool} {a : Arr} {v : Value} (h : At W lo hi z a v) (f : RowKit.Below W.heap.size W W') : At W' lo hi z a v :=
  h.frame (N := fun _ _ => False) (fr_of_below f) fun _ _ _ _ h => h
theorem At.ro {W : World} {lo hi : Nat} {z : Bool} {a : Arr} {v : Value} (h : At W lo hi z a v) : ∃ F, RepD W (.arr false z a) v F ∧ Still F := by
  obtain ⟨F, hF, _⟩ := h
  exact RepD.ro _ hF
theorem qac {W : World} {z : Bool} {a : Arr} {v : Value} {F : Feet} (h : RepD W (.arr true z a) v F) {b off : Nat} (ho : ownOf F b off) : b < W.heap.size := by
  simp only [RepD] at h
  obtain ⟨p, rfl, hr, rfl⟩ := h
  obtain ⟨A, hA, h1, h2⟩ := ho
  rw [List.mem_singleton.1 hA] at h2
  exact hr.lt' b off h2
theorem Contract.env {P : Program} {f : Nat} {ds : List D} {z0 z1 b : Bool} {a0 a1 : Arr} (h : Contract P f [] ds [.arr true z0 a0, .arr true z1 a1, .bool b]) {w : World} {args : Array Value} {F : Feet} (hd : RepDs w ds args.toList F) (hF : Still F) :
    Calls P f args w fun e w' => ∃ v0 v1 F0 F1, e = .returned (.tuple #[v0, v1, .bool b]) ∧ RepD w' (.arr true z0 a0) v0 F0 ∧ RepD w' (.arr true z1 a1) v1 F1 ∧ Ev.Sep (F0 ++ F1) ∧ (∀ b off, ownOf (F0 ++ F1) b off → w.heap.size ≤ b ∧ b < w'.heap.size) ∧ RowKit.Below w.heap.size w w' := by
  refine (h.still hd hF).mono ?_
  rintro e w' ⟨outs, F', rfl, hr, hs, hn, hb⟩
  simp only [RepDs] at hr
  obtain ⟨u0, us0, F0, G0, rfl, rfl, h0, u1, us1, F1, G1, rfl, rfl, h1, u2, us2, F2, G2, rfl, rfl, h2, rfl, rfl⟩ := hr
  simp only [RepD] at h2
  obtain ⟨rfl, rfl⟩ := h2
  rw [List.append_nil, List.append_nil] at hs hn
  refine ⟨u0, u1, F0, F1, rfl, h0, h1, hs, fun b off ho => ⟨hn b off ho, ?_⟩, hb⟩
  obtain ⟨A, hA, k1, k2⟩ := ho
  rcases List.mem_append.1 hA with hA | hA
  · exact qac h0 ⟨A, hA, k1, k2⟩
  · exact qac h1 ⟨A, hA, k1, k2⟩
theorem qeo (zz : Bool) (l : List (List RC)) : envD zz l = [.arr true (cond (askE l) false zz) (.ints .i64 (cond (askE l) (envL mnL l l.length 0 (msR (rrow l 0))) [])), .arr true (cond (askE l) false zz) (.ints .i64 (cond (askE l) (envL mxL l l.length 0 (msR (rrow l 0))) [])), .bool (askE l)] := by
  unfold envD
  cases askE l <;> rfl
theorem qes {W : World} {z z' : Bool} {l : List Int} {u v : Value} {F G : Feet} (h1 : RepD W (.arr false z (.ints .i64 l)) u F) (h2 : RepD W (.arr false z' (.ints .i64 l)) v G) (s1 : Still F) (s2 : Still G) (hl : (l.length : Int) ≤ 1048576) :
    Calls Try.prog 25 #[u, v] W fun e W' => e = .returned (.bool true) ∧ RowKit.Below W.heap.size W W' := by
  have e1 : ev Try.prog An (2000000 + 1) 25 [.arr false z (.ints .i64 l), .arr false z' (.ints .i64 l)] = some [.bool true] := qa6 2000000 (by omega) z z' l hl
  have ct : Contract Try.prog 25 [] [.arr false z (.ints .i64 l), .arr false z' (.ints .i64 l)] [.bool true] := ev_contract good noExt e1
  exact ct.bool (args := #[u, v]) (two h1 h2) (s1.append s2)
theorem qex {W : World} {z : Bool} {n : Nat} {b : Int} {u : Value} {F : Feet} (h1 : RepD W (.arr false z (.ints .i64 (marks b n))) u F) (s1 : Still F) (hl : (n : Int) ≤ 1048576) (h0 : 0 ≤ b) (hb : b ≤ 8796093022208) :
    Calls Try.prog 29 #[u, .int .i64 b] W fun e W' => e = .returned (.int .i64 (b + n)) ∧ RowKit.Below W.heap.size W W' := by
  have e1 : ev Try.prog An (2000000 + 1) 29 [.arr false z (.ints .i64 (marks b n)), .int .i64 b] = some [.int .i64 (b + n)] := qba 2000000 (by omega) z n b hl h0 hb
  have ct : Contract Try.prog 29 [] [.arr false z (.ints .i64 (marks b n)), .int .i64 b] [.int .i64 (b + n)] := ev_contract good noExt e1
  exact ct.int (args := #[u, .int .i64 b]) (two h1 qhj) (s1.append Still.nil)
theorem Contract.markedC {P : Program} {f : Nat} {a a' : Arr} {z z' : Bool} {b b' : Int} (h : Contract P f [true] [.arr true z a, .int .i64 b] [.int .i64 b', .arr true z' a']) {w : World} {v : Value} {F : Feet} (hd : RepD w (.arr true z a) v F) :
    Calls P f #[v, .int .i64 b] w fun e w' => e = .returned (.int .i64 b') ∧ Fr (ownOf F) w w' ∧ ∃ F', RepD w' (.arr true z' a') v F' ∧ ∀ b off, ownOf F' b off → ownOf F b off := by
  obtain ⟨fn, _, _, hc⟩ := h
  have hF : ∃ A, F = [A] := by
    simp only [RepD] at hd
    obtain ⟨p, _, _, rfl⟩ := hd
    exact ⟨_, rfl⟩
  obtain ⟨A, rfl⟩ := hF
  refine (hc w #[v, .int .i64 b] [A] (by
    simp only [RepDs]
    exact ⟨v, _, [A], [], rfl, rfl, hd, .int .i64 b, [], [], [], rfl, rfl, by simp [RepD], rfl, rfl⟩) (by simp [Ev.Sep])).mono ?_
  rintro e w' ⟨outs, F', rfl, hl, hrep, hs, hfr, hnew, _⟩
  have hm : muts [true] (#[v, Value.int .i64 b]).toList = [v] := by simp [muts]
  rw [hm] at hrep
  simp only [RepDs] at hrep
  obtain ⟨u, us, F1, F2, e1, _, h1, u2, us2, F3, F4, rfl, _, h2, rfl, _⟩ := hrep
  simp only [RepD] at h1
  obtain ⟨rfl, _⟩ := h1
  cases outs with
  | nil => cases e1
  | cons o outs =>
    cases outs with
    | nil =>
      injection e1 with e1 e2
      subst e1
      injection e2 with e2 _
      subst e2
      refine ⟨rfl, hfr, F3, h2, fun b off ho => ?_⟩
      simp only [RepD] at hd h2
      obtain ⟨p, rfl, _, hp⟩ := hd
      obtain ⟨q, hq, _, rfl⟩ := h2
      rw [hp]
      injection hq with q1 q2 q3
      obtain ⟨C, hC, k1, k2⟩ := ho
      rw [List.mem_singleton.1 hC] at k2
      obtain ⟨x, x1, x2, _⟩ := k2
      exact ⟨_, List.mem_singleton.2 rfl, rfl, x, by rw [q1]; exact x1, x2, .inl rfl⟩
    | cons o2 outs => simp at e1
theorem qg2 {W : World} {v : Value} {F : Feet} {z : Bool} {l : List Int} {b : Int} (hd : RepD W (.arr true z (.ints .i64 l)) v F) (hl : (l.length : Int) ≤ 1048576) (h0 : 0 ≤ b) (hb : b ≤ 8796093022208) :
    Calls Try.prog 28 #[v, .int .i64 b] W fun e W' => e = .returned (.int .i64 (b + l.length)) ∧ Fr (ownOf F) W W' ∧ ∃ F', RepD W' (.arr true z (.ints .i64 (marks b l.length))) v F' ∧ ∀ b off, ownOf F' b off → ownOf F b off := by
  have e1 : ev Try.prog An (2000000 + 1) 28 [.arr true z (.ints .i64 l), .int .i64 b] = some [.int .i64 (b + l.length), .arr true z (.ints .i64 (marks b l.length))] := qbc 2000000 (by omega) z l b hl h0 hb
  exact Contract.markedC (ev_contract good noExt e1) hd
end Go.Proofs.Ytcaapedadpnjoaa
end
section
namespace Go.Proofs.Ytcaapedadpnjoaa
open Go Go.RowKit Go.Ev
theorem qhn {r : List RC} (h : All2 RcFit zSt r) : qfx r ∧ (qfy r → okSt r = true ∧ okSt (cpSt r) = true ∧ qfy (cpSt r) ∧ (rcAt (cpSt r) 2).nil = false) := by
  cases h with | cons h0 h => cases h with | cons h1 h => cases h with | cons h2 h => cases h with | cons h3 h => cases h with | cons h4 h => cases h with | nil =>
  rename_i a0 a1 a2 a3 a4
  cases a0 <;> first | exact h0.elim | skip
  cases a1 <;> first | exact h1.elim | skip
  cases a2 <;> first | exact h2.elim | skip
  cases a3 <;> first | exact h3.elim | skip
  cases a4 <;> first | exact h4.elim | skip
  refine ⟨⟨?_, ?_, ?_, ?_⟩, fun ok => ⟨?_, ?_, ok, rfl⟩⟩
  · have := h1.2.1
    simp only [maxLen] at this
    show ((_ : List (Int × Int × Int)).length : Int) ≤ _
    simp only [rcAt, List.getD_cons_succ, List.getD_cons_zero, RC.r3s]; omega
  · have := h2.2.1
    simp only [maxLen] at this
    simp only [rcAt, List.getD_cons_succ, List.getD_cons_zero, RC.ints]; omega
  · have := h3.2.1
    simp only [maxLen] at this
    simp only [rcAt, List.getD_cons_succ, List.getD_cons_zero, RC.ints]; omega
  · have := h4.2.1
    simp only [maxLen] at this
    simp only [rcAt, List.getD_cons_succ, List.getD_cons_zero, RC.ints]; omega
  · obtain ⟨o1, o2, o3, o4⟩ := ok
    simp only [rcAt, List.getD_cons_succ, List.getD_cons_zero, RC.ints, RC.r3s] at o1 o2 o3 o4
    simp only [okSt, o1, o2, o3, o4, decide_true, Bool.and_true]
  · obtain ⟨o1, o2, o3, o4⟩ := ok
    simp only [rcAt, List.getD_cons_succ, List.getD_cons_zero, RC.ints, RC.r3s] at o1 o2 o3 o4
    simp only [cpSt, okSt, o1, o2, o3, o4, decide_true, Bool.and_true]
theorem qho {f : List RC → List RC} {l : List (List RC)} {i : Nat} (h : i < l.length) : rrow (l.map f) i = f (rrow l i) := by
  simp [rrow, List.getD_eq_getElem?_getD, h]
theorem qer {l : List (List RC)} (h : askE l = true) : ∀ i, i < l.length → (msR (rrow l i)).length = (msR (rrow l 0)).length := by
  intro i hi
  unfold askE at h
  rw [Bool.and_eq_true] at h
  obtain ⟨s1, s2⟩ := qae h.2 i (by omega) (by omega)
  obtain ⟨s3, _⟩ := qae h.2 0 (by omega) (by omega)
  have m1 := (stF.1 s1).ml
  have m0 := (stF.1 s3).ml
  unfold qil qig at s2
  simp only [Bool.and_eq_true, decide_eq_true_eq] at s2
  show (rcAt (rrow l i) 2).ints.length = (rcAt (rrow l 0) 2).ints.length
  rw [m1, m0, s2.2]
theorem qep {f : List Int → List Int → List Int} (hf : ∀ m x : List Int, m.length = x.length → (f m x).length = x.length) {l : List (List RC)} {n : Nat} (hm : ∀ i, i < l.length → (msR (rrow l i)).length = n) : ∀ (m i : Nat) (x : List Int), i + m ≤ l.length → x.length = n → (envL f l m i x).length = n
  | 0, i, x, hi, hx => hx
  | m + 1, i, x, hi, hx => by
    rw [envL]
    have := hm i (by omega)
    exact qep hf hm m (i + 1) _ (by omega) (by rw [hf _ _ (by omega)]; exact hx)
theorem qeq {l : List (List RC)} (hl : (l.length : Int) ≤ 1048576) (hr : ∀ i, i < l.length → qfy (rrow l i)) (hz : ∀ i, i < l.length → (rcAt (rrow l i) 2).nil = false) :
    ∃ (L0 L1 : List Int) (q zi zs : Bool), (L0.length : Int) ≤ 1048576 ∧ (L1.length : Int) ≤ 1048576 ∧
      Contract Try.prog 23 [] [.rows false zSt l] [.arr true zs (.ints .i64 L0), .arr true zs (.ints .i64 L1), .bool q] ∧
      Contract Try.prog 11 [] [.rows false zSt l] [.arr true zi (.ints .i64 L0), .arr true zi (.ints .i64 L1), .bool q] := by
  have h1 : ev Try.prog An (2000000 + 9) 23 [.rows false zSt l] = some (envD false l) := qbp 2000000 (by omega) false l hl hr qer
  have h2 : ev Try.prog An (2000000 + 12) 11 [.rows false zSt l] = some (envD true l) := qan 2000000 (by omega) false l hl hr hz qer
  rw [qeo] at h1 h2
  refine ⟨_, _, _, _, _, ?_, ?_, ev_contract good noExt h1, ev_contract good noExt h2⟩
  · cases h : askE l
    · show (([] : List Int).length : Int) ≤ _; simp
    · have h0 : 0 < l.length := by
        unfold askE at h
        rw [Bool.and_eq_true] at h
        have := qez.1 h.1; omega
      show ((envL mnL l l.length 0 (msR (rrow l 0))).length : Int) ≤ _
      rw [qep (fun m x => qg3) (qer h) l.length 0 _ (by omega) rfl]
      exact (hr 0 h0).2.1
  · cases h : askE l
    · show (([] : List Int).length : Int) ≤ _; simp
    · have h0 : 0 < l.length := by
        unfold askE at h
        rw [Bool.and_eq_true] at h
        have := qez.1 h.1; omega
      show ((envL mxL l l.length 0 (msR (rrow l 0))).length : Int) ≤ _
      rw [qep (fun m x => qg5) (qer h) l.length 0 _ (by omega) rfl]
      exact (hr 0 h0).2.1
end Go.Proofs.Ytcaapedadpnjoaa
end
section
namespace Go.Proofs.Ytcaapedadpnjoaa
open Go Go.RowKit Go.Ev
set_option maxRecDepth 100000 in
set_option maxHeartbeats 8000000 in
theorem law_EnvelopeOf {az : Bool} {a : List (List RC)} (ha : (a.length : Int) ≤ 9223372036854775807) (hr : ∀ i, i < a.length → All2 RcFit zSt (rrow a i)) (w : World) (va : Value) (FA : Feet)
    (hA : RepD w (.rows az zSt a) va FA) (sA : Still FA) :
    Calls Try.prog 5 #[va] w fun e w' => e = .returned (.bool true) ∧ RowKit.Below w.heap.size w w' := by
  obtain ⟨y, ey, py⟩ := qbh 2000000 (by omega) az a ha (fun i hi => (qhn (hr i hi)).1)
  have c22 : Contract Try.prog 22 [] [.rows az zSt a, .int .i64 1048576] [.int .i64 y] := ev_contract good noExt ey
  have k22 := c22.int (args := #[va, .int .i64 1048576]) (two hA qhj) (sA.append Still.nil)
  go_enter Try.func5, Try.ntmps5
  go_wp2_with (go_at_call 22; refine k22.mono ?_)
  rintro e W1 ⟨rfl, b1⟩
  clear k22 c22 ey
  by_cases hy : y < 0
  · have hd : decide (y < 0) = true := decide_eq_true hy
    go_wp2
    go_ret
    exact ⟨rfl, b1⟩
  have hd : decide (y < 0) = false := decide_eq_false hy
  obtain ⟨y0, y1, ha', hln⟩ := py.resolve_left hy
  have hal : a.length ≤ 1048576 := by omega
  have hok : ∀ i, i < a.length → okSt (rrow a i) = true := fun i hi => ((qhn (hr i hi)).2 (hln i hi)).1
  have ml : (a.map cpSt).length = a.length := List.length_map ..
  have hln2 : ∀ i, i < (a.map cpSt).length → qfy (rrow (a.map cpSt) i) := fun i hi => by
    rw [ml] at hi; rw [qho hi]; exact ((qhn (hr i hi)).2 (hln i hi)).2.2.1
  have hz2 : ∀ i, i < (a.map cpSt).length → (rcAt (rrow (a.map cpSt) i) 2).nil = false := fun i hi => by
    rw [ml] at hi; rw [qho hi]; exact ((qhn (hr i hi)).2 (hln i hi)).2.2.2
  obtain ⟨L0, L1, q, zi, zs, l0, l1, cS, cI⟩ := qeq (l := a.map cpSt) (by rw [ml]; exact ha') hln2 hz2
  have k24 := qi1 hal hok (RepD.below b1 hA)
  go_wp2_with (go_at_call 24; refine k24.mono ?_)
  rintro e W2 ⟨rfl, I2⟩
  have b2 := bel b1 (qi0 I2)
  obtain ⟨G2, r2, s2⟩ := qi2 I2
  clear k24 I2
  have k23 := Contract.env cS (args := #[_]) (one' r2) s2
  go_wp2_with (go_at_call 23; refine k23.mono ?_)
  rintro e W3 ⟨w0, w1, F0, F1, rfl, q0, q1, sp, hb, b3'⟩
  have b3 := bel b2 b3'
  have A0 : At W3 0 W3.heap.size zs (.ints .i64 L0) w0 := ⟨F0, q0, fun b off h => ⟨Nat.zero_le _, (hb b off (qhd h)).2⟩⟩
  have A1 : At W3 0 W3.heap.size zs (.ints .i64 L1) w1 := ⟨F1, q1, fun b off h => ⟨Nat.zero_le _, (hb b off (qhe h)).2⟩⟩
  clear k23 cS r2 s2 q0 q1 sp hb b3' b1 b2
  have b3s := b3.size
  have k24 := qi1 hal hok (RepD.below b3 hA)
  go_wp2_with (go_at_call 24; refine k24.mono ?_)
  rintro e W4 ⟨rfl, I4⟩
  have b4' := qi0 I4
  have b4 := bel b3 b4'
  have A0 := A0.below b4'
  have A1 := A1.below b4'
  obtain ⟨G4, r4, s4⟩ := qi2 I4
  clear k24
  have k11 := Contract.env cI (args := #[_]) (one' r4) s4
  go_wp2_with (go_at_call 11; refine k11.mono ?_)
  rintro e W5 ⟨g0, g1, F0, F1, rfl, q0, q1, sp, hb, b5'⟩
  have b5 := bel b4 b5'
  have A0 := A0.below b5'
  have A1 := A1.below b5'
  have c5 : RowKit.Below W4.heap.size W4 W5 := b5'
  have r4 := RepD.below b5' r4
  clear k11 b5'
  obtain ⟨E0, p0, t0⟩ := A0.ro
  obtain ⟨E1, p1, t1⟩ := A1.ro
  obtain ⟨H0, h0, u0⟩ := RepD.ro _ q0
  obtain ⟨H1, h1, u1⟩ := RepD.ro _ q1
  have k25 := qes h0 p0 u0 t0 l0
  go_wp2_with (go_at_call 25; refine k25.mono ?_)
  rintro e W6 ⟨rfl, b6'⟩
  have k25 := qes (RepD.below b6' h1) (RepD.below b6' p1) u1 t1 l1
  go_wp2_with (go_at_call 25; refine k25.mono ?_)
  rintro e W7 ⟨rfl, b7'⟩
  have b7' := bel b6' b7'
  have b7 := bel b5 b7'
  have A0 := A0.below b7'
  have A1 := A1.below b7'
  have q0 := RepD.below b7' q0
  have q1 := RepD.below b7' q1
  have c7 := bel c5 b7'
  have r4 := RepD.below b7' r4
  clear k25 p0 p1 h0 h1 t0 t1 u0 u1 b6' b7' b5 b4 b3 c5
  have k24 := qi1 hal hok (RepD.below b7 hA)
  go_wp2_with (go_at_call 24; refine k24.mono ?_)
  rintro e W8 ⟨rfl, I8⟩
  have b8' := qi0 I8
  have b8 := bel b7 b8'
  obtain ⟨G8, r8, s8⟩ := qi2 I8
  have r4 := RepD.below b8' r4
  clear k24 I8
  have e26 : ev Try.prog An (2000000 + 5) 26 [.rows false zSt (a.map cpSt), .rows false zSt (a.map cpSt)] = some [.bool true] := qa9 2000000 (by omega) false false _ _ (by rw [ml]; exact ha') rfl hln2 (fun i hi => ⟨rfl, rfl, rfl, rfl, rfl⟩)
  have c26 : Contract Try.prog 26 [] [.rows false zSt (a.map cpSt), .rows false zSt (a.map cpSt)] [.bool true] := ev_contract good noExt e26
  have k26 := c26.bool (args := #[_, _]) (two r4 r8) (s4.append s8)
  go_wp2_with (go_at_call 26; refine k26.mono ?_)
  rintro e W9 ⟨rfl, b9'⟩
  have b9' := bel b8' b9'
  have b9 := bel b7 b9'
  have A0 := A0.below b9'
  have A1 := A1.below b9'
  have q0 := RepD.below b9' q0
  have q1 := RepD.below b9' q1
  have c9 := bel c7 b9'
  clear k26 c26 e26 r4 r8 s4 s8 b8' b8 b7 b9' c7
  obtain ⟨uss, ul, u5, T⟩ := qiu I4 c9
  have z3 := b3s
  have z4 := (qi0 I4).size
  have k27 := qiv (by omega) u5 T
  rw [ul] at k27
  go_wp2_with (go_at_call 27; refine k27.mono ?_)
  rintro e W10 ⟨kk, rfl, kk0, f10⟩
  have hkk : decide (kk < 0) = false := decide_eq_false (by omega)
  have b10 := belF b9 f10 (fun b off h => by omega)
  have A0 := A0.frame f10 (fun b off _ h1 h2 => by omega)
  have A1 := A1.frame f10 (fun b off _ h1 h2 => by omega)
  have q0 := qhb q0 (qad q0) f10 (fun b off h hn => by have := (hb b off (qhd h)).1; omega)
  have q1 := qhb q1 (qad q1) f10 (fun b off h hn => by have := (hb b off (qhe h)).1; omega)
  clear k27 T f10 b9 c9 uss ul u5 I4
  obtain ⟨E0, p0, t0⟩ := A0.ro
  obtain ⟨E1, p1, t1⟩ := A1.ro
  obtain ⟨H0, h0, u0⟩ := RepD.ro _ q0
  obtain ⟨H1, h1, u1⟩ := RepD.ro _ q1
  have k25 := qes h0 p0 u0 t0 l0
  go_wp2_with (go_at_call 25; refine k25.mono ?_)
  rintro e W11 ⟨rfl, b11'⟩
  have k25 := qes (RepD.below b11' h1) (RepD.below b11' p1) u1 t1 l1
  go_wp2_with (go_at_call 25; refine k25.mono ?_)
  rintro e W12 ⟨rfl, b12'⟩
  have b12' := bel b11' b12'
  have b12 := bel b10 b12'
  have A0 := A0.below b12'
  have A1 := A1.below b12'
  have q0 := RepD.below b12' q0
  have q1 := RepD.below b12' q1
  clear k25 p0 p1 h0 h1 t0 t1 u0 u1 b11' b12' b10
  obtain ⟨m0, em0⟩ : ∃ m0 : Int, ∃ u : Unit, m0 = 1 + (L0.length : Int) := ⟨_, (), rfl⟩
  obtain ⟨m1, em1⟩ : ∃ m1 : Int, ∃ u : Unit, m1 = m0 + (L1.length : Int) := ⟨_, (), rfl⟩
  have v0 : 0 ≤ m0 ∧ m0 ≤ 1048577 := by obtain ⟨_, e⟩ := em0; omega
  have v1 : 0 ≤ m1 ∧ m1 ≤ 2097153 := by obtain ⟨_, e⟩ := em1; omega
  have k28 := qg2 (b := 1) q0 l0 (by omega) (by omega)
  replace k28 : Calls Try.prog 28 #[g0, .int .i64 1] W12 fun e W' => e = .returned (.int .i64 m0) ∧ Fr (ownOf F0) W12 W' ∧ ∃ F', RepD W' (.arr true zi (.ints .i64 (marks 1 L0.length))) g0 F' ∧ ∀ b off, ownOf F' b off → ownOf F0 b off := by obtain ⟨_, e⟩ := em0; rw [e]; exact k28
  go_wp2_with (go_at_call 28; refine k28.mono ?_)
  rintro e W13 ⟨rfl, f13, F0', q0', o0⟩
  have b13 := belF b12 f13 (fun b off h => by have := (hb b off (qhd h)).1; omega)
  have A0 := A0.frame f13 (fun b off _ h1 h2 => by have := (hb b off (qhd h2)).1; omega)
  have A1 := A1.frame f13 (fun b off _ h1 h2 => by have := (hb b off (qhd h2)).1; omega)
  have q1 := qhb q1 (qad q1) f13 (fun b off h => qih sp (qad q0) h)
  have k28 := qg2 (b := m0) q1 l1 (by omega) (by omega)
  replace k28 : Calls Try.prog 28 #[g1, .int .i64 m0] W13 fun e W' => e = .returned (.int .i64 m1) ∧ Fr (ownOf F1) W13 W' ∧ ∃ F', RepD W' (.arr true zi (.ints .i64 (marks m0 L1.length))) g1 F' ∧ ∀ b off, ownOf F' b off → ownOf F1 b off := by obtain ⟨_, e⟩ := em1; rw [e]; exact k28
  go_wp2_with (go_at_call 28; refine k28.mono ?_)
  rintro e W14 ⟨rfl, f14, F1', q1', o1⟩
  have b14 := belF b13 f14 (fun b off h => by have := (hb b off (qhe h)).1; omega)
  have A0 := A0.frame f14 (fun b off _ h1 h2 => by have := (hb b off (qhe h2)).1; omega)
  have A1 := A1.frame f14 (fun b off _ h1 h2 => by have := (hb b off (qhe h2)).1; omega)
  have q0' := qhb q0' (qad q0') f14 (fun b off h h' => qih sp (qad q0) h' (o0 b off h))
  clear k28 f13 f14 b12 b13 q0 q1 sp o0 o1 hb
  have n0 : decide (m0 < 0) = false := decide_eq_false (by omega)
  have n1 : decide (m1 < 0) = false := decide_eq_false (by omega)
  obtain ⟨H0, h0, u0⟩ := RepD.ro _ q0'
  obtain ⟨H1, h1, u1⟩ := RepD.ro _ q1'
  have k29 := qex (b := 1) h0 u0 l0 (by omega) (by omega)
  replace k29 : Calls Try.prog 29 #[g0, .int .i64 1] W14 fun e W' => e = .returned (.int .i64 m0) ∧ RowKit.Below W14.heap.size W14 W' := by obtain ⟨_, e⟩ := em0; rw [e]; exact k29
  go_wp2_with (go_at_call 29; refine k29.mono ?_)
  rintro e W15 ⟨rfl, b15'⟩
  have k29 := qex (b := m0) (RepD.below b15' h1) u1 l1 (by omega) (by omega)
  replace k29 : Calls Try.prog 29 #[g1, .int .i64 m0] W15 fun e W' => e = .returned (.int .i64 m1) ∧ RowKit.Below W15.heap.size W15 W' := by obtain ⟨_, e⟩ := em1; rw [e]; exact k29
  go_wp2_with (go_at_call 29; refine k29.mono ?_)
  rintro e W16 ⟨rfl, b16'⟩
  have b16' := bel b15' b16'
  have b16 := bel b14 b16'
  have A0 := A0.below b16'
  have A1 := A1.below b16'
  have h0 := RepD.below b16' h0
  have h1 := RepD.below b16' h1
  clear k29 b15' b16' b14 q0' q1'
  have k24 := qi1 hal hok (RepD.below b16 hA)
  go_wp2_with (go_at_call 24; refine k24.mono ?_)
  rintro e W17 ⟨rfl, I17⟩
  have b17' := qi0 I17
  have b17 := bel b16 b17'
  obtain ⟨G17, r17, s17⟩ := qi2 I17
  clear k24 I17
  have k11 := Contract.env cI (args := #[_]) (one' r17) s17
  go_wp2_with (go_at_call 11; refine k11.mono ?_)
  rintro e W18 ⟨j0, j1, J0, J1, rfl, x0, x1, sp, hb, b18'⟩
  have b18' := bel b17' b18'
  have b18 := bel b16 b18'
  have A0 := A0.below b18'
  have A1 := A1.below b18'
  have h0 := RepD.below b18' h0
  have h1 := RepD.below b18' h1
  clear k11 r17 s17 sp hb b17' b17 b18' b16
  obtain ⟨E0, p0, t0⟩ := A0.ro
  obtain ⟨E1, p1, t1⟩ := A1.ro
  obtain ⟨J2, x0, v0⟩ := RepD.ro _ x0
  obtain ⟨J3, x1, v1⟩ := RepD.ro _ x1
  have k25 := qes x0 p0 v0 t0 l0
  go_wp2_with (go_at_call 25; refine k25.mono ?_)
  rintro e W19 ⟨rfl, b19'⟩
  have k25 := qes (RepD.below b19' x1) (RepD.below b19' p1) v1 t1 l1
  go_wp2_with (go_at_call 25; refine k25.mono ?_)
  rintro e W20 ⟨rfl, b20'⟩
  have b20' := bel b19' b20'
  have b20 := bel b18 b20'
  have h0 := RepD.below b20' h0
  have h1 := RepD.below b20' h1
  clear k25 p0 p1 t0 t1 x0 x1 v0 v1 A0 A1 b19' b20' b18
  have k29 := qex (b := 1) h0 u0 l0 (by omega) (by omega)
  replace k29 : Calls Try.prog 29 #[g0, .int .i64 1] W20 fun e W' => e = .returned (.int .i64 m0) ∧ RowKit.Below W20.heap.size W20 W' := by obtain ⟨_, e⟩ := em0; rw [e]; exact k29
  go_wp2_with (go_at_call 29; refine k29.mono ?_)
  rintro e W21 ⟨rfl, b21'⟩
  have k29 := qex (b := m0) (RepD.below b21' h1) u1 l1 (by omega) (by omega)
  replace k29 : Calls Try.prog 29 #[g1, .int .i64 m0] W21 fun e W' => e = .returned (.int .i64 m1) ∧ RowKit.Below W21.heap.size W21 W' := by obtain ⟨_, e⟩ := em1; rw [e]; exact k29
  go_wp2_with (go_at_call 29; refine k29.mono ?_)
  rintro e W22 ⟨rfl, b22'⟩
  have b22 := bel b20 (bel b21' b22')
  clear k29 h0 h1
  go_wp2
  go_ret
  exact ⟨rfl, b22⟩
end Go.Proofs.Ytcaapedadpnjoaa
end
