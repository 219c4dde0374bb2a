/- Adapting: both readings agree. -/
import Derived.Test.YtfgccfajhedgdaaPA3
import Derived.Test.YtfgccfajhedgdaaPA4
namespace Go.Proofs.Ytfgccfajhedgdaa
open Go.Ev
set_option linter.unusedVariables false
set_option linter.unusedSimpArgs false
set_option maxRecDepth 20000
/-- the place of a leaf -/
def lofGo (x : Cell) : List Cell → Nat → Int
  | [], _ => -1
  | y :: r, i => if y = x then (i : Int) else lofGo x r (i + 1)
def lof (l : List Cell) (x : Cell) : Int := lofGo x l 0
theorem m_spec_LeafOf (k : Nat) (hk : 2000000 ≤ k) (fu : List (Nat × Nat)) (r : Int) (z : Bool) (l : List Cell) (x : Cell) (hl : l.length ≤ 1048576) : ∀ (N i : Nat), i ≤ l.length → l.length - i < N →
    lp k spec_LeafOf [] fu 2 (N) (s_spec_LeafOf_2 (i : Int) z l r x.1 x.2.1 x.2.2) = some [.int .i64 (lofGo x (l.drop i) i)]
  | 0, i, hi, hN => by omega
  | N + 1, i, hi, hN => by
    rw [l_spec_LeafOf_2]
    by_cases g : i < l.length
    · have IH := m_spec_LeafOf k hk fu r z l x hl N (i + 1) (by omega) (by omega)
      rw [drop_at g zz3, lofGo]
      by_cases h : l.getD i zz3 = x
      · rw [if_pos h]; simp (disch := omega) only [bindS, nth0, nth1, nth2, nth3, bit, cell0, cell1, cell2, cell3, cell4, cell5, cell6, cell7, cell8, cell9, cell10, cell11, cell12, cell13, cell14, cell15, cell16, cell17, cell18, cell19, cell20, cell21, cell22, cell23, toInt_int, toBool_bool, toStr_str, nil_arr, r3_arr, r4_arr, ints_arr, bools_arr, strs_arr, nI, condT, condF, Bool.not_true, Bool.not_false, Bool.and_true, Bool.true_and, Bool.and_false, Bool.false_and, Bool.or_true, Bool.true_or, Bool.or_false, Bool.false_or, beq_self_eq_true, dTT, dFF, dT, dF, bigI, big0, nilApp, wrapI, wrapU, List.length_set, List.length_replicate, Int.toNat_natCast, castS, castS2, imax, imin, h]
      · rw [if_neg h]
        have : (decide ((l.getD i zz3).1 = x.1) && (decide ((l.getD i zz3).2.1 = x.2.1) && decide ((l.getD i zz3).2.2 = x.2.2))) = false := by
          rw [← Bool.not_eq_true]
          intro e
          simp only [Bool.and_eq_true, decide_eq_true_eq] at e
          exact h (Prod.ext e.1 (Prod.ext e.2.1 e.2.2))
        simp (disch := omega) only [bindS, nth0, nth1, nth2, nth3, bit, cell0, cell1, cell2, cell3, cell4, cell5, cell6, cell7, cell8, cell9, cell10, cell11, cell12, cell13, cell14, cell15, cell16, cell17, cell18, cell19, cell20, cell21, cell22, cell23, toInt_int, toBool_bool, toStr_str, nil_arr, r3_arr, r4_arr, ints_arr, bools_arr, strs_arr, nI, condT, condF, Bool.not_true, Bool.not_false, Bool.and_true, Bool.true_and, Bool.and_false, Bool.false_and, Bool.or_true, Bool.true_or, Bool.or_false, Bool.false_or, beq_self_eq_true, dTT, dFF, dT, dF, bigI, big0, nilApp, wrapI, wrapU, List.length_set, List.length_replicate, Int.toNat_natCast, castS, castS2, imax, imin, this, IH]
    · rw [List.drop_of_length_le (by omega)]; simp (disch := omega) only [bindS, nth0, nth1, nth2, nth3, bit, cell0, cell1, cell2, cell3, cell4, cell5, cell6, cell7, cell8, cell9, cell10, cell11, cell12, cell13, cell14, cell15, cell16, cell17, cell18, cell19, cell20, cell21, cell22, cell23, toInt_int, toBool_bool, toStr_str, nil_arr, r3_arr, r4_arr, ints_arr, bools_arr, strs_arr, nI, condT, condF, Bool.not_true, Bool.not_false, Bool.and_true, Bool.true_and, Bool.and_false, Bool.false_and, Bool.or_true, Bool.true_or, Bool.or_false, Bool.false_or, beq_self_eq_true, dTT, dFF, dT, dF, bigI, big0, nilApp, wrapI, wrapU, List.length_set, List.length_replicate, Int.toNat_natCast, castS, castS2, imax, imin]; rfl
theorem c_spec_LeafOf (k : Nat) (hk : 2000000 ≤ k) (r : Int) (z : Bool) (l : List Cell) (x : Cell) (hl : l.length ≤ 1048576) : go (k + 1) spec_LeafOf [.agg [.int .i64 r, .arr false z (.r3 l)], .agg [.int .i64 x.1, .int .i64 x.2.1, .int .i64 x.2.2]] = some [.int .i64 (lof l x)] := by
  rw [e_spec_LeafOf]
  exact m_spec_LeafOf k hk [] r z l x hl _ 0 (by omega) (by omega)
theorem lofGo_spec (x : Cell) : ∀ (l : List Cell) (i : Nat), (lofGo x l i = -1 ∧ x ∉ l) ∨ ∃ j, j < l.length ∧ lofGo x l i = ((i + j : Nat) : Int) ∧ l.getD j zz3 = x
  | [], i => Or.inl ⟨rfl, by simp⟩
  | y :: r, i => by
    unfold lofGo
    by_cases h : y = x
    · rw [if_pos h]; exact Or.inr ⟨0, by simp, by simp, by simpa using h⟩
    · rw [if_neg h]
      rcases lofGo_spec x r (i + 1) with ⟨e, n⟩ | ⟨j, hj, e, n⟩
      · exact Or.inl ⟨e, by simp only [List.mem_cons, not_or]; exact ⟨fun e => h e.symm, n⟩⟩
      · exact Or.inr ⟨j + 1, by simp; omega, by rw [e]; congr 1; omega, by simpa using n⟩
theorem lof_spec (l : List Cell) (x : Cell) : (lof l x = -1 ∧ x ∉ l) ∨ ∃ j, j < l.length ∧ lof l x = (j : Int) ∧ l.getD j zz3 = x := by
  rcases lofGo_spec x l 0 with h | ⟨j, hj, e, n⟩
  · exact Or.inl h
  · exact Or.inr ⟨j, hj, by unfold lof; rw [e, Nat.zero_add], n⟩
/-- leaves of a mesh differ -/
theorem okp_ge : ∀ (l : List Cell) (p : Int), okp p l = true → ∀ x ∈ l, p ≤ startOf x.1 x.2.1 x.2.2
  | [], p, h, x, hx => by cases hx
  | y :: l, p, h, x, hx => by
    rw [okp_cons] at h
    rcases List.mem_cons.1 hx with rfl | hx
    · omega
    · have := okp_ge l _ h.2.2 x hx
      have := width_le y.2.1
      omega
theorem width_posC {x : Cell} (h : idOk x.1 x.2.1 x.2.2 = true) : 1 ≤ width x.2.1 := by
  rcases lev (inR_iff.2 (idOk_iff.1 h).2.1) with e | e | e | e | e <;> rw [e] <;> decide
theorem okp_nodup : ∀ (l : List Cell) (p : Int), okp p l = true → ∀ i j, i < l.length → j < l.length → l.getD i zz3 = l.getD j zz3 → i = j
  | [], p, h, i, j, hi, hj, e => by simp at hi
  | y :: l, p, h, 0, 0, hi, hj, e => rfl
  | y :: l, p, h, 0, j + 1, hi, hj, e => by
    rw [okp_cons] at h
    have hj' : j < l.length := by simpa using hj
    have := okp_ge l _ h.2.2 _ (getD_mem hj' zz3)
    have w := width_posC h.1
    simp only [List.getD_cons_zero, List.getD_cons_succ] at e
    rw [← e, h.2.1] at this
    omega
  | y :: l, p, h, i + 1, 0, hi, hj, e => by
    rw [okp_cons] at h
    have hi' : i < l.length := by simpa using hi
    have := okp_ge l _ h.2.2 _ (getD_mem hi' zz3)
    have w := width_posC h.1
    simp only [List.getD_cons_zero, List.getD_cons_succ] at e
    rw [e, h.2.1] at this
    omega
  | y :: l, p, h, i + 1, j + 1, hi, hj, e => by
    rw [okp_cons] at h
    have := okp_nodup l _ h.2.2 i j (by simpa using hi) (by simpa using hj) (by simpa using e)
    omega
/-- leaves that wish to be coarser -/
def Pw (w : List Int) (l0 : List Cell) (x : Cell) : Bool := decide (0 ≤ lof l0 x) && decide (w.getD (lof l0 x).toNat 0 = -1)
theorem Pw_iff {w : List Int} {l0 : List Cell} {p : Int} (h : okp p l0 = true) (x : Cell) : Pw w l0 x = true ↔ ∃ j, j < l0.length ∧ w.getD j 0 = -1 ∧ l0.getD j zz3 = x := by
  unfold Pw
  rw [Bool.and_eq_true, decide_eq_true_eq, decide_eq_true_eq]
  rcases lof_spec l0 x with ⟨e, n⟩ | ⟨j, hj, e, n⟩
  · rw [e]
    refine ⟨fun h => by omega, fun ⟨j, hj, _, hx⟩ => absurd (hx ▸ getD_mem hj zz3) n⟩
  · rw [e, Int.toNat_natCast]
    refine ⟨fun h => ⟨j, hj, h.2, n⟩, fun ⟨q, hq, hw, hx⟩ => ⟨by omega, ?_⟩⟩
    have := okp_nodup l0 p h q j hq hj (by rw [hx, n])
    rw [← this]; exact hw
def ks (w : List Int) (l0 : List Cell) : Nat → List Cell → List Cell
  | 0, acc => acc
  | n + 1, acc => ks w l0 n (if w.getD n 0 = 1 then acc else if w.getD n 0 = -1 then acc ++ [l0.getD n zz3] else acc)
theorem ks_mem (w : List Int) (l0 : List Cell) (x : Cell) : ∀ (n : Nat) (acc : List Cell), x ∈ ks w l0 n acc ↔ x ∈ acc ∨ ∃ j, j < n ∧ w.getD j 0 = -1 ∧ l0.getD j zz3 = x
  | 0, acc => ⟨Or.inl, fun h => h.elim id fun ⟨j, hj, _⟩ => by omega⟩
  | n + 1, acc => by
    rw [ks, ks_mem w l0 x n]
    by_cases h1 : w.getD n 0 = 1
    · rw [if_pos h1]
      refine ⟨fun h => h.imp id fun ⟨j, hj, e⟩ => ⟨j, by omega, e⟩, fun h => h.imp id fun ⟨j, hj, e, e'⟩ => ⟨j, ?_, e, e'⟩⟩
      by_cases hjn : j = n
      · subst hjn; omega
      · omega
    · rw [if_neg h1]
      by_cases h2 : w.getD n 0 = -1
      · rw [if_pos h2, List.mem_append, List.mem_singleton]
        refine ⟨fun h => ?_, fun h => ?_⟩
        · rcases h with (h | h) | ⟨j, hj, e⟩
          · exact Or.inl h
          · exact Or.inr ⟨n, by omega, h2, h.symm⟩
          · exact Or.inr ⟨j, by omega, e⟩
        · rcases h with h | ⟨j, hj, e, e'⟩
          · exact Or.inl (Or.inl h)
          · by_cases hjn : j = n
            · subst hjn; exact Or.inl (Or.inr e'.symm)
            · exact Or.inr ⟨j, by omega, e, e'⟩
      · rw [if_neg h2]
        refine ⟨fun h => h.imp id fun ⟨j, hj, e⟩ => ⟨j, by omega, e⟩, fun h => h.imp id fun ⟨j, hj, e, e'⟩ => ⟨j, ?_, e, e'⟩⟩
        by_cases hjn : j = n
        · subst hjn; exact absurd e h2
        · omega
theorem hasK_mem (l : List Cell) (x : Cell) : hasK l x = true ↔ x ∈ l := by
  unfold hasK
  rw [List.any_eq_true]
  refine ⟨fun ⟨y, hy, e⟩ => ?_, fun h => ⟨x, h, by simp [eqK]⟩⟩
  have : x = y := by
    simp only [eqK, Bool.and_eq_true, beq_iff_eq, decide_eq_true_eq] at e
    exact Prod.ext e.1 (Prod.ext e.2.1 e.2.2)
  rw [this]; exact hy
theorem hasK_Pw {w : List Int} {l0 : List Cell} {p : Int} (h : okp p l0 = true) (x : Cell) : hasK (ks w l0 l0.length []) x = Pw w l0 x := by
  rw [Bool.eq_iff_iff, hasK_mem, ks_mem, Pw_iff h]
  simp
/-- the whole change -/
def adS (w : List Int) (s : S3) : S3 := mgS (Pw w s.1) 128 0 (lvS 128 (spS w s.1.length s))
set_option maxHeartbeats 1000000 in
theorem m_spec_merge (k : Nat) (hk : 2000000 ≤ k) (fu : List (Nat × Nat)) (z1 z2 z3 z4 : Bool) (l0 : List Cell) (m0 t0 b0 : List Int) (r0 : Int) (q1 : Bool) (p1 : List Cell) (q2 : Bool) (p2 : List Int) (q3 : Bool) (p3 : List Int) (q4 : Bool) (p4 : List Int) (x18 : Int) (zw : Bool) (w : List Int) (r : Int) (b : List Int) (hl0 : l0.length ≤ 128) (hw : w.length = l0.length) : ∀ (F N i : Nat) (s : S3), s.1.length - i ≤ F → F < N → i + F ≤ 4096 → StU r s b →
    lp (k + 6) spec_l17Adapt [] fu 10 (N) (s_spec_l17Adapt_10 (i : Int) z1 l0 z2 m0 z3 t0 z4 b0 r0 q1 p1 q2 p2 q3 p3 q4 p4 x18 zw w false s.1 false s.2.1 false s.2.2 false b r) = some [.agg [.int .i64 (r), .arr true (false) (.r3 ((mgS (Pw w l0) F i s).1)), .arr true (false) (.ints .i64 ((mgS (Pw w l0) F i s).2.1)), .arr true (false) (.ints .i64 ((mgS (Pw w l0) F i s).2.2)), .arr true (false) (.ints .i64 (b))]]
  | F, 0, i, s, hF, hN, hi, U => by omega
  | 0, N + 1, i, s, hF, hN, hi, U => by
    rw [l_spec_l17Adapt_10]
    have L := U.len; have ml := U.ml; have tl := U.tl
    simp (disch := omega) only [bindS, nth0, nth1, nth2, nth3, bit, cell0, cell1, cell2, cell3, cell4, cell5, cell6, cell7, cell8, cell9, cell10, cell11, cell12, cell13, cell14, cell15, cell16, cell17, cell18, cell19, cell20, cell21, cell22, cell23, toInt_int, toBool_bool, toStr_str, nil_arr, r3_arr, r4_arr, ints_arr, bools_arr, strs_arr, nI, condT, condF, Bool.not_true, Bool.not_false, Bool.and_true, Bool.true_and, Bool.and_false, Bool.false_and, Bool.or_true, Bool.true_or, Bool.or_false, Bool.false_or, beq_self_eq_true, dTT, dFF, dT, dF, bigI, big0, nilApp, wrapI, wrapU, List.length_set, List.length_replicate, Int.toNat_natCast, castS, castS2, imax, imin]; rfl
  | F + 1, N + 1, i, s, hF, hN, hi, U => by
    rw [l_spec_l17Adapt_10]
    have L := U.len; have ml := U.ml; have tl := U.tl
    unfold mgS
    by_cases g : i + 1 < s.1.length
    · rw [if_pos g]
      have IH0 := m_spec_merge k hk fu z1 z2 z3 z4 l0 m0 t0 b0 r0 q1 p1 q2 p2 q3 p3 q4 p4 x18 zw w r b hl0 hw F N (i + 1) s (by omega) (by omega) (by omega) U
      have eX := c_spec_LeafOf (k + 5) (by omega) r0 z1 l0 (s.1.getD i zz3) (by omega)
      have eY := c_spec_LeafOf (k + 5) (by omega) r0 z1 l0 (s.1.getD (i + 1) zz3) (by omega)
      have eM := c_spec_l06May (k + 2) (by omega) r false s.1 U.mesh i g
      rcases lof_spec l0 (s.1.getD i zz3) with ⟨ex, _⟩ | ⟨j, hj, ex, _⟩
      · have pX : Pw w l0 (s.1.getD i zz3) = false := by unfold Pw; rw [ex]; simp
        rw [ex] at eX
        rw [if_neg (by rw [pX]; simp)]
        simp (disch := omega) only [bindS, nth0, nth1, nth2, nth3, bit, cell0, cell1, cell2, cell3, cell4, cell5, cell6, cell7, cell8, cell9, cell10, cell11, cell12, cell13, cell14, cell15, cell16, cell17, cell18, cell19, cell20, cell21, cell22, cell23, toInt_int, toBool_bool, toStr_str, nil_arr, r3_arr, r4_arr, ints_arr, bools_arr, strs_arr, nI, condT, condF, Bool.not_true, Bool.not_false, Bool.and_true, Bool.true_and, Bool.and_false, Bool.false_and, Bool.or_true, Bool.true_or, Bool.or_false, Bool.false_or, beq_self_eq_true, dTT, dFF, dT, dF, bigI, big0, nilApp, wrapI, wrapU, List.length_set, List.length_replicate, Int.toNat_natCast, castS, castS2, imax, imin, eX, eY, IH0]
      have pX : Pw w l0 (s.1.getD i zz3) = decide (w.getD j 0 = -1) := by unfold Pw; rw [ex]; simp
      rw [ex] at eX
      rcases lof_spec l0 (s.1.getD (i + 1) zz3) with ⟨ey, _⟩ | ⟨q, hq, ey, _⟩
      · have pY : Pw w l0 (s.1.getD (i + 1) zz3) = false := by unfold Pw; rw [ey]; simp
        rw [ey] at eY
        rw [if_neg (by rw [pY]; simp)]
        simp (disch := omega) only [bindS, nth0, nth1, nth2, nth3, bit, cell0, cell1, cell2, cell3, cell4, cell5, cell6, cell7, cell8, cell9, cell10, cell11, cell12, cell13, cell14, cell15, cell16, cell17, cell18, cell19, cell20, cell21, cell22, cell23, toInt_int, toBool_bool, toStr_str, nil_arr, r3_arr, r4_arr, ints_arr, bools_arr, strs_arr, nI, condT, condF, Bool.not_true, Bool.not_false, Bool.and_true, Bool.true_and, Bool.and_false, Bool.false_and, Bool.or_true, Bool.true_or, Bool.or_false, Bool.false_or, beq_self_eq_true, dTT, dFF, dT, dF, bigI, big0, nilApp, wrapI, wrapU, List.length_set, List.length_replicate, Int.toNat_natCast, castS, castS2, imax, imin, eX, eY, IH0]
      have pY : Pw w l0 (s.1.getD (i + 1) zz3) = decide (w.getD q 0 = -1) := by unfold Pw; rw [ey]; simp
      rw [ey] at eY
      by_cases h1 : w.getD j 0 = -1
      · by_cases h2 : w.getD q 0 = -1
        · rw [dT h1] at pX
          rw [dT h2] at pY
          cases hm : mayC s.1 i
          · rw [if_neg (by rw [pX, pY]; simp)]
            simp (disch := omega) only [bindS, nth0, nth1, nth2, nth3, bit, cell0, cell1, cell2, cell3, cell4, cell5, cell6, cell7, cell8, cell9, cell10, cell11, cell12, cell13, cell14, cell15, cell16, cell17, cell18, cell19, cell20, cell21, cell22, cell23, toInt_int, toBool_bool, toStr_str, nil_arr, r3_arr, r4_arr, ints_arr, bools_arr, strs_arr, nI, condT, condF, Bool.not_true, Bool.not_false, Bool.and_true, Bool.true_and, Bool.and_false, Bool.false_and, Bool.or_true, Bool.true_or, Bool.or_false, Bool.false_or, beq_self_eq_true, dTT, dFF, dT, dF, bigI, big0, nilApp, wrapI, wrapU, List.length_set, List.length_replicate, Int.toNat_natCast, castS, castS2, imax, imin, eX, eY, h1, h2, eM, hm, IH0]
          · have hs := hm
            simp only [mayC, Bool.and_eq_true] at hs
            have sl := sib_lev hs.1
            have U' := cm_U U g hs.1
            have ln := mergeL_len g
            have IH1 := m_spec_merge k hk fu z1 z2 z3 z4 l0 m0 t0 b0 r0 q1 p1 q2 p2 q3 p3 q4 p4 x18 zw w r b hl0 hw F N (i + 1) (cmS s i) (by show (mergeL s.1 i).length - (i + 1) ≤ F; omega) (by omega) (by omega) U'
            have eG := c_spec_l08Merge (k + 1) (by omega) r s b U i g sl
            rw [if_pos (by rw [pX, pY]; simp)]
            simp (disch := omega) only [bindS, nth0, nth1, nth2, nth3, bit, cell0, cell1, cell2, cell3, cell4, cell5, cell6, cell7, cell8, cell9, cell10, cell11, cell12, cell13, cell14, cell15, cell16, cell17, cell18, cell19, cell20, cell21, cell22, cell23, toInt_int, toBool_bool, toStr_str, nil_arr, r3_arr, r4_arr, ints_arr, bools_arr, strs_arr, nI, condT, condF, Bool.not_true, Bool.not_false, Bool.and_true, Bool.true_and, Bool.and_false, Bool.false_and, Bool.or_true, Bool.true_or, Bool.or_false, Bool.false_or, beq_self_eq_true, dTT, dFF, dT, dF, bigI, big0, nilApp, wrapI, wrapU, List.length_set, List.length_replicate, Int.toNat_natCast, castS, castS2, imax, imin, eX, eY, h1, h2, eM, hm, eG, IH1]
        · rw [dF h2] at pY
          rw [if_neg (by rw [pY]; simp)]
          simp (disch := omega) only [bindS, nth0, nth1, nth2, nth3, bit, cell0, cell1, cell2, cell3, cell4, cell5, cell6, cell7, cell8, cell9, cell10, cell11, cell12, cell13, cell14, cell15, cell16, cell17, cell18, cell19, cell20, cell21, cell22, cell23, toInt_int, toBool_bool, toStr_str, nil_arr, r3_arr, r4_arr, ints_arr, bools_arr, strs_arr, nI, condT, condF, Bool.not_true, Bool.not_false, Bool.and_true, Bool.true_and, Bool.and_false, Bool.false_and, Bool.or_true, Bool.true_or, Bool.or_false, Bool.false_or, beq_self_eq_true, dTT, dFF, dT, dF, bigI, big0, nilApp, wrapI, wrapU, List.length_set, List.length_replicate, Int.toNat_natCast, castS, castS2, imax, imin, eX, eY, h1, h2, IH0]
      · rw [dF h1] at pX
        rw [if_neg (by rw [pX]; simp)]
        simp (disch := omega) only [bindS, nth0, nth1, nth2, nth3, bit, cell0, cell1, cell2, cell3, cell4, cell5, cell6, cell7, cell8, cell9, cell10, cell11, cell12, cell13, cell14, cell15, cell16, cell17, cell18, cell19, cell20, cell21, cell22, cell23, toInt_int, toBool_bool, toStr_str, nil_arr, r3_arr, r4_arr, ints_arr, bools_arr, strs_arr, nI, condT, condF, Bool.not_true, Bool.not_false, Bool.and_true, Bool.true_and, Bool.and_false, Bool.false_and, Bool.or_true, Bool.true_or, Bool.or_false, Bool.false_or, beq_self_eq_true, dTT, dFF, dT, dF, bigI, big0, nilApp, wrapI, wrapU, List.length_set, List.length_replicate, Int.toNat_natCast, castS, castS2, imax, imin, eX, eY, h1, IH0]
    · rw [if_neg g]; simp (disch := omega) only [bindS, nth0, nth1, nth2, nth3, bit, cell0, cell1, cell2, cell3, cell4, cell5, cell6, cell7, cell8, cell9, cell10, cell11, cell12, cell13, cell14, cell15, cell16, cell17, cell18, cell19, cell20, cell21, cell22, cell23, toInt_int, toBool_bool, toStr_str, nil_arr, r3_arr, r4_arr, ints_arr, bools_arr, strs_arr, nI, condT, condF, Bool.not_true, Bool.not_false, Bool.and_true, Bool.true_and, Bool.and_false, Bool.false_and, Bool.or_true, Bool.true_or, Bool.or_false, Bool.false_or, beq_self_eq_true, dTT, dFF, dT, dF, bigI, big0, nilApp, wrapI, wrapU, List.length_set, List.length_replicate, Int.toNat_natCast, castS, castS2, imax, imin]
theorem m_spec_split (k : Nat) (hk : 2000000 ≤ k) (fu : List (Nat × Nat)) (z1 z2 z3 z4 : Bool) (l0 : List Cell) (m0 t0 b0 : List Int) (r0 : Int) (q1 : Bool) (p1 : List Cell) (q2 : Bool) (p2 : List Int) (q3 : Bool) (p3 : List Int) (q4 : Bool) (p4 : List Int) (x18 : Int) (zw : Bool) (w : List Int) (r : Int) (b : List Int) (hl0 : l0.length ≤ 128) (hw : w.length = l0.length) (hw1 : ∀ j, w.getD j 0 = 1 → levAt l0 j < 4) : ∀ (N n : Nat) (s : S3), n < N → n ≤ l0.length → n ≤ s.1.length → (∀ j, j < n → s.1.getD j zz3 = l0.getD j zz3) → StU r s b →
    lp (k + 6) spec_l17Adapt [] fu 4 (N) (s_spec_l17Adapt_4 ((n : Int) - 1) z1 l0 z2 m0 z3 t0 z4 b0 r0 q1 p1 q2 p2 q3 p3 q4 p4 x18 zw w false s.1 false s.2.1 false s.2.2 false b r) = some [.agg [.int .i64 (r), .arr true (false) (.r3 ((mgS (Pw w l0) 128 0 (lvS 128 (spS w n s))).1)), .arr true (false) (.ints .i64 ((mgS (Pw w l0) 128 0 (lvS 128 (spS w n s))).2.1)), .arr true (false) (.ints .i64 ((mgS (Pw w l0) 128 0 (lvS 128 (spS w n s))).2.2)), .arr true (false) (.ints .i64 (b))]]
  | 0, n, s, hN, hn, hs, he, U => by omega
  | N + 1, 0, s, hN, hn, hs, he, U => by
    rw [l_spec_l17Adapt_4]
    have L := U.len
    have eL := c_spec_level k (by omega) r s b U
    have U' := (lvS_U 128 s U (by omega)).1
    have L' := U'.len
    have e := m_spec_merge k hk fu z1 z2 z3 z4 l0 m0 t0 b0 r0 q1 p1 q2 p2 q3 p3 q4 p4 x18 zw w r b hl0 hw 128 (k + 6) 0 (lvS 128 s) (by omega) (by omega) (by omega) U'
    rw [show ((0 : Nat) : Int) = 0 from rfl] at e ⊢
    simp (disch := omega) only [bindS, nth0, nth1, nth2, nth3, bit, cell0, cell1, cell2, cell3, cell4, cell5, cell6, cell7, cell8, cell9, cell10, cell11, cell12, cell13, cell14, cell15, cell16, cell17, cell18, cell19, cell20, cell21, cell22, cell23, toInt_int, toBool_bool, toStr_str, nil_arr, r3_arr, r4_arr, ints_arr, bools_arr, strs_arr, nI, condT, condF, Bool.not_true, Bool.not_false, Bool.and_true, Bool.true_and, Bool.and_false, Bool.false_and, Bool.or_true, Bool.true_or, Bool.or_false, Bool.false_or, beq_self_eq_true, dTT, dFF, dT, dF, bigI, big0, nilApp, wrapI, wrapU, List.length_set, List.length_replicate, Int.toNat_natCast, castS, castS2, imax, imin, eL, e]
    rfl
  | N + 1, n + 1, s, hN, hn, hs, he, U => by
    rw [show ((n + 1 : Nat) : Int) - 1 = (n : Int) by omega, l_spec_l17Adapt_4]
    have L := U.len
    unfold spS
    by_cases h1 : w.getD n 0 = 1
    · rw [if_pos h1]
      have hl : levAt s.1 n < 4 := by have := hw1 n h1; unfold levAt at *; rw [he n (by omega)]; exact this
      have U' := rf_U U (show n < s.1.length by omega) hl
      have ln := splitL_len (show n < s.1.length by omega)
      have IH := m_spec_split k hk fu z1 z2 z3 z4 l0 m0 t0 b0 r0 q1 p1 q2 p2 q3 p3 q4 p4 x18 zw w r b hl0 hw hw1 N n (rfS s n) (by omega) (by omega) (by show n ≤ (splitL s.1 n).length; omega) (fun j hj => by
        show (splitL s.1 n).getD j zz3 = _
        rw [splitL_lo (by omega) hj]; exact he j (by omega)) U'
      have eS := c_spec_l08Split (k + 1) (by omega) r s b U n (by omega) hl
      simp (disch := omega) only [bindS, nth0, nth1, nth2, nth3, bit, cell0, cell1, cell2, cell3, cell4, cell5, cell6, cell7, cell8, cell9, cell10, cell11, cell12, cell13, cell14, cell15, cell16, cell17, cell18, cell19, cell20, cell21, cell22, cell23, toInt_int, toBool_bool, toStr_str, nil_arr, r3_arr, r4_arr, ints_arr, bools_arr, strs_arr, nI, condT, condF, Bool.not_true, Bool.not_false, Bool.and_true, Bool.true_and, Bool.and_false, Bool.false_and, Bool.or_true, Bool.true_or, Bool.or_false, Bool.false_or, beq_self_eq_true, dTT, dFF, dT, dF, bigI, big0, nilApp, wrapI, wrapU, List.length_set, List.length_replicate, Int.toNat_natCast, castS, castS2, imax, imin, h1, eS, IH]
    · rw [if_neg h1]
      have IH := m_spec_split k hk fu z1 z2 z3 z4 l0 m0 t0 b0 r0 q1 p1 q2 p2 q3 p3 q4 p4 x18 zw w r b hl0 hw hw1 N n s (by omega) (by omega) (by omega) (fun j hj => he j (by omega)) U
      simp (disch := omega) only [bindS, nth0, nth1, nth2, nth3, bit, cell0, cell1, cell2, cell3, cell4, cell5, cell6, cell7, cell8, cell9, cell10, cell11, cell12, cell13, cell14, cell15, cell16, cell17, cell18, cell19, cell20, cell21, cell22, cell23, toInt_int, toBool_bool, toStr_str, nil_arr, r3_arr, r4_arr, ints_arr, bools_arr, strs_arr, nI, condT, condF, Bool.not_true, Bool.not_false, Bool.and_true, Bool.true_and, Bool.and_false, Bool.false_and, Bool.or_true, Bool.true_or, Bool.or_false, Bool.false_or, beq_self_eq_true, dTT, dFF, dT, dF, bigI, big0, nilApp, wrapI, wrapU, List.length_set, List.length_replicate, Int.toNat_natCast, castS, castS2, imax, imin, IH]
theorem wsh_one {l : List Cell} {m b : List Int} {hi lo : Int} (j : Nat) (h : (tab l.length (wsh l m b hi lo)).getD j 0 = 1) : levAt l j < 4 := by
  by_cases hj : j < l.length
  · rw [tab_getD hj] at h
    unfold wsh at h
    by_cases c : hi < jmp l m b j ∧ levAt l j < 4
    · exact c.2
    · rw [if_neg c] at h
      split at h <;> omega
  · rw [getD_ge (by rw [tab_len]; omega)] at h; omega
theorem c_spec_l17Adapt (k : Nat) (hk : 2000000 ≤ k) (r : Int) (l : List Cell) (m t b : List Int) (F : StF r l m t b) (hi lo : Int) :
    go (k + 7) spec_l17Adapt [.agg [.int .i64 (r), .arr false (false) (.r3 (l)), .arr false (false) (.ints .i64 (m)), .arr false (false) (.ints .i64 (t)), .arr false (false) (.ints .i64 (b))], .int .i64 hi, .int .i64 lo] = some [.agg [.int .i64 (r), .arr true (false) (.r3 ((adS (tab l.length (wsh l m b hi lo)) (l, m, t)).1)), .arr true (false) (.ints .i64 ((adS (tab l.length (wsh l m b hi lo)) (l, m, t)).2.1)), .arr true (false) (.ints .i64 ((adS (tab l.length (wsh l m b hi lo)) (l, m, t)).2.2)), .arr true (false) (.ints .i64 (b))]] := by
  rw [e_spec_l17Adapt]
  have L := F.len; have ml := F.ml; have tl := F.tl; have bl := F.bl; have rr := F.rr
  have eW := c_spec_Wishes (k + 3) (by omega) hi lo r false false false false l m t b F
  simp (disch := omega) only [bindS, nth0, nth1, nth2, nth3, bit, cell0, cell1, cell2, cell3, cell4, cell5, cell6, cell7, cell8, cell9, cell10, cell11, cell12, cell13, cell14, cell15, cell16, cell17, cell18, cell19, cell20, cell21, cell22, cell23, toInt_int, toBool_bool, toStr_str, nil_arr, r3_arr, r4_arr, ints_arr, bools_arr, strs_arr, nI, condT, condF, Bool.not_true, Bool.not_false, Bool.and_true, Bool.true_and, Bool.and_false, Bool.false_and, Bool.or_true, Bool.true_or, Bool.or_false, Bool.false_or, beq_self_eq_true, dTT, dFF, dT, dF, bigI, big0, nilApp, wrapI, wrapU, List.length_set, List.length_replicate, Int.toNat_natCast, castS, castS2, imax, imin, eW, c_spec_l07Copy, tab_len]
  exact m_spec_split k hk [] false false false false l m t b r true [] true [] true [] true [] 0 false _ r b (by omega) (tab_len _ _) wsh_one (k + 6) l.length (l, m, t) (by omega) (by omega) (by show l.length ≤ l.length; omega) (fun j hj => rfl) F.toU
set_option maxHeartbeats 1000000 in
theorem m_impl_merge (k : Nat) (hk : 2000000 ≤ k) (fu : List (Nat × Nat)) (w0 : Int) (v1 : Bool) (w1 : List Cell) (v2 : Bool) (w2 : List Int) (v3 : Bool) (w3 : List Int) (v4 : Bool) (w4 : List Int) (r : Int) (b : List Int) (K : List Cell) (P : Cell → Bool) (hP : ∀ x, hasK K x = P x) : ∀ (F N i : Nat) (s : S3), s.1.length - i ≤ F → F < N → i + F ≤ 4096 → StU r s b →
    lp (k + 9) impl_State_adapt [.ptr true [.int .i64 w0, .arr true v1 (.r3 w1), .arr true v2 (.ints .i64 w2), .arr true v3 (.ints .i64 w3), .arr true v4 (.ints .i64 w4)]] fu 12 N (s_impl_State_adapt_12 (i : Int) false s.1 false s.2.1 false s.2.2 false b r K) = some [.ptr true [.int .i64 (r), .arr true (false) (.r3 ((mgS P F i s).1)), .arr true (false) (.ints .i64 ((mgS P F i s).2.1)), .arr true (false) (.ints .i64 ((mgS P F i s).2.2)), .arr true (false) (.ints .i64 (b))]]
  | F, 0, i, s, hF, hN, hi, U => by omega
  | 0, N + 1, i, s, hF, hN, hi, U => by
    rw [l_impl_State_adapt_12]
    have L := U.len
    simp (disch := omega) only [bindS, nth0, nth1, nth2, nth3, bit, cell0, cell1, cell2, cell3, cell4, cell5, cell6, cell7, cell8, cell9, cell10, cell11, cell12, cell13, cell14, cell15, cell16, cell17, cell18, cell19, cell20, cell21, cell22, cell23, toInt_int, toBool_bool, toStr_str, nil_arr, r3_arr, r4_arr, ints_arr, bools_arr, strs_arr, nI, condT, condF, Bool.not_true, Bool.not_false, Bool.and_true, Bool.true_and, Bool.and_false, Bool.false_and, Bool.or_true, Bool.true_or, Bool.or_false, Bool.false_or, beq_self_eq_true, dTT, dFF, dT, dF, bigI, big0, nilApp, wrapI, wrapU, List.length_set, List.length_replicate, Int.toNat_natCast, castS, castS2, imax, imin]; rfl
  | F + 1, N + 1, i, s, hF, hN, hi, U => by
    rw [l_impl_State_adapt_12]
    have L := U.len; have ml := U.ml; have tl := U.tl
    unfold mgS
    by_cases g : i + 1 < s.1.length
    · rw [if_pos g]
      have IH0 := m_impl_merge k hk fu w0 v1 w1 v2 w2 v3 w3 v4 w4 r b K P hP F N (i + 1) s (by omega) (by omega) (by omega) U
      have eM := c_impl_mayCoarsen (k + 3) (by omega) r false s.1 U.mesh i g
      have hx := hP (s.1.getD i zz3); have hy := hP (s.1.getD (i + 1) zz3)
      cases p1 : P (s.1.getD i zz3)
      · rw [p1] at hx
        rw [if_neg (by simp)]
        simp (disch := omega) only [bindS, nth0, nth1, nth2, nth3, bit, cell0, cell1, cell2, cell3, cell4, cell5, cell6, cell7, cell8, cell9, cell10, cell11, cell12, cell13, cell14, cell15, cell16, cell17, cell18, cell19, cell20, cell21, cell22, cell23, toInt_int, toBool_bool, toStr_str, nil_arr, r3_arr, r4_arr, ints_arr, bools_arr, strs_arr, nI, condT, condF, Bool.not_true, Bool.not_false, Bool.and_true, Bool.true_and, Bool.and_false, Bool.false_and, Bool.or_true, Bool.true_or, Bool.or_false, Bool.false_or, beq_self_eq_true, dTT, dFF, dT, dF, bigI, big0, nilApp, wrapI, wrapU, List.length_set, List.length_replicate, Int.toNat_natCast, castS, castS2, imax, imin, hx, IH0]
      rw [p1] at hx
      cases p2 : P (s.1.getD (i + 1) zz3)
      · rw [p2] at hy
        rw [if_neg (by simp)]
        simp (disch := omega) only [bindS, nth0, nth1, nth2, nth3, bit, cell0, cell1, cell2, cell3, cell4, cell5, cell6, cell7, cell8, cell9, cell10, cell11, cell12, cell13, cell14, cell15, cell16, cell17, cell18, cell19, cell20, cell21, cell22, cell23, toInt_int, toBool_bool, toStr_str, nil_arr, r3_arr, r4_arr, ints_arr, bools_arr, strs_arr, nI, condT, condF, Bool.not_true, Bool.not_false, Bool.and_true, Bool.true_and, Bool.and_false, Bool.false_and, Bool.or_true, Bool.true_or, Bool.or_false, Bool.false_or, beq_self_eq_true, dTT, dFF, dT, dF, bigI, big0, nilApp, wrapI, wrapU, List.length_set, List.length_replicate, Int.toNat_natCast, castS, castS2, imax, imin, hx, hy, IH0]
      rw [p2] at hy
      cases hm : mayC s.1 i
      · rw [if_neg (by simp)]
        simp (disch := omega) only [bindS, nth0, nth1, nth2, nth3, bit, cell0, cell1, cell2, cell3, cell4, cell5, cell6, cell7, cell8, cell9, cell10, cell11, cell12, cell13, cell14, cell15, cell16, cell17, cell18, cell19, cell20, cell21, cell22, cell23, toInt_int, toBool_bool, toStr_str, nil_arr, r3_arr, r4_arr, ints_arr, bools_arr, strs_arr, nI, condT, condF, Bool.not_true, Bool.not_false, Bool.and_true, Bool.true_and, Bool.and_false, Bool.false_and, Bool.or_true, Bool.true_or, Bool.or_false, Bool.false_or, beq_self_eq_true, dTT, dFF, dT, dF, bigI, big0, nilApp, wrapI, wrapU, List.length_set, List.length_replicate, Int.toNat_natCast, castS, castS2, imax, imin, hx, hy, eM, hm, IH0]
      · have hs := hm
        simp only [mayC, Bool.and_eq_true] at hs
        have sl := sib_lev hs.1
        have U' := cm_U U g hs.1
        have ln := mergeL_len g
        have IH1 := m_impl_merge k hk fu w0 v1 w1 v2 w2 v3 w3 v4 w4 r b K P hP F N (i + 1) (cmS s i) (by show (mergeL s.1 i).length - (i + 1) ≤ F; omega) (by omega) (by omega) U'
        have eG := c_impl_coarsen (k + 3) (by omega) r s b U i g sl
        rw [if_pos (show (true && (true && true)) = true from rfl)]
        simp (disch := omega) only [bindS, nth0, nth1, nth2, nth3, bit, cell0, cell1, cell2, cell3, cell4, cell5, cell6, cell7, cell8, cell9, cell10, cell11, cell12, cell13, cell14, cell15, cell16, cell17, cell18, cell19, cell20, cell21, cell22, cell23, toInt_int, toBool_bool, toStr_str, nil_arr, r3_arr, r4_arr, ints_arr, bools_arr, strs_arr, nI, condT, condF, Bool.not_true, Bool.not_false, Bool.and_true, Bool.true_and, Bool.and_false, Bool.false_and, Bool.or_true, Bool.true_or, Bool.or_false, Bool.false_or, beq_self_eq_true, dTT, dFF, dT, dF, bigI, big0, nilApp, wrapI, wrapU, List.length_set, List.length_replicate, Int.toNat_natCast, castS, castS2, imax, imin, hx, hy, eM, hm, eG, qcell0, qcell1, qcell2, ucell3, ucell4, IH1]
    · rw [if_neg g]; simp (disch := omega) only [bindS, nth0, nth1, nth2, nth3, bit, cell0, cell1, cell2, cell3, cell4, cell5, cell6, cell7, cell8, cell9, cell10, cell11, cell12, cell13, cell14, cell15, cell16, cell17, cell18, cell19, cell20, cell21, cell22, cell23, toInt_int, toBool_bool, toStr_str, nil_arr, r3_arr, r4_arr, ints_arr, bools_arr, strs_arr, nI, condT, condF, Bool.not_true, Bool.not_false, Bool.and_true, Bool.true_and, Bool.and_false, Bool.false_and, Bool.or_true, Bool.true_or, Bool.or_false, Bool.false_or, beq_self_eq_true, dTT, dFF, dT, dF, bigI, big0, nilApp, wrapI, wrapU, List.length_set, List.length_replicate, Int.toNat_natCast, castS, castS2, imax, imin]
theorem m_impl_split (k : Nat) (hk : 2000000 ≤ k) (fu : List (Nat × Nat)) (w0 : Int) (v1 : Bool) (w1 : List Cell) (v2 : Bool) (w2 : List Int) (v3 : Bool) (w3 : List Int) (v4 : Bool) (w4 : List Int) (r : Int) (b : List Int) (l0 : List Cell) (zw : Bool) (w : List Int) (P : Cell → Bool) (hl0 : l0.length ≤ 128) (hw : w.length = l0.length) (hw1 : ∀ j, w.getD j 0 = 1 → levAt l0 j < 4) : ∀ (N n : Nat) (s : S3) (acc : List Cell), n < N → n ≤ l0.length → n ≤ s.1.length → (∀ j, j < n → s.1.getD j zz3 = l0.getD j zz3) → StU r s b → (∀ x, hasK (ks w l0 n acc) x = P x) →
    lp (k + 9) impl_State_adapt [.ptr true [.int .i64 w0, .arr true v1 (.r3 w1), .arr true v2 (.ints .i64 w2), .arr true v3 (.ints .i64 w3), .arr true v4 (.ints .i64 w4)]] fu 3 N (s_impl_State_adapt_3 ((n : Int) - 1) false s.1 false s.2.1 false s.2.2 false b r zw w acc) = some [.ptr true [.int .i64 (r), .arr true (false) (.r3 ((mgS P 128 0 (lvS 128 (spS w n s))).1)), .arr true (false) (.ints .i64 ((mgS P 128 0 (lvS 128 (spS w n s))).2.1)), .arr true (false) (.ints .i64 ((mgS P 128 0 (lvS 128 (spS w n s))).2.2)), .arr true (false) (.ints .i64 (b))]]
  | 0, n, s, acc, hN, hn, hs, he, U, hK => by omega
  | N + 1, 0, s, acc, hN, hn, hs, he, U, hK => by
    rw [l_impl_State_adapt_3]
    have L := U.len
    have eL := c_impl_balance (k + 5) (by omega) r s b U
    have U' := (lvS_U 128 s U (by omega)).1
    have L' := U'.len
    have e := m_impl_merge k hk fu w0 v1 w1 v2 w2 v3 w3 v4 w4 r b acc P hK 128 (k + 9) 0 (lvS 128 s) (by omega) (by omega) (by omega) U'
    rw [show ((0 : Nat) : Int) = 0 from rfl] at e ⊢
    simp (disch := omega) only [bindS, nth0, nth1, nth2, nth3, bit, cell0, cell1, cell2, cell3, cell4, cell5, cell6, cell7, cell8, cell9, cell10, cell11, cell12, cell13, cell14, cell15, cell16, cell17, cell18, cell19, cell20, cell21, cell22, cell23, toInt_int, toBool_bool, toStr_str, nil_arr, r3_arr, r4_arr, ints_arr, bools_arr, strs_arr, nI, condT, condF, Bool.not_true, Bool.not_false, Bool.and_true, Bool.true_and, Bool.and_false, Bool.false_and, Bool.or_true, Bool.true_or, Bool.or_false, Bool.false_or, beq_self_eq_true, dTT, dFF, dT, dF, bigI, big0, nilApp, wrapI, wrapU, List.length_set, List.length_replicate, Int.toNat_natCast, castS, castS2, imax, imin, eL, qcell0, qcell1, qcell2, ucell3, ucell4, e]
    rfl
  | N + 1, n + 1, s, acc, hN, hn, hs, he, U, hK => by
    rw [show ((n + 1 : Nat) : Int) - 1 = (n : Int) by omega, l_impl_State_adapt_3]
    have L := U.len
    unfold spS
    unfold ks at hK
    by_cases h1 : w.getD n 0 = 1
    · rw [if_pos h1]
      rw [if_pos h1] at hK
      have hl : levAt s.1 n < 4 := by have := hw1 n h1; unfold levAt at *; rw [he n (by omega)]; exact this
      have U' := rf_U U (show n < s.1.length by omega) hl
      have ln := splitL_len (show n < s.1.length by omega)
      have IH := m_impl_split k hk fu w0 v1 w1 v2 w2 v3 w3 v4 w4 r b l0 zw w P hl0 hw hw1 N n (rfS s n) acc (by omega) (by omega) (by show n ≤ (splitL s.1 n).length; omega) (fun j hj => by
        show (splitL s.1 n).getD j zz3 = _
        rw [splitL_lo (by omega) hj]; exact he j (by omega)) U' hK
      have eS := c_impl_refine (k + 6) (by omega) r s b U n (by omega) hl
      simp (disch := omega) only [bindS, nth0, nth1, nth2, nth3, bit, cell0, cell1, cell2, cell3, cell4, cell5, cell6, cell7, cell8, cell9, cell10, cell11, cell12, cell13, cell14, cell15, cell16, cell17, cell18, cell19, cell20, cell21, cell22, cell23, toInt_int, toBool_bool, toStr_str, nil_arr, r3_arr, r4_arr, ints_arr, bools_arr, strs_arr, nI, condT, condF, Bool.not_true, Bool.not_false, Bool.and_true, Bool.true_and, Bool.and_false, Bool.false_and, Bool.or_true, Bool.true_or, Bool.or_false, Bool.false_or, beq_self_eq_true, dTT, dFF, dT, dF, bigI, big0, nilApp, wrapI, wrapU, List.length_set, List.length_replicate, Int.toNat_natCast, castS, castS2, imax, imin, h1, eS, qcell0, qcell1, qcell2, ucell3, ucell4, IH]
    · rw [if_neg h1]
      rw [if_neg h1] at hK
      by_cases h2 : w.getD n 0 = -1
      · rw [if_pos h2] at hK
        have IH := m_impl_split k hk fu w0 v1 w1 v2 w2 v3 w3 v4 w4 r b l0 zw w P hl0 hw hw1 N n s _ (by omega) (by omega) (by omega) (fun j hj => he j (by omega)) U hK
        have hen := he n (by omega)
        simp (disch := omega) only [bindS, nth0, nth1, nth2, nth3, bit, cell0, cell1, cell2, cell3, cell4, cell5, cell6, cell7, cell8, cell9, cell10, cell11, cell12, cell13, cell14, cell15, cell16, cell17, cell18, cell19, cell20, cell21, cell22, cell23, toInt_int, toBool_bool, toStr_str, nil_arr, r3_arr, r4_arr, ints_arr, bools_arr, strs_arr, nI, condT, condF, Bool.not_true, Bool.not_false, Bool.and_true, Bool.true_and, Bool.and_false, Bool.false_and, Bool.or_true, Bool.true_or, Bool.or_false, Bool.false_or, beq_self_eq_true, dTT, dFF, dT, dF, bigI, big0, nilApp, wrapI, wrapU, List.length_set, List.length_replicate, Int.toNat_natCast, castS, castS2, imax, imin, h2, hen, IH]
      · rw [if_neg h2] at hK
        have IH := m_impl_split k hk fu w0 v1 w1 v2 w2 v3 w3 v4 w4 r b l0 zw w P hl0 hw hw1 N n s acc (by omega) (by omega) (by omega) (fun j hj => he j (by omega)) U hK
        simp (disch := omega) only [bindS, nth0, nth1, nth2, nth3, bit, cell0, cell1, cell2, cell3, cell4, cell5, cell6, cell7, cell8, cell9, cell10, cell11, cell12, cell13, cell14, cell15, cell16, cell17, cell18, cell19, cell20, cell21, cell22, cell23, toInt_int, toBool_bool, toStr_str, nil_arr, r3_arr, r4_arr, ints_arr, bools_arr, strs_arr, nI, condT, condF, Bool.not_true, Bool.not_false, Bool.and_true, Bool.true_and, Bool.and_false, Bool.false_and, Bool.or_true, Bool.true_or, Bool.or_false, Bool.false_or, beq_self_eq_true, dTT, dFF, dT, dF, bigI, big0, nilApp, wrapI, wrapU, List.length_set, List.length_replicate, Int.toNat_natCast, castS, castS2, imax, imin, IH]
theorem c_impl_adapt (k : Nat) (hk : 2000000 ≤ k) (r : Int) (l : List Cell) (m t b : List Int) (F : StF r l m t b) (hi lo : Int) :
    go (k + 10) impl_State_adapt [.ptr true [.int .i64 (r), .arr true (false) (.r3 (l)), .arr true (false) (.ints .i64 (m)), .arr true (false) (.ints .i64 (t)), .arr true (false) (.ints .i64 (b))], .int .i64 hi, .int .i64 lo] = some [.ptr true [.int .i64 (r), .arr true (false) (.r3 ((adS (tab l.length (wsh l m b hi lo)) (l, m, t)).1)), .arr true (false) (.ints .i64 ((adS (tab l.length (wsh l m b hi lo)) (l, m, t)).2.1)), .arr true (false) (.ints .i64 ((adS (tab l.length (wsh l m b hi lo)) (l, m, t)).2.2)), .arr true (false) (.ints .i64 (b))]] := by
  rw [e_impl_State_adapt]
  have L := F.len; have ml := F.ml; have tl := F.tl; have bl := F.bl; have rr := F.rr
  have eW := c_impl_Wishes k (by omega) hi lo r false false false false l m t b F
  simp (disch := omega) only [bindS, nth0, nth1, nth2, nth3, bit, cell0, cell1, cell2, cell3, cell4, cell5, cell6, cell7, cell8, cell9, cell10, cell11, cell12, cell13, cell14, cell15, cell16, cell17, cell18, cell19, cell20, cell21, cell22, cell23, toInt_int, toBool_bool, toStr_str, nil_arr, r3_arr, r4_arr, ints_arr, bools_arr, strs_arr, nI, condT, condF, Bool.not_true, Bool.not_false, Bool.and_true, Bool.true_and, Bool.and_false, Bool.false_and, Bool.or_true, Bool.true_or, Bool.or_false, Bool.false_or, beq_self_eq_true, dTT, dFF, dT, dF, bigI, big0, nilApp, wrapI, wrapU, List.length_set, List.length_replicate, Int.toNat_natCast, castS, castS2, imax, imin, eW, tab_len]
  have hP := hasK_Pw (w := tab l.length (wsh l m b hi lo)) (meshP.1 F.mesh).1
  exact m_impl_split k hk [] _ _ _ _ _ _ _ _ _ r b l false _ _ (by omega) (tab_len _ _) wsh_one (k + 9) l.length (l, m, t) [] (by omega) (by omega) (by show l.length ≤ l.length; omega) (fun j hj => rfl) F.toU hP
theorem c_impl_AdaptState (k : Nat) (hk : 2000000 ≤ k) (r : Int) (l : List Cell) (m t b : List Int) (F : StF r l m t b) (hi lo : Int) :
    go (k + 11) impl_AdaptState [.agg [.int .i64 (r), .arr false (false) (.r3 (l)), .arr false (false) (.ints .i64 (m)), .arr false (false) (.ints .i64 (t)), .arr false (false) (.ints .i64 (b))], .int .i64 hi, .int .i64 lo] = some [.agg [.int .i64 (r), .arr true (false) (.r3 ((adS (tab l.length (wsh l m b hi lo)) (l, m, t)).1)), .arr true (false) (.ints .i64 ((adS (tab l.length (wsh l m b hi lo)) (l, m, t)).2.1)), .arr true (false) (.ints .i64 ((adS (tab l.length (wsh l m b hi lo)) (l, m, t)).2.2)), .arr true (false) (.ints .i64 (b))]] := by
  rw [e_impl_AdaptState]
  have L := F.len; have ml := F.ml; have tl := F.tl; have bl := F.bl; have rr := F.rr
  have g := stF.2 F
  have eA := c_impl_adapt k (by omega) r l m t b F hi lo
  simp (disch := omega) only [bindS, nth0, nth1, nth2, nth3, bit, cell0, cell1, cell2, cell3, cell4, cell5, cell6, cell7, cell8, cell9, cell10, cell11, cell12, cell13, cell14, cell15, cell16, cell17, cell18, cell19, cell20, cell21, cell22, cell23, toInt_int, toBool_bool, toStr_str, nil_arr, r3_arr, r4_arr, ints_arr, bools_arr, strs_arr, nI, condT, condF, Bool.not_true, Bool.not_false, Bool.and_true, Bool.true_and, Bool.and_false, Bool.false_and, Bool.or_true, Bool.true_or, Bool.or_false, Bool.false_or, beq_self_eq_true, dTT, dFF, dT, dF, bigI, big0, nilApp, wrapI, wrapU, List.length_set, List.length_replicate, Int.toNat_natCast, castS, castS2, imax, imin, c_impl_copyState, c_impl_StateOk, g, eA, qcell0, qcell1, qcell2, ucell3, ucell4]
theorem ad_U {r : Int} {l : List Cell} {m t b : List Int} (F : StF r l m t b) (hi lo : Int) : StF r (adS (tab l.length (wsh l m b hi lo)) (l, m, t)).1 (adS (tab l.length (wsh l m b hi lo)) (l, m, t)).2.1 (adS (tab l.length (wsh l m b hi lo)) (l, m, t)).2.2 b := by
  have U := spS_U (tab l.length (wsh l m b hi lo)) l wsh_one l.length (l, m, t) F.toU (Nat.le_refl _) (fun j hj => rfl)
  have V := lvS_U 128 _ U (by have := U.len; omega)
  exact (mgS_U _ 128 0 _ V.1).toF (mgS_unb _ 128 0 _ V.2)
end Go.Proofs.Ytfgccfajhedgdaa
