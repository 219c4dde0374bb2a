/- Work of parts: both readings agree. -/
import Derived.Test.YtljphlfgkdmahaaXK
import Derived.Test.YtljphlfgkdmahaaPF
import Derived.Test.YtljphlfgkdmahaaPV
namespace Go.Proofs.Ytljphlfgkdmahaa
open Go.Ev
set_option linter.unusedVariables false
set_option linter.unusedSimpArgs false
def srt (l : List Int) : Nat → Bool
  | 0 => true
  | n + 1 => !decide (l.getD (n + 1) 0 < l.getD n 0) && srt l n
theorem srt_mono (l : List Int) (a : Nat) : ∀ b, srt l (a + b) = true → srt l a = true
  | 0, h => h
  | b + 1, h => by
    rw [show a + (b + 1) = (a + b) + 1 by omega, srt, Bool.and_eq_true] at h
    exact srt_mono l a b h.2
theorem srt_at {l : List Int} : ∀ {n i : Nat}, srt l n = true → i < n → l.getD i 0 ≤ l.getD (i + 1) 0
  | 0, i, h, hi => by omega
  | n + 1, i, h, hi => by
    rw [srt, Bool.and_eq_true] at h
    by_cases e : i = n
    · subst e; have := h.1; simp only [Bool.not_eq_true', decide_eq_false_iff_not] at this; omega
    · exact srt_at h.2 (by omega)
theorem srt_le {l : List Int} {n : Nat} (h : srt l n = true) (i : Nat) : ∀ d, i + d ≤ n → l.getD i 0 ≤ l.getD (i + d) 0
  | 0, hd => by simp
  | d + 1, hd => by
    have h1 := srt_le h i d (by omega)
    have h2 := srt_at h (i := i + d) (by omega)
    have : i + (d + 1) = i + d + 1 := by omega
    rw [this]; omega
theorem c_cmp_Less (k : Nat) (hk : 2000000 ≤ k) (a : Int) (b : Int) : go (k + 2) cmp_Less_int [(.int .i64 (a)), (.int .i64 (b))] = some [.bool (decide (a < b))] := by
  rw [e_cmp_Less_int]
  have e := e_cmp_isNaN_int (k + 0) a
  simp (disch := omega) only [bindS, nth0, nth1, nth2, nth3, bit, cell0, cell1, cell2, cell3, cell4, cell5, cell6, cell7, cell8, cell9, cell10, cell11, cell12, cell13, cell14, cell15, cell16, cell17, cell18, cell19, cell20, cell21, cell22, cell23, toInt_int, toBool_bool, toStr_str, nil_arr, r3_arr, r4_arr, ints_arr, bools_arr, strs_arr, nI, cond_true, cond_false, Bool.not_true, Bool.not_false, Bool.and_true, Bool.true_and, Bool.and_false, Bool.false_and, Bool.or_true, Bool.true_or, Bool.or_false, Bool.false_or, beq_self_eq_true, dTT, dFF, dT, dF, bigI, big0, nilApp, wrapI, wrapU, List.length_set, List.length_replicate, Int.toNat_natCast, castS, castS2, imax, imin, e]
theorem m_IsSorted (k : Nat) (hk : 2000000 ≤ k) (fu : List (Nat × Nat)) (z : Bool) (l : List Int) (hl : (l.length : Int) ≤ 1048576) : ∀ (n i : Nat), i < l.length → i < n →
    lp (k + 2) slices_IsSorted_int_int [] fu 2 (n) (s_slices_IsSorted_int_int_2 (i : Int) z l) = some [.bool (srt l i)]
  | 0, i, hi, hn => by omega
  | n + 1, 0, hi, hn => by
    rw [l_slices_IsSorted_int_int_2]
    rw [show ((0 : Nat) : Int) = 0 from rfl]
    simp (disch := omega) only [bindS, nth0, nth1, nth2, nth3, bit, cell0, cell1, cell2, cell3, cell4, cell5, cell6, cell7, cell8, cell9, cell10, cell11, cell12, cell13, cell14, cell15, cell16, cell17, cell18, cell19, cell20, cell21, cell22, cell23, toInt_int, toBool_bool, toStr_str, nil_arr, r3_arr, r4_arr, ints_arr, bools_arr, strs_arr, nI, cond_true, cond_false, Bool.not_true, Bool.not_false, Bool.and_true, Bool.true_and, Bool.and_false, Bool.false_and, Bool.or_true, Bool.true_or, Bool.or_false, Bool.false_or, beq_self_eq_true, dTT, dFF, dT, dF, bigI, big0, nilApp, wrapI, wrapU, List.length_set, List.length_replicate, Int.toNat_natCast, castS, castS2, imax, imin, srt]
  | n + 1, i + 1, hi, hn => by
    rw [l_slices_IsSorted_int_int_2]
    have e := m_IsSorted k hk fu z l hl n i (by omega) (by omega)
    have e1 : ((i + 1 : Nat) : Int) - 1 = (i : Int) := by omega
    simp (disch := omega) only [bindS, nth0, nth1, nth2, nth3, bit, cell0, cell1, cell2, cell3, cell4, cell5, cell6, cell7, cell8, cell9, cell10, cell11, cell12, cell13, cell14, cell15, cell16, cell17, cell18, cell19, cell20, cell21, cell22, cell23, toInt_int, toBool_bool, toStr_str, nil_arr, r3_arr, r4_arr, ints_arr, bools_arr, strs_arr, nI, cond_true, cond_false, Bool.not_true, Bool.not_false, Bool.and_true, Bool.true_and, Bool.and_false, Bool.false_and, Bool.or_true, Bool.true_or, Bool.or_false, Bool.false_or, beq_self_eq_true, dTT, dFF, dT, dF, bigI, big0, nilApp, wrapI, wrapU, List.length_set, List.length_replicate, Int.toNat_natCast, castS, castS2, imax, imin, c_cmp_Less, e1, e, srt]
    cases decide (l.getD (i + 1) 0 < l.getD i 0) <;> rfl
def cutsOk (n : Int) (l : List Int) : Bool := inR l.length 2 17 && (decide (l.getD 0 0 = 0) && (decide (l.getD (l.length - 1) 0 = n) && srt l (l.length - 1)))
theorem c_impl_CutsOk (k : Nat) (hk : 2000000 ≤ k) (a : Int) (bz : Bool) (b : List Int) (hl : (b.length : Int) ≤ 1048576) : go (k + 4) impl_CutsOk [(.int .i64 (a)), (.arr false (bz) (.ints .i64 (b)))] = some [.bool (cutsOk a b)] := by
  rw [e_impl_CutsOk]
  unfold cutsOk
  simp (disch := omega) only [bindS, nth0, nth1, nth2, nth3, bit, cell0, cell1, cell2, cell3, cell4, cell5, cell6, cell7, cell8, cell9, cell10, cell11, cell12, cell13, cell14, cell15, cell16, cell17, cell18, cell19, cell20, cell21, cell22, cell23, toInt_int, toBool_bool, toStr_str, nil_arr, r3_arr, r4_arr, ints_arr, bools_arr, strs_arr, nI, cond_true, cond_false, Bool.not_true, Bool.not_false, Bool.and_true, Bool.true_and, Bool.and_false, Bool.false_and, Bool.or_true, Bool.true_or, Bool.or_false, Bool.false_or, beq_self_eq_true, dTT, dFF, dT, dF, bigI, big0, nilApp, wrapI, wrapU, List.length_set, List.length_replicate, Int.toNat_natCast, castS, castS2, imax, imin, c_impl_within]
  cases g : inR (b.length : Int) 2 17
  · rfl
  rw [inR_iff] at g
  rw [e_slices_IsSorted_int_int]
  have e := m_IsSorted k hk [] bz b hl (k + 2) (b.length - 1) (by omega) (by omega)
  have e1 : (b.length : Int) - 1 = ((b.length - 1 : Nat) : Int) := by omega
  simp (disch := omega) only [bindS, nth0, nth1, nth2, nth3, bit, cell0, cell1, cell2, cell3, cell4, cell5, cell6, cell7, cell8, cell9, cell10, cell11, cell12, cell13, cell14, cell15, cell16, cell17, cell18, cell19, cell20, cell21, cell22, cell23, toInt_int, toBool_bool, toStr_str, nil_arr, r3_arr, r4_arr, ints_arr, bools_arr, strs_arr, nI, cond_true, cond_false, Bool.not_true, Bool.not_false, Bool.and_true, Bool.true_and, Bool.and_false, Bool.false_and, Bool.or_true, Bool.true_or, Bool.or_false, Bool.false_or, beq_self_eq_true, dTT, dFF, dT, dF, bigI, big0, nilApp, wrapI, wrapU, List.length_set, List.length_replicate, Int.toNat_natCast, castS, castS2, imax, imin, castP, Int.toNat_zero, e1, e, cond_and']
theorem m_spec_CutsOk (k : Nat) (hk : 2000000 ≤ k) (fu : List (Nat × Nat)) (z : Bool) (l : List Int) (hl : (l.length : Int) ≤ 1048576) : ∀ (n i : Nat), 1 ≤ i → i ≤ l.length → l.length - i < n → srt l (i - 1) = true →
    lp (k + 1) spec_CutsOk [] fu 4 (n) (s_spec_CutsOk_4 (i : Int) z l) = some [.bool (srt l (l.length - 1))]
  | 0, i, h1, hi, hn, hs => by omega
  | n + 1, i, h1, hi, hn, hs => by
    rw [l_spec_CutsOk_4]
    by_cases h : i < l.length
    · have e1 : (i : Int) - 1 = ((i - 1 : Nat) : Int) := by omega
      have hi1 : i = (i - 1) + 1 := by omega
      by_cases g : l.getD i 0 < l.getD (i - 1) 0
      · have hf : srt l i = false := by rw [hi1, srt, ← hi1, dT g]; rfl
        have : srt l (l.length - 1) = false := by
          cases hh : srt l (l.length - 1)
          · rfl
          · rw [show l.length - 1 = i + (l.length - 1 - i) by omega] at hh
            rw [srt_mono l i _ hh] at hf; cases hf
        simp (disch := omega) only [bindS, nth0, nth1, nth2, nth3, bit, cell0, cell1, cell2, cell3, cell4, cell5, cell6, cell7, cell8, cell9, cell10, cell11, cell12, cell13, cell14, cell15, cell16, cell17, cell18, cell19, cell20, cell21, cell22, cell23, toInt_int, toBool_bool, toStr_str, nil_arr, r3_arr, r4_arr, ints_arr, bools_arr, strs_arr, nI, cond_true, cond_false, Bool.not_true, Bool.not_false, Bool.and_true, Bool.true_and, Bool.and_false, Bool.false_and, Bool.or_true, Bool.true_or, Bool.or_false, Bool.false_or, beq_self_eq_true, dTT, dFF, dT, dF, bigI, big0, nilApp, wrapI, wrapU, List.length_set, List.length_replicate, Int.toNat_natCast, castS, castS2, imax, imin, e1, this]
      · have hf : srt l i = true := by rw [hi1, srt, ← hi1, dF g, hs]; rfl
        have e := m_spec_CutsOk k hk fu z l hl n (i + 1) (by omega) (by omega) (by omega) (by simpa using hf)
        simp (disch := omega) only [bindS, nth0, nth1, nth2, nth3, bit, cell0, cell1, cell2, cell3, cell4, cell5, cell6, cell7, cell8, cell9, cell10, cell11, cell12, cell13, cell14, cell15, cell16, cell17, cell18, cell19, cell20, cell21, cell22, cell23, toInt_int, toBool_bool, toStr_str, nil_arr, r3_arr, r4_arr, ints_arr, bools_arr, strs_arr, nI, cond_true, cond_false, Bool.not_true, Bool.not_false, Bool.and_true, Bool.true_and, Bool.and_false, Bool.false_and, Bool.or_true, Bool.true_or, Bool.or_false, Bool.false_or, beq_self_eq_true, dTT, dFF, dT, dF, bigI, big0, nilApp, wrapI, wrapU, List.length_set, List.length_replicate, Int.toNat_natCast, castS, castS2, imax, imin, e1, e]
    · simp (disch := omega) only [bindS, nth0, nth1, nth2, nth3, bit, cell0, cell1, cell2, cell3, cell4, cell5, cell6, cell7, cell8, cell9, cell10, cell11, cell12, cell13, cell14, cell15, cell16, cell17, cell18, cell19, cell20, cell21, cell22, cell23, toInt_int, toBool_bool, toStr_str, nil_arr, r3_arr, r4_arr, ints_arr, bools_arr, strs_arr, nI, cond_true, cond_false, Bool.not_true, Bool.not_false, Bool.and_true, Bool.true_and, Bool.and_false, Bool.false_and, Bool.or_true, Bool.true_or, Bool.or_false, Bool.false_or, beq_self_eq_true, dTT, dFF, dT, dF, bigI, big0, nilApp, wrapI, wrapU, List.length_set, List.length_replicate, Int.toNat_natCast, castS, castS2, imax, imin]
      rw [show l.length - 1 = i - 1 by omega, hs]
theorem c_spec_CutsOk (k : Nat) (hk : 2000000 ≤ k) (a : Int) (bz : Bool) (b : List Int) (hl : (b.length : Int) ≤ 1048576) : go (k + 2) spec_CutsOk [(.int .i64 (a)), (.arr false (bz) (.ints .i64 (b)))] = some [.bool (cutsOk a b)] := by
  rw [e_spec_CutsOk]
  unfold cutsOk
  simp (disch := omega) only [bindS, nth0, nth1, nth2, nth3, bit, cell0, cell1, cell2, cell3, cell4, cell5, cell6, cell7, cell8, cell9, cell10, cell11, cell12, cell13, cell14, cell15, cell16, cell17, cell18, cell19, cell20, cell21, cell22, cell23, toInt_int, toBool_bool, toStr_str, nil_arr, r3_arr, r4_arr, ints_arr, bools_arr, strs_arr, nI, cond_true, cond_false, Bool.not_true, Bool.not_false, Bool.and_true, Bool.true_and, Bool.and_false, Bool.false_and, Bool.or_true, Bool.true_or, Bool.or_false, Bool.false_or, beq_self_eq_true, dTT, dFF, dT, dF, bigI, big0, nilApp, wrapI, wrapU, List.length_set, List.length_replicate, Int.toNat_natCast, castS, castS2, imax, imin, c_spec_l01In]
  cases g : inR (b.length : Int) 2 17
  · rfl
  rw [inR_iff] at g
  have e := m_spec_CutsOk k hk [] bz b hl (k + 1) 1 (by omega) (by omega) (by omega) rfl
  have e1 : (b.length : Int) - 1 = ((b.length - 1 : Nat) : Int) := by omega
  rw [show ((1 : Nat) : Int) = 1 from rfl] at e
  simp (disch := omega) only [bindS, nth0, nth1, nth2, nth3, bit, cell0, cell1, cell2, cell3, cell4, cell5, cell6, cell7, cell8, cell9, cell10, cell11, cell12, cell13, cell14, cell15, cell16, cell17, cell18, cell19, cell20, cell21, cell22, cell23, toInt_int, toBool_bool, toStr_str, nil_arr, r3_arr, r4_arr, ints_arr, bools_arr, strs_arr, nI, cond_true, cond_false, Bool.not_true, Bool.not_false, Bool.and_true, Bool.true_and, Bool.and_false, Bool.false_and, Bool.or_true, Bool.true_or, Bool.or_false, Bool.false_or, beq_self_eq_true, dTT, dFF, dT, dF, bigI, big0, nilApp, wrapI, wrapU, List.length_set, List.length_replicate, Int.toNat_natCast, castS, castS2, imax, imin, castP, Int.toNat_zero, e1, e, cond_and]
structure CutF (n : Nat) (l : List Int) : Prop where
  l2 : 2 ≤ l.length
  l17 : l.length ≤ 17
  rng : ∀ i, i < l.length → 0 ≤ l.getD i 0 ∧ l.getD i 0 ≤ n
  mono : ∀ i, i + 1 < l.length → l.getD i 0 ≤ l.getD (i + 1) 0
theorem cutF {n : Nat} {l : List Int} (h : cutsOk (n : Int) l = true) : CutF n l := by
  simp only [cutsOk, Bool.and_eq_true, inR_iff, decide_eq_true_eq] at h
  obtain ⟨h1, h2, h3, h4⟩ := h
  refine ⟨by omega, by omega, fun i hi => ⟨?_, ?_⟩, fun i hi => srt_at h4 (by omega)⟩
  · have := srt_le h4 0 i (by omega); rw [h2] at this; simpa using this
  · have := srt_le h4 i (l.length - 1 - i) (by omega)
    rw [show i + (l.length - 1 - i) = l.length - 1 by omega, h3] at this; exact this
def costR (l : List Cell) : Nat → Nat → Int
  | 0, _ => 0
  | n + 1, i => pow2 (faceLv l i) + costR l n (i + 1)
theorem costR_le {l : List Cell} (h : LevOk l) : ∀ n i, 0 ≤ costR l n i ∧ costR l n i ≤ 16 * n
  | 0, i => by simp [costR]
  | n + 1, i => by
    have := costR_le h n (i + 1)
    have := pow2_pos (faceLv_in h i)
    simp only [costR]; omega
def share (l : List Cell) (c : List Int) (j : Nat) : Int := costR l ((min (c.getD (j + 1) 0) ((l.length : Int) - 1)) - c.getD j 0).toNat (c.getD j 0).toNat
def shares (l : List Cell) (c : List Int) : Nat → Nat → List Int
  | 0, _ => []
  | n + 1, j => share l c j :: shares l c n (j + 1)
theorem m_impl_Work9 (k : Nat) (hk : 2000000 ≤ k) (fu : List (Nat × Nat)) (z1 z2 : Bool) (c : List Int) (l : List Cell) (r : Int) (out : List Int) (hl : (l.length : Int) ≤ 128) (h1 : 1 ≤ l.length) (hv : LevOk l) (C : CutF l.length c) (j : Nat) (hj : j + 1 < c.length) (ho : out.length ≤ 100) (L : Int) : ∀ (n i d : Nat) (s : Int), d < n → (d : Int) = (min (c.getD (j + 1) 0) ((l.length : Int) - 1) - (i : Int)).toNat → 0 ≤ s → s ≤ 100000 → s + 16 * d ≤ 100000 →
    lp (k + 6) impl_WorkShare [] fu 9 (n) (s_impl_WorkShare_9 (j : Int) s (i : Int) L (j : Int) z1 c z2 l r false out) = lp (k + 6) impl_WorkShare [] fu 5 (fuelOf fu 5) (s_impl_WorkShare_5 L ((j + 1 : Nat) : Int) z1 c z2 l r false (out ++ [s + costR l d i]))
  | 0, i, d, s, hn, hd, hs, hs', hb => by omega
  | n + 1, i, d, s, hn, hd, hs, hs', hb => by
    have hc := C.l17; have hr := C.rng (j + 1) hj
    rw [l_impl_WorkShare_9]
    cases d with
    | zero =>
      simp (disch := omega) only [bindS, nth0, nth1, nth2, nth3, bit, cell0, cell1, cell2, cell3, cell4, cell5, cell6, cell7, cell8, cell9, cell10, cell11, cell12, cell13, cell14, cell15, cell16, cell17, cell18, cell19, cell20, cell21, cell22, cell23, toInt_int, toBool_bool, toStr_str, nil_arr, r3_arr, r4_arr, ints_arr, bools_arr, strs_arr, nI, cond_true, cond_false, Bool.not_true, Bool.not_false, Bool.and_true, Bool.true_and, Bool.and_false, Bool.false_and, Bool.or_true, Bool.true_or, Bool.or_false, Bool.false_or, beq_self_eq_true, dTT, dFF, dT, dF, bigI, big0, nilApp, wrapI, wrapU, List.length_set, List.length_replicate, Int.toNat_natCast, castS, castS2, imax, imin, List.length_append, List.length_cons, List.length_nil]
      simp only [costR, Int.add_zero]
    | succ d =>
      have hi : i + 1 < l.length := by omega
      have p := pw (faceLv_in hv i); have q := pow2_pos (faceLv_in hv i); have q2 := lev0 (faceLv_in hv i)
      have e := m_impl_Work9 k hk fu z1 z2 c l r out hl h1 hv C j hj ho L n (i + 1) d (s + pow2 (faceLv l i)) (by omega) (by omega) (by omega) (by omega) (by omega)
      rw [Int.add_assoc] at e
      simp (disch := omega) only [bindS, nth0, nth1, nth2, nth3, bit, cell0, cell1, cell2, cell3, cell4, cell5, cell6, cell7, cell8, cell9, cell10, cell11, cell12, cell13, cell14, cell15, cell16, cell17, cell18, cell19, cell20, cell21, cell22, cell23, toInt_int, toBool_bool, toStr_str, nil_arr, r3_arr, r4_arr, ints_arr, bools_arr, strs_arr, nI, cond_true, cond_false, Bool.not_true, Bool.not_false, Bool.and_true, Bool.true_and, Bool.and_false, Bool.false_and, Bool.or_true, Bool.true_or, Bool.or_false, Bool.false_or, beq_self_eq_true, dTT, dFF, dT, dF, bigI, big0, nilApp, wrapI, wrapU, List.length_set, List.length_replicate, Int.toNat_natCast, castS, castS2, imax, imin, c_impl_faceLevel, p]
      exact e
theorem m_impl_Work5 (k : Nat) (hk : 2000000 ≤ k) (z1 z2 : Bool) (c : List Int) (l : List Cell) (r : Int) (hl : (l.length : Int) ≤ 128) (h1 : 1 ≤ l.length) (hv : LevOk l) (C : CutF l.length c) : ∀ (n : Nat) (fu : List (Nat × Nat)) (j : Nat) (out : List Int), j + 1 ≤ c.length → c.length - j < n + 1 → out.length ≤ j → 0 < n →
    lp (k + 6) impl_WorkShare [] fu 5 (n) (s_impl_WorkShare_5 ((c.length : Int) - 1) (j : Int) z1 c z2 l r false out) = some [.arr true false (.ints .i64 (out ++ shares l c (c.length - 1 - j) j))]
  | 0, fu, j, out, hj, hn, ho, h0 => by omega
  | n + 1, fu, j, out, hj, hn, ho, h0 => by
    have hc := C.l17
    rw [l_impl_WorkShare_5]
    by_cases g : j + 1 < c.length
    · have hr := C.rng j (by omega); have hr2 := C.rng (j + 1) g
      obtain ⟨i, hi⟩ : ∃ i : Nat, c.getD j 0 = (i : Int) := ⟨(c.getD j 0).toNat, by omega⟩
      have e := m_impl_Work9 k hk ((5, n) :: fu) z1 z2 c l r out hl h1 hv C j g (by omega) ((c.length : Int) - 1) (k + 6) i (min (c.getD (j + 1) 0) ((l.length : Int) - 1) - (i : Int)).toNat 0 (by omega) (by omega) (by omega) (by omega) (by omega)
      have e2 := m_impl_Work5 k hk z1 z2 c l r hl h1 hv C n ((5, n) :: fu) (j + 1) (out ++ [share l c j]) (by omega) (by omega) (by simp; omega) (by omega)
      rw [show c.length - 1 - j = (c.length - 1 - (j + 1)) + 1 by omega, shares]
      rw [fuelOf0, Int.zero_add] at e
      rw [List.append_assoc] at e2
      simp (disch := omega) only [bindS, nth0, nth1, nth2, nth3, bit, cell0, cell1, cell2, cell3, cell4, cell5, cell6, cell7, cell8, cell9, cell10, cell11, cell12, cell13, cell14, cell15, cell16, cell17, cell18, cell19, cell20, cell21, cell22, cell23, toInt_int, toBool_bool, toStr_str, nil_arr, r3_arr, r4_arr, ints_arr, bools_arr, strs_arr, nI, cond_true, cond_false, Bool.not_true, Bool.not_false, Bool.and_true, Bool.true_and, Bool.and_false, Bool.false_and, Bool.or_true, Bool.true_or, Bool.or_false, Bool.false_or, beq_self_eq_true, dTT, dFF, dT, dF, bigI, big0, nilApp, wrapI, wrapU, List.length_set, List.length_replicate, Int.toNat_natCast, castS, castS2, imax, imin, hi]
      refine Eq.trans e ?_
      rw [show costR l (min (c.getD (j + 1) 0) ((l.length : Int) - 1) - (i : Int)).toNat i = share l c j by unfold share; rw [hi, Int.toNat_natCast]]
      exact e2
    · simp (disch := omega) only [bindS, nth0, nth1, nth2, nth3, bit, cell0, cell1, cell2, cell3, cell4, cell5, cell6, cell7, cell8, cell9, cell10, cell11, cell12, cell13, cell14, cell15, cell16, cell17, cell18, cell19, cell20, cell21, cell22, cell23, toInt_int, toBool_bool, toStr_str, nil_arr, r3_arr, r4_arr, ints_arr, bools_arr, strs_arr, nI, cond_true, cond_false, Bool.not_true, Bool.not_false, Bool.and_true, Bool.true_and, Bool.and_false, Bool.false_and, Bool.or_true, Bool.true_or, Bool.or_false, Bool.false_or, beq_self_eq_true, dTT, dFF, dT, dF, bigI, big0, nilApp, wrapI, wrapU, List.length_set, List.length_replicate, Int.toNat_natCast, castS, castS2, imax, imin]
      rw [show c.length - 1 - j = 0 by omega]; simp [shares]
def workShare (r : Int) (l : List Cell) (c : List Int) : Option (List Int) := if meshGo r 0 l && cutsOk l.length c then some (shares l c (c.length - 1) 0) else none
theorem c_impl_WorkShare (k : Nat) (hk : 2000000 ≤ k) (a0 : Int) (a1z : Bool) (a1 : List (Int × Int × Int)) (bz : Bool) (b : List Int) (hl : (a1.length : Int) ≤ 1048576) (hb : (b.length : Int) ≤ 1048576) : go (k + 7) impl_WorkShare [(.agg [(.int .i64 (a0)), (.arr false (a1z) (.r3 (a1)))]), (.arr false (bz) (.ints .i64 (b)))] = some [.arr true (workShare a0 a1 b).isNone (.ints .i64 ((workShare a0 a1 b).getD []))] := by
  rw [e_impl_WorkShare]
  simp (disch := omega) only [bindS, nth0, nth1, nth2, nth3, bit, cell0, cell1, cell2, cell3, cell4, cell5, cell6, cell7, cell8, cell9, cell10, cell11, cell12, cell13, cell14, cell15, cell16, cell17, cell18, cell19, cell20, cell21, cell22, cell23, toInt_int, toBool_bool, toStr_str, nil_arr, r3_arr, r4_arr, ints_arr, bools_arr, strs_arr, nI, cond_true, cond_false, Bool.not_true, Bool.not_false, Bool.and_true, Bool.true_and, Bool.and_false, Bool.false_and, Bool.or_true, Bool.true_or, Bool.or_false, Bool.false_or, beq_self_eq_true, dTT, dFF, dT, dF, bigI, big0, nilApp, wrapI, wrapU, List.length_set, List.length_replicate, Int.toNat_natCast, castS, castS2, imax, imin, c_impl_MeshOk, c_impl_CutsOk]
  unfold workShare
  cases g1 : meshGo a0 0 a1
  · rfl
  cases g2 : cutsOk a1.length b
  · rfl
  have hm := mesh_len g1
  have e := m_impl_Work5 k hk bz a1z b a1 a0 (by omega) hm.1 (mesh_lev _ _ _ g1) (cutF g2) (k + 6) [] 0 [] (by have := (cutF g2).l2; omega) (by have := (cutF g2).l17; omega) (by simp) (by omega)
  have := (cutF g2).l17
  simp (disch := omega) only [bindS, nth0, nth1, nth2, nth3, bit, cell0, cell1, cell2, cell3, cell4, cell5, cell6, cell7, cell8, cell9, cell10, cell11, cell12, cell13, cell14, cell15, cell16, cell17, cell18, cell19, cell20, cell21, cell22, cell23, toInt_int, toBool_bool, toStr_str, nil_arr, r3_arr, r4_arr, ints_arr, bools_arr, strs_arr, nI, cond_true, cond_false, Bool.not_true, Bool.not_false, Bool.and_true, Bool.true_and, Bool.and_false, Bool.false_and, Bool.or_true, Bool.true_or, Bool.or_false, Bool.false_or, beq_self_eq_true, dTT, dFF, dT, dF, bigI, big0, nilApp, wrapI, wrapU, List.length_set, List.length_replicate, Int.toNat_natCast, castS, castS2, imax, imin]
  exact e
theorem m_spec_Work9 (k : Nat) (hk : 2000000 ≤ k) (fu : List (Nat × Nat)) (z1 z2 : Bool) (c : List Int) (l : List Cell) (r : Int) (out : List Int) (hl : (l.length : Int) ≤ 128) (h1 : 1 ≤ l.length) (hv : LevOk l) (C : CutF l.length c) (j : Nat) (hj : j + 1 < c.length) (ho : out.length ≤ 100) : ∀ (n i d : Nat) (s : Int), d < n → (d : Int) = (min (c.getD (j + 1) 0) ((l.length : Int) - 1) - (i : Int)).toNat → i ≤ 128 → 0 ≤ s → s ≤ 100000 → s + 16 * d ≤ 100000 →
    lp (k + 5) spec_WorkShare [] fu 9 (n) (s_spec_WorkShare_9 (j : Int) s (i : Int) z1 c z2 l r false out) = lp (k + 5) spec_WorkShare [] fu 5 (fuelOf fu 5) (s_spec_WorkShare_5 ((j + 1 : Nat) : Int) z1 c z2 l r false (out ++ [s + costR l d i]))
  | 0, i, d, s, hn, hd, hi, hs, hs', hb => by omega
  | n + 1, i, d, s, hn, hd, hi, hs, hs', hb => by
    have hc := C.l17; have hr := C.rng (j + 1) hj
    rw [l_spec_WorkShare_9]
    cases d with
    | zero =>
      by_cases q : (i : Int) < c.getD (j + 1) 0
      · simp (disch := omega) only [bindS, nth0, nth1, nth2, nth3, bit, cell0, cell1, cell2, cell3, cell4, cell5, cell6, cell7, cell8, cell9, cell10, cell11, cell12, cell13, cell14, cell15, cell16, cell17, cell18, cell19, cell20, cell21, cell22, cell23, toInt_int, toBool_bool, toStr_str, nil_arr, r3_arr, r4_arr, ints_arr, bools_arr, strs_arr, nI, cond_true, cond_false, Bool.not_true, Bool.not_false, Bool.and_true, Bool.true_and, Bool.and_false, Bool.false_and, Bool.or_true, Bool.true_or, Bool.or_false, Bool.false_or, beq_self_eq_true, dTT, dFF, dT, dF, bigI, big0, nilApp, wrapI, wrapU, List.length_set, List.length_replicate, Int.toNat_natCast, castS, castS2, imax, imin, List.length_append, List.length_cons, List.length_nil]
        simp only [costR, Int.add_zero]
      · simp (disch := omega) only [bindS, nth0, nth1, nth2, nth3, bit, cell0, cell1, cell2, cell3, cell4, cell5, cell6, cell7, cell8, cell9, cell10, cell11, cell12, cell13, cell14, cell15, cell16, cell17, cell18, cell19, cell20, cell21, cell22, cell23, toInt_int, toBool_bool, toStr_str, nil_arr, r3_arr, r4_arr, ints_arr, bools_arr, strs_arr, nI, cond_true, cond_false, Bool.not_true, Bool.not_false, Bool.and_true, Bool.true_and, Bool.and_false, Bool.false_and, Bool.or_true, Bool.true_or, Bool.or_false, Bool.false_or, beq_self_eq_true, dTT, dFF, dT, dF, bigI, big0, nilApp, wrapI, wrapU, List.length_set, List.length_replicate, Int.toNat_natCast, castS, castS2, imax, imin, List.length_append, List.length_cons, List.length_nil]
        simp only [costR, Int.add_zero]
    | succ d =>
      have hi : i + 1 < l.length := by omega
      have p := pw (faceLv_in hv i); have q := pow2_pos (faceLv_in hv i); have q2 := lev0 (faceLv_in hv i)
      have e := m_spec_Work9 k hk fu z1 z2 c l r out hl h1 hv C j hj ho n (i + 1) d (s + pow2 (faceLv l i)) (by omega) (by omega) (by omega) (by omega) (by omega) (by omega)
      rw [Int.add_assoc] at e
      simp (disch := omega) only [bindS, nth0, nth1, nth2, nth3, bit, cell0, cell1, cell2, cell3, cell4, cell5, cell6, cell7, cell8, cell9, cell10, cell11, cell12, cell13, cell14, cell15, cell16, cell17, cell18, cell19, cell20, cell21, cell22, cell23, toInt_int, toBool_bool, toStr_str, nil_arr, r3_arr, r4_arr, ints_arr, bools_arr, strs_arr, nI, cond_true, cond_false, Bool.not_true, Bool.not_false, Bool.and_true, Bool.true_and, Bool.and_false, Bool.false_and, Bool.or_true, Bool.true_or, Bool.or_false, Bool.false_or, beq_self_eq_true, dTT, dFF, dT, dF, bigI, big0, nilApp, wrapI, wrapU, List.length_set, List.length_replicate, Int.toNat_natCast, castS, castS2, imax, imin, c_spec_l05Face, p]
      exact e
theorem m_spec_Work5 (k : Nat) (hk : 2000000 ≤ k) (z1 z2 : Bool) (c : List Int) (l : List Cell) (r : Int) (hl : (l.length : Int) ≤ 128) (h1 : 1 ≤ l.length) (hv : LevOk l) (C : CutF l.length c) : ∀ (n : Nat) (fu : List (Nat × Nat)) (j : Nat) (out : List Int), j + 1 ≤ c.length → c.length - j < n + 1 → out.length ≤ j → 0 < n →
    lp (k + 5) spec_WorkShare [] fu 5 (n) (s_spec_WorkShare_5 (j : Int) z1 c z2 l r false out) = some [.arr true false (.ints .i64 (out ++ shares l c (c.length - 1 - j) j))]
  | 0, fu, j, out, hj, hn, ho, h0 => by omega
  | n + 1, fu, j, out, hj, hn, ho, h0 => by
    have hc := C.l17
    rw [l_spec_WorkShare_5]
    by_cases g : j + 1 < c.length
    · have hr := C.rng j (by omega); have hr2 := C.rng (j + 1) g
      obtain ⟨i, hi⟩ : ∃ i : Nat, c.getD j 0 = (i : Int) := ⟨(c.getD j 0).toNat, by omega⟩
      have e := m_spec_Work9 k hk ((5, n) :: fu) z1 z2 c l r out hl h1 hv C j g (by omega) (k + 5) i (min (c.getD (j + 1) 0) ((l.length : Int) - 1) - (i : Int)).toNat 0 (by omega) (by omega) (by omega) (by omega) (by omega) (by omega)
      have e2 := m_spec_Work5 k hk z1 z2 c l r hl h1 hv C n ((5, n) :: fu) (j + 1) (out ++ [share l c j]) (by omega) (by omega) (by simp; omega) (by omega)
      rw [show c.length - 1 - j = (c.length - 1 - (j + 1)) + 1 by omega, shares]
      rw [fuelOf0, Int.zero_add] at e
      rw [List.append_assoc] at e2
      simp (disch := omega) only [bindS, nth0, nth1, nth2, nth3, bit, cell0, cell1, cell2, cell3, cell4, cell5, cell6, cell7, cell8, cell9, cell10, cell11, cell12, cell13, cell14, cell15, cell16, cell17, cell18, cell19, cell20, cell21, cell22, cell23, toInt_int, toBool_bool, toStr_str, nil_arr, r3_arr, r4_arr, ints_arr, bools_arr, strs_arr, nI, cond_true, cond_false, Bool.not_true, Bool.not_false, Bool.and_true, Bool.true_and, Bool.and_false, Bool.false_and, Bool.or_true, Bool.true_or, Bool.or_false, Bool.false_or, beq_self_eq_true, dTT, dFF, dT, dF, bigI, big0, nilApp, wrapI, wrapU, List.length_set, List.length_replicate, Int.toNat_natCast, castS, castS2, imax, imin, hi]
      refine Eq.trans e ?_
      rw [show costR l (min (c.getD (j + 1) 0) ((l.length : Int) - 1) - (i : Int)).toNat i = share l c j by unfold share; rw [hi, Int.toNat_natCast]]
      exact e2
    · simp (disch := omega) only [bindS, nth0, nth1, nth2, nth3, bit, cell0, cell1, cell2, cell3, cell4, cell5, cell6, cell7, cell8, cell9, cell10, cell11, cell12, cell13, cell14, cell15, cell16, cell17, cell18, cell19, cell20, cell21, cell22, cell23, toInt_int, toBool_bool, toStr_str, nil_arr, r3_arr, r4_arr, ints_arr, bools_arr, strs_arr, nI, cond_true, cond_false, Bool.not_true, Bool.not_false, Bool.and_true, Bool.true_and, Bool.and_false, Bool.false_and, Bool.or_true, Bool.true_or, Bool.or_false, Bool.false_or, beq_self_eq_true, dTT, dFF, dT, dF, bigI, big0, nilApp, wrapI, wrapU, List.length_set, List.length_replicate, Int.toNat_natCast, castS, castS2, imax, imin]
      rw [show c.length - 1 - j = 0 by omega]; simp [shares]
theorem c_spec_WorkShare (k : Nat) (hk : 2000000 ≤ k) (a0 : Int) (a1z : Bool) (a1 : List (Int × Int × Int)) (bz : Bool) (b : List Int) (hl : (a1.length : Int) ≤ 1048576) (hb : (b.length : Int) ≤ 1048576) : go (k + 6) spec_WorkShare [(.agg [(.int .i64 (a0)), (.arr false (a1z) (.r3 (a1)))]), (.arr false (bz) (.ints .i64 (b)))] = some [.arr true false (.ints .i64 ((workShare a0 a1 b).getD []))] := by
  rw [e_spec_WorkShare]
  simp (disch := omega) only [bindS, nth0, nth1, nth2, nth3, bit, cell0, cell1, cell2, cell3, cell4, cell5, cell6, cell7, cell8, cell9, cell10, cell11, cell12, cell13, cell14, cell15, cell16, cell17, cell18, cell19, cell20, cell21, cell22, cell23, toInt_int, toBool_bool, toStr_str, nil_arr, r3_arr, r4_arr, ints_arr, bools_arr, strs_arr, nI, cond_true, cond_false, Bool.not_true, Bool.not_false, Bool.and_true, Bool.true_and, Bool.and_false, Bool.false_and, Bool.or_true, Bool.true_or, Bool.or_false, Bool.false_or, beq_self_eq_true, dTT, dFF, dT, dF, bigI, big0, nilApp, wrapI, wrapU, List.length_set, List.length_replicate, Int.toNat_natCast, castS, castS2, imax, imin, c_spec_MeshOk, c_spec_CutsOk]
  unfold workShare
  cases g1 : meshGo a0 0 a1
  · rfl
  cases g2 : cutsOk a1.length b
  · rfl
  have hm := mesh_len g1
  have e := m_spec_Work5 k hk bz a1z b a1 a0 (by omega) hm.1 (mesh_lev _ _ _ g1) (cutF g2) (k + 5) [] 0 [] (by have := (cutF g2).l2; omega) (by have := (cutF g2).l17; omega) (by simp) (by omega)
  have := (cutF g2).l17
  simp (disch := omega) only [bindS, nth0, nth1, nth2, nth3, bit, cell0, cell1, cell2, cell3, cell4, cell5, cell6, cell7, cell8, cell9, cell10, cell11, cell12, cell13, cell14, cell15, cell16, cell17, cell18, cell19, cell20, cell21, cell22, cell23, toInt_int, toBool_bool, toStr_str, nil_arr, r3_arr, r4_arr, ints_arr, bools_arr, strs_arr, nI, cond_true, cond_false, Bool.not_true, Bool.not_false, Bool.and_true, Bool.true_and, Bool.and_false, Bool.false_and, Bool.or_true, Bool.true_or, Bool.or_false, Bool.false_or, beq_self_eq_true, dTT, dFF, dT, dF, bigI, big0, nilApp, wrapI, wrapU, List.length_set, List.length_replicate, Int.toNat_natCast, castS, castS2, imax, imin]
  exact e
theorem shares_len (l : List Cell) (c : List Int) : ∀ n j, (shares l c n j).length = n
  | 0, j => rfl
  | n + 1, j => by simp [shares, shares_len l c n]
theorem shares_le {l : List Cell} (h : LevOk l) (hl : l.length ≤ 128) {c : List Int} (C : CutF l.length c) : ∀ n j, j + n < c.length → ∀ x ∈ shares l c n j, 0 ≤ x ∧ x ≤ 2048
  | 0, j, hn, x, hx => by cases hx
  | n + 1, j, hn, x, hx => by
    simp only [shares, List.mem_cons] at hx
    rcases hx with rfl | hx
    · have h1 := C.rng j (by omega); have h2 := C.rng (j + 1) (by omega)
      have := costR_le h (min (c.getD (j + 1) 0) ((l.length : Int) - 1) - c.getD j 0).toNat (c.getD j 0).toNat
      unfold share
      omega
    · exact shares_le h hl C n (j + 1) (by omega) x hx
theorem workShare_facts {r : Int} {l : List Cell} {c s : List Int} (h : workShare r l c = some s) : 1 ≤ s.length ∧ s.length ≤ 16 ∧ ∀ x ∈ s, 0 ≤ x ∧ x ≤ 2048 := by
  unfold workShare at h
  split at h
  · rename_i g
    simp only [Bool.and_eq_true] at g
    have C := cutF g.2
    have L := mesh_len g.1
    have := C.l2; have := C.l17
    cases h
    rw [shares_len]
    exact ⟨by omega, by omega, shares_le (mesh_lev _ _ _ g.1) L.2 C _ _ (by omega)⟩
  · cases h
def maxV (l : List Int) : Nat → Nat → Int → Int
  | 0, _, a => a
  | n + 1, i, a => maxV l n (i + 1) (max (l.getD i 0) a)
theorem maxV_le {l : List Int} (h : ∀ x ∈ l, 0 ≤ x ∧ x ≤ 2048) : ∀ n i a, 0 ≤ a → a ≤ 2048 → 0 ≤ maxV l n i a ∧ maxV l n i a ≤ 2048
  | 0, i, a, h0, h1 => ⟨h0, h1⟩
  | n + 1, i, a, h0, h1 => by
    have : 0 ≤ l.getD i 0 ∧ l.getD i 0 ≤ 2048 := by
      by_cases g : i < l.length
      · exact h _ (getD_mem g 0)
      · rw [getD_ge (by omega)]; omega
    exact maxV_le h n (i + 1) _ (by omega) (by omega)
theorem m_slices_Max (k : Nat) (hk : 2000000 ≤ k) (fu : List (Nat × Nat)) (z : Bool) (l : List Int) (hl : (l.length : Int) ≤ 1048576) : ∀ (n i : Nat) (a : Int), i ≤ l.length → l.length - i < n →
    lp k slices_Max_int_int [] fu 5 (n) (s_slices_Max_int_int_5 a (i : Int) z l) = some [.int .i64 (maxV l (l.length - i) i a)]
  | 0, i, a, hi, hn => by omega
  | n + 1, i, a, hi, hn => by
    rw [l_slices_Max_int_int_5]
    by_cases h : i < l.length
    · have e := m_slices_Max k hk fu z l hl n (i + 1) (max (l.getD i 0) a) (by omega) (by omega)
      rw [show l.length - i = (l.length - (i + 1)) + 1 by omega, maxV]
      simp (disch := omega) only [bindS, nth0, nth1, nth2, nth3, bit, cell0, cell1, cell2, cell3, cell4, cell5, cell6, cell7, cell8, cell9, cell10, cell11, cell12, cell13, cell14, cell15, cell16, cell17, cell18, cell19, cell20, cell21, cell22, cell23, toInt_int, toBool_bool, toStr_str, nil_arr, r3_arr, r4_arr, ints_arr, bools_arr, strs_arr, nI, cond_true, cond_false, Bool.not_true, Bool.not_false, Bool.and_true, Bool.true_and, Bool.and_false, Bool.false_and, Bool.or_true, Bool.true_or, Bool.or_false, Bool.false_or, beq_self_eq_true, dTT, dFF, dT, dF, bigI, big0, nilApp, wrapI, wrapU, List.length_set, List.length_replicate, Int.toNat_natCast, castS, castS2, imax, imin, e]
    · simp (disch := omega) only [bindS, nth0, nth1, nth2, nth3, bit, cell0, cell1, cell2, cell3, cell4, cell5, cell6, cell7, cell8, cell9, cell10, cell11, cell12, cell13, cell14, cell15, cell16, cell17, cell18, cell19, cell20, cell21, cell22, cell23, toInt_int, toBool_bool, toStr_str, nil_arr, r3_arr, r4_arr, ints_arr, bools_arr, strs_arr, nI, cond_true, cond_false, Bool.not_true, Bool.not_false, Bool.and_true, Bool.true_and, Bool.and_false, Bool.false_and, Bool.or_true, Bool.true_or, Bool.or_false, Bool.false_or, beq_self_eq_true, dTT, dFF, dT, dF, bigI, big0, nilApp, wrapI, wrapU, List.length_set, List.length_replicate, Int.toNat_natCast, castS, castS2, imax, imin]
      rw [show l.length - i = 0 by omega]; rfl
theorem c_slices_Max (k : Nat) (hk : 2000000 ≤ k) (az : Bool) (a : List Int) (hl : (a.length : Int) ≤ 1048576) (h0 : 0 < a.length) : go (k + 1) slices_Max_int_int [(.arr false (az) (.ints .i64 (a)))] = some [.int .i64 (maxV a (a.length - 1) 1 (a.getD 0 0))] := by
  rw [e_slices_Max_int_int]
  have e := m_slices_Max k hk [] az a hl (k + 0) 1 (a.getD 0 0) (by omega) (by omega)
  rw [show ((1 : Nat) : Int) = 1 from rfl] at e
  simp (disch := omega) only [bindS, nth0, nth1, nth2, nth3, bit, cell0, cell1, cell2, cell3, cell4, cell5, cell6, cell7, cell8, cell9, cell10, cell11, cell12, cell13, cell14, cell15, cell16, cell17, cell18, cell19, cell20, cell21, cell22, cell23, toInt_int, toBool_bool, toStr_str, nil_arr, r3_arr, r4_arr, ints_arr, bools_arr, strs_arr, nI, cond_true, cond_false, Bool.not_true, Bool.not_false, Bool.and_true, Bool.true_and, Bool.and_false, Bool.false_and, Bool.or_true, Bool.true_or, Bool.or_false, Bool.false_or, beq_self_eq_true, dTT, dFF, dT, dF, bigI, big0, nilApp, wrapI, wrapU, List.length_set, List.length_replicate, Int.toNat_natCast, castS, castS2, imax, imin, Int.toNat_zero]
  exact e
theorem m_spec_PeakOf (k : Nat) (hk : 2000000 ≤ k) (fu : List (Nat × Nat)) (z : Bool) (l : List Int) (hl : (l.length : Int) ≤ 1048576) : ∀ (n i best : Nat), i ≤ l.length → best < l.length → l.length - i < n →
    ∃ b', lp k spec_PeakOf [] fu 3 (n) (s_spec_PeakOf_3 (best : Int) (i : Int) z l) = some [.int .i64 (maxV l (l.length - i) i (l.getD best 0)), .int .i64 b']
  | 0, i, best, hi, hb, hn => by omega
  | n + 1, i, best, hi, hb, hn => by
    rw [l_spec_PeakOf_3]
    by_cases h : i < l.length
    · rw [show l.length - i = (l.length - (i + 1)) + 1 by omega, maxV]
      by_cases g : l.getD best 0 < l.getD i 0
      · obtain ⟨b', e⟩ := m_spec_PeakOf k hk fu z l hl n (i + 1) i (by omega) h (by omega)
        rw [show max (l.getD i 0) (l.getD best 0) = l.getD i 0 by omega]
        simp (disch := omega) only [bindS, nth0, nth1, nth2, nth3, bit, cell0, cell1, cell2, cell3, cell4, cell5, cell6, cell7, cell8, cell9, cell10, cell11, cell12, cell13, cell14, cell15, cell16, cell17, cell18, cell19, cell20, cell21, cell22, cell23, toInt_int, toBool_bool, toStr_str, nil_arr, r3_arr, r4_arr, ints_arr, bools_arr, strs_arr, nI, cond_true, cond_false, Bool.not_true, Bool.not_false, Bool.and_true, Bool.true_and, Bool.and_false, Bool.false_and, Bool.or_true, Bool.true_or, Bool.or_false, Bool.false_or, beq_self_eq_true, dTT, dFF, dT, dF, bigI, big0, nilApp, wrapI, wrapU, List.length_set, List.length_replicate, Int.toNat_natCast, castS, castS2, imax, imin]
        exact ⟨b', e⟩
      · obtain ⟨b', e⟩ := m_spec_PeakOf k hk fu z l hl n (i + 1) best (by omega) hb (by omega)
        rw [show max (l.getD i 0) (l.getD best 0) = l.getD best 0 by omega]
        simp (disch := omega) only [bindS, nth0, nth1, nth2, nth3, bit, cell0, cell1, cell2, cell3, cell4, cell5, cell6, cell7, cell8, cell9, cell10, cell11, cell12, cell13, cell14, cell15, cell16, cell17, cell18, cell19, cell20, cell21, cell22, cell23, toInt_int, toBool_bool, toStr_str, nil_arr, r3_arr, r4_arr, ints_arr, bools_arr, strs_arr, nI, cond_true, cond_false, Bool.not_true, Bool.not_false, Bool.and_true, Bool.true_and, Bool.and_false, Bool.false_and, Bool.or_true, Bool.true_or, Bool.or_false, Bool.false_or, beq_self_eq_true, dTT, dFF, dT, dF, bigI, big0, nilApp, wrapI, wrapU, List.length_set, List.length_replicate, Int.toNat_natCast, castS, castS2, imax, imin]
        exact ⟨b', e⟩
    · simp (disch := omega) only [bindS, nth0, nth1, nth2, nth3, bit, cell0, cell1, cell2, cell3, cell4, cell5, cell6, cell7, cell8, cell9, cell10, cell11, cell12, cell13, cell14, cell15, cell16, cell17, cell18, cell19, cell20, cell21, cell22, cell23, toInt_int, toBool_bool, toStr_str, nil_arr, r3_arr, r4_arr, ints_arr, bools_arr, strs_arr, nI, cond_true, cond_false, Bool.not_true, Bool.not_false, Bool.and_true, Bool.true_and, Bool.and_false, Bool.false_and, Bool.or_true, Bool.true_or, Bool.or_false, Bool.false_or, beq_self_eq_true, dTT, dFF, dT, dF, bigI, big0, nilApp, wrapI, wrapU, List.length_set, List.length_replicate, Int.toNat_natCast, castS, castS2, imax, imin]
      rw [show l.length - i = 0 by omega]
      exact ⟨_, rfl⟩
theorem c_spec_PeakOf (k : Nat) (hk : 2000000 ≤ k) (az : Bool) (a : List Int) (hl : (a.length : Int) ≤ 1048576) (h0 : 0 < a.length) : ∃ b', go (k + 1) spec_PeakOf [(.arr false (az) (.ints .i64 (a)))] = some [.int .i64 (maxV a (a.length - 1) 1 (a.getD 0 0)), .int .i64 b'] := by
  rw [e_spec_PeakOf]
  obtain ⟨m, hm⟩ : ∃ m, k + 0 = m + 1 := ⟨k + 0 - 1, by omega⟩
  obtain ⟨b', e⟩ := m_spec_PeakOf k hk [] az a hl m 1 0 (by omega) (by omega) (by omega)
  refine ⟨b', ?_⟩
  rw [← e]
  have e0 := l_spec_PeakOf_3 (k + 0) m [] (-1) 0 az a
  rw [← hm] at e0
  refine Eq.trans e0 ?_
  simp (disch := omega) only [bindS, nth0, nth1, nth2, nth3, bit, cell0, cell1, cell2, cell3, cell4, cell5, cell6, cell7, cell8, cell9, cell10, cell11, cell12, cell13, cell14, cell15, cell16, cell17, cell18, cell19, cell20, cell21, cell22, cell23, toInt_int, toBool_bool, toStr_str, nil_arr, r3_arr, r4_arr, ints_arr, bools_arr, strs_arr, nI, cond_true, cond_false, Bool.not_true, Bool.not_false, Bool.and_true, Bool.true_and, Bool.and_false, Bool.false_and, Bool.or_true, Bool.true_or, Bool.or_false, Bool.false_or, beq_self_eq_true, dTT, dFF, dT, dF, bigI, big0, nilApp, wrapI, wrapU, List.length_set, List.length_replicate, Int.toNat_natCast, castS, castS2, imax, imin]
  rfl
def effic (s : List Int) : Int := if maxV s (s.length - 1) 1 (s.getD 0 0) = 0 then 1000 else Int.tdiv (1000 * isum s) (s.length * maxV s (s.length - 1) 1 (s.getD 0 0))
theorem effic_div {s : List Int} (h1 : 1 ≤ s.length) (h2 : s.length ≤ 16) (h : ∀ x ∈ s, 0 ≤ x ∧ x ≤ 2048) (hm : maxV s (s.length - 1) 1 (s.getD 0 0) ≠ 0) :
    0 ≤ isum s ∧ isum s ≤ 32768 ∧ (s.length : Int) * maxV s (s.length - 1) 1 (s.getD 0 0) ≠ 0 ∧ 0 ≤ (s.length : Int) * maxV s (s.length - 1) 1 (s.getD 0 0) ∧ (s.length : Int) * maxV s (s.length - 1) 1 (s.getD 0 0) ≤ 32768 ∧
    0 ≤ Int.tdiv (1000 * isum s) (s.length * maxV s (s.length - 1) 1 (s.getD 0 0)) ∧ Int.tdiv (1000 * isum s) (s.length * maxV s (s.length - 1) 1 (s.getD 0 0)) ≤ 32768000 := by
  have hs := isum_le s h
  have h0 := h _ (getD_mem (by omega : 0 < s.length) 0)
  have hM := maxV_le h (s.length - 1) 1 (s.getD 0 0) (by omega) (by omega)
  generalize maxV s (s.length - 1) 1 (s.getD 0 0) = M at *
  have e1 : 0 ≤ (s.length : Int) * M := Int.mul_nonneg (by omega) (by omega)
  have e2 : (s.length : Int) * M ≤ 16 * 2048 := Int.mul_le_mul (by omega) (by omega) (by omega) (by omega)
  have e3 : (s.length : Int) * M ≠ 0 := Int.mul_ne_zero (by omega) hm
  have e4 : 2048 * (s.length : Int) ≤ 32768 := by omega
  have e5 : 0 ≤ Int.tdiv (1000 * isum s) (s.length * M) := Int.tdiv_nonneg (by omega) e1
  have e6 : Int.tdiv (1000 * isum s) (s.length * M) ≤ 1000 * isum s := by
    rw [Int.tdiv_eq_ediv_of_nonneg (by omega)]
    exact Int.ediv_le_self _ (by omega)
  refine ⟨hs.1, by omega, e3, e1, by omega, e5, by omega⟩
def effOf (o : Option (List Int)) : Int := match o with | some s => effic s | none => -1
theorem c_impl_Efficiency (k : Nat) (hk : 2000000 ≤ k) (a0 : Int) (a1z : Bool) (a1 : List (Int × Int × Int)) (bz : Bool) (b : List Int) (hl : (a1.length : Int) ≤ 1048576) (hb : (b.length : Int) ≤ 1048576) : go (k + 8) impl_Efficiency [(.agg [(.int .i64 (a0)), (.arr false (a1z) (.r3 (a1)))]), (.arr false (bz) (.ints .i64 (b)))] = some [.int .i64 (effOf (workShare a0 a1 b))] := by
  rw [e_impl_Efficiency]
  simp (disch := omega) only [bindS, nth0, nth1, nth2, nth3, bit, cell0, cell1, cell2, cell3, cell4, cell5, cell6, cell7, cell8, cell9, cell10, cell11, cell12, cell13, cell14, cell15, cell16, cell17, cell18, cell19, cell20, cell21, cell22, cell23, toInt_int, toBool_bool, toStr_str, nil_arr, r3_arr, r4_arr, ints_arr, bools_arr, strs_arr, nI, cond_true, cond_false, Bool.not_true, Bool.not_false, Bool.and_true, Bool.true_and, Bool.and_false, Bool.false_and, Bool.or_true, Bool.true_or, Bool.or_false, Bool.false_or, beq_self_eq_true, dTT, dFF, dT, dF, bigI, big0, nilApp, wrapI, wrapU, List.length_set, List.length_replicate, Int.toNat_natCast, castS, castS2, imax, imin, c_impl_WorkShare]
  cases g : workShare a0 a1 b with
  | none => rfl
  | some s =>
    have f := workShare_facts g
    simp only [Option.isNone_some, cond_false, Option.getD_some, effOf, effic]
    rw [c_slices_Max _ (by omega) _ _ (by omega) (by omega)]
    by_cases hm : maxV s (s.length - 1) 1 (s.getD 0 0) = 0
    · simp (disch := omega) only [bindS, nth0, nth1, nth2, nth3, bit, cell0, cell1, cell2, cell3, cell4, cell5, cell6, cell7, cell8, cell9, cell10, cell11, cell12, cell13, cell14, cell15, cell16, cell17, cell18, cell19, cell20, cell21, cell22, cell23, toInt_int, toBool_bool, toStr_str, nil_arr, r3_arr, r4_arr, ints_arr, bools_arr, strs_arr, nI, cond_true, cond_false, Bool.not_true, Bool.not_false, Bool.and_true, Bool.true_and, Bool.and_false, Bool.false_and, Bool.or_true, Bool.true_or, Bool.or_false, Bool.false_or, beq_self_eq_true, dTT, dFF, dT, dF, bigI, big0, nilApp, wrapI, wrapU, List.length_set, List.length_replicate, Int.toNat_natCast, castS, castS2, imax, imin, if_pos hm]
    · have d := effic_div f.1 f.2.1 f.2.2 hm
      rw [c_impl_sum _ (by omega) _ _ (by omega) (fun x hx => by have := f.2.2 x hx; omega)]
      rw [if_neg hm]
      simp (disch := omega) only [bindS, nth0, nth1, nth2, nth3, bit, cell0, cell1, cell2, cell3, cell4, cell5, cell6, cell7, cell8, cell9, cell10, cell11, cell12, cell13, cell14, cell15, cell16, cell17, cell18, cell19, cell20, cell21, cell22, cell23, toInt_int, toBool_bool, toStr_str, nil_arr, r3_arr, r4_arr, ints_arr, bools_arr, strs_arr, nI, cond_true, cond_false, Bool.not_true, Bool.not_false, Bool.and_true, Bool.true_and, Bool.and_false, Bool.false_and, Bool.or_true, Bool.true_or, Bool.or_false, Bool.false_or, beq_self_eq_true, dTT, dFF, dT, dF, bigI, big0, nilApp, wrapI, wrapU, List.length_set, List.length_replicate, Int.toNat_natCast, castS, castS2, imax, imin]
theorem c_spec_Efficiency (k : Nat) (hk : 2000000 ≤ k) (a0 : Int) (a1z : Bool) (a1 : List (Int × Int × Int)) (bz : Bool) (b : List Int) (hl : (a1.length : Int) ≤ 1048576) (hb : (b.length : Int) ≤ 1048576) : go (k + 7) spec_Efficiency [(.agg [(.int .i64 (a0)), (.arr false (a1z) (.r3 (a1)))]), (.arr false (bz) (.ints .i64 (b)))] = some [.int .i64 (effOf (workShare a0 a1 b))] := by
  rw [e_spec_Efficiency]
  simp (disch := omega) only [bindS, nth0, nth1, nth2, nth3, bit, cell0, cell1, cell2, cell3, cell4, cell5, cell6, cell7, cell8, cell9, cell10, cell11, cell12, cell13, cell14, cell15, cell16, cell17, cell18, cell19, cell20, cell21, cell22, cell23, toInt_int, toBool_bool, toStr_str, nil_arr, r3_arr, r4_arr, ints_arr, bools_arr, strs_arr, nI, cond_true, cond_false, Bool.not_true, Bool.not_false, Bool.and_true, Bool.true_and, Bool.and_false, Bool.false_and, Bool.or_true, Bool.true_or, Bool.or_false, Bool.false_or, beq_self_eq_true, dTT, dFF, dT, dF, bigI, big0, nilApp, wrapI, wrapU, List.length_set, List.length_replicate, Int.toNat_natCast, castS, castS2, imax, imin, c_spec_WorkShare]
  cases g : workShare a0 a1 b with
  | none => rfl
  | some s =>
    have f := workShare_facts g
    simp only [Option.getD_some, effOf, effic]
    obtain ⟨b', e⟩ := c_spec_PeakOf (k + 6 - 1) (by omega) false s (by omega) (by omega)
    rw [show k + 6 - 1 + 1 = k + 6 by omega] at e
    rw [e]
    by_cases hm : maxV s (s.length - 1) 1 (s.getD 0 0) = 0
    · simp (disch := omega) only [bindS, nth0, nth1, nth2, nth3, bit, cell0, cell1, cell2, cell3, cell4, cell5, cell6, cell7, cell8, cell9, cell10, cell11, cell12, cell13, cell14, cell15, cell16, cell17, cell18, cell19, cell20, cell21, cell22, cell23, toInt_int, toBool_bool, toStr_str, nil_arr, r3_arr, r4_arr, ints_arr, bools_arr, strs_arr, nI, cond_true, cond_false, Bool.not_true, Bool.not_false, Bool.and_true, Bool.true_and, Bool.and_false, Bool.false_and, Bool.or_true, Bool.true_or, Bool.or_false, Bool.false_or, beq_self_eq_true, dTT, dFF, dT, dF, bigI, big0, nilApp, wrapI, wrapU, List.length_set, List.length_replicate, Int.toNat_natCast, castS, castS2, imax, imin, if_pos hm]
    · have d := effic_div f.1 f.2.1 f.2.2 hm
      rw [c_spec_l07Sum _ (by omega) _ _ (by omega) (fun x hx => by have := f.2.2 x hx; omega)]
      rw [if_neg hm]
      simp (disch := omega) only [bindS, nth0, nth1, nth2, nth3, bit, cell0, cell1, cell2, cell3, cell4, cell5, cell6, cell7, cell8, cell9, cell10, cell11, cell12, cell13, cell14, cell15, cell16, cell17, cell18, cell19, cell20, cell21, cell22, cell23, toInt_int, toBool_bool, toStr_str, nil_arr, r3_arr, r4_arr, ints_arr, bools_arr, strs_arr, nI, cond_true, cond_false, Bool.not_true, Bool.not_false, Bool.and_true, Bool.true_and, Bool.and_false, Bool.false_and, Bool.or_true, Bool.true_or, Bool.or_false, Bool.false_or, beq_self_eq_true, dTT, dFF, dT, dF, bigI, big0, nilApp, wrapI, wrapU, List.length_set, List.length_replicate, Int.toNat_natCast, castS, castS2, imax, imin]
end Go.Proofs.Ytljphlfgkdmahaa
