/- Frames: both readings agree. -/
import Derived.Test.YtfgccfajhedgdaaXD
import Derived.Test.YtfgccfajhedgdaaPC
import Derived.Test.YtfgccfajhedgdaaPT0
namespace Go.Proofs.Ytfgccfajhedgdaa
open Go.Ev
set_option linter.unusedVariables false
set_option linter.unusedSimpArgs false
set_option maxRecDepth 20000
theorem castP2 {i : Nat} (h : 2 ≤ i) : (i : Int) - 2 = ((i - 2 : Nat) : Int) := by omega
theorem c_spec_DivFloor' (k : Nat) (hk : 2000000 ≤ k) (a b : Int) (ha : 0 ≤ a) (ha' : a ≤ 1000000000000) (hb : 0 < b) : go (k + 1) spec_DivFloor [.int .i64 a, .int .i64 b] = some [.int .i64 (Int.tdiv a b)] := by
  rw [e_spec_DivFloor]
  have := tdiv_bd (x := a) (y := b) (B := 1000000000000) hb (by omega) ha'
  simp (disch := omega) only [bindS, nth0, nth1, nth2, nth3, bit, cell0, cell1, cell2, cell3, cell4, cell5, cell6, cell7, cell8, cell9, cell10, cell11, cell12, cell13, cell14, cell15, cell16, cell17, cell18, cell19, cell20, cell21, cell22, cell23, toInt_int, toBool_bool, toStr_str, nil_arr, r3_arr, r4_arr, ints_arr, bools_arr, strs_arr, nI, condT, condF, Bool.not_true, Bool.not_false, Bool.and_true, Bool.true_and, Bool.and_false, Bool.false_and, Bool.or_true, Bool.true_or, Bool.or_false, Bool.false_or, beq_self_eq_true, dTT, dFF, dT, dF, bigI, big0, nilApp, wrapI, wrapU, List.length_set, List.length_replicate, Int.toNat_natCast, castS, castS2, imax, imin]
theorem c_impl_DivFloor' (k : Nat) (hk : 2000000 ≤ k) (a b : Int) (ha : 0 ≤ a) (ha' : a ≤ 1000000000000) (hb : 0 < b) : go (k + 1) impl_DivFloor [.int .i64 a, .int .i64 b] = some [.int .i64 (Int.tdiv a b)] := by
  rw [e_impl_DivFloor]
  have := tdiv_bd (x := a) (y := b) (B := 1000000000000) hb (by omega) ha'
  have q : 0 ≤ Int.tmod a b := Int.tmod_nonneg b ha
  simp (disch := omega) only [bindS, nth0, nth1, nth2, nth3, bit, cell0, cell1, cell2, cell3, cell4, cell5, cell6, cell7, cell8, cell9, cell10, cell11, cell12, cell13, cell14, cell15, cell16, cell17, cell18, cell19, cell20, cell21, cell22, cell23, toInt_int, toBool_bool, toStr_str, nil_arr, r3_arr, r4_arr, ints_arr, bools_arr, strs_arr, nI, condT, condF, Bool.not_true, Bool.not_false, Bool.and_true, Bool.true_and, Bool.and_false, Bool.false_and, Bool.or_true, Bool.true_or, Bool.or_false, Bool.false_or, beq_self_eq_true, dTT, dFF, dT, dF, bigI, big0, nilApp, wrapI, wrapU, List.length_set, List.length_replicate, Int.toNat_natCast, castS, castS2, imax, imin]
def quant (x q : Int) : Int := Int.tdiv (2 * x + q) (2 * q)
theorem quant_le {x q : Int} (hx : 0 ≤ x ∧ x ≤ 10000000) (hq : 1 ≤ q ∧ q ≤ 1000000) : 0 ≤ quant x q ∧ quant x q ≤ 10000001 := by
  unfold quant
  rw [Int.tdiv_eq_ediv_of_nonneg (by omega)]
  exact ⟨Int.ediv_nonneg (by omega) (by omega), Int.ediv_le_of_le_mul (by omega) (by omega)⟩
theorem c_spec_Quantize' (k : Nat) (hk : 2000000 ≤ k) (x q : Int) (hx : inR x 0 10000000 = true) (hq : inR q 1 1000000 = true) : go (k + 3) spec_Quantize [.int .i64 x, .int .i64 q] = some [.int .i64 (quant x q)] := by
  have i1 := inR_iff.1 hx; have i2 := inR_iff.1 hq
  have e1 : inR q 1 2147483647 = true := inR_iff.2 ⟨by omega, by omega⟩
  have e2 : inR x (-1000000000000000) 1000000000000000 = true := inR_iff.2 ⟨by omega, by omega⟩
  rw [e_spec_Quantize]
  simp (disch := omega) only [bindS, nth0, nth1, nth2, nth3, bit, cell0, cell1, cell2, cell3, cell4, cell5, cell6, cell7, cell8, cell9, cell10, cell11, cell12, cell13, cell14, cell15, cell16, cell17, cell18, cell19, cell20, cell21, cell22, cell23, toInt_int, toBool_bool, toStr_str, nil_arr, r3_arr, r4_arr, ints_arr, bools_arr, strs_arr, nI, condT, condF, Bool.not_true, Bool.not_false, Bool.and_true, Bool.true_and, Bool.and_false, Bool.false_and, Bool.or_true, Bool.true_or, Bool.or_false, Bool.false_or, beq_self_eq_true, dTT, dFF, dT, dF, bigI, big0, nilApp, wrapI, wrapU, List.length_set, List.length_replicate, Int.toNat_natCast, castS, castS2, imax, imin, c_spec_l01In, hx, hq, e_spec_DivNear, e1, e2, c_spec_DivFloor']
  rfl
theorem c_impl_isQuantum (k : Nat) (hk : 2000000 ≤ k) (a : Int) : go (k + 2) impl_isQuantum [(.int .i64 (a))] = some [.bool (inR a 1 1000000)] := by
  rw [e_impl_isQuantum]
  simp (disch := omega) only [bindS, nth0, nth1, nth2, nth3, bit, cell0, cell1, cell2, cell3, cell4, cell5, cell6, cell7, cell8, cell9, cell10, cell11, cell12, cell13, cell14, cell15, cell16, cell17, cell18, cell19, cell20, cell21, cell22, cell23, toInt_int, toBool_bool, toStr_str, nil_arr, r3_arr, r4_arr, ints_arr, bools_arr, strs_arr, nI, condT, condF, Bool.not_true, Bool.not_false, Bool.and_true, Bool.true_and, Bool.and_false, Bool.false_and, Bool.or_true, Bool.true_or, Bool.or_false, Bool.false_or, beq_self_eq_true, dTT, dFF, dT, dF, bigI, big0, nilApp, wrapI, wrapU, List.length_set, List.length_replicate, Int.toNat_natCast, castS, castS2, imax, imin, c_impl_within]
theorem c_impl_isMass (k : Nat) (hk : 2000000 ≤ k) (a : Int) : go (k + 2) impl_isMass [(.int .i64 (a))] = some [.bool (inR a 0 10000000)] := by
  rw [e_impl_isMass]
  simp (disch := omega) only [bindS, nth0, nth1, nth2, nth3, bit, cell0, cell1, cell2, cell3, cell4, cell5, cell6, cell7, cell8, cell9, cell10, cell11, cell12, cell13, cell14, cell15, cell16, cell17, cell18, cell19, cell20, cell21, cell22, cell23, toInt_int, toBool_bool, toStr_str, nil_arr, r3_arr, r4_arr, ints_arr, bools_arr, strs_arr, nI, condT, condF, Bool.not_true, Bool.not_false, Bool.and_true, Bool.true_and, Bool.and_false, Bool.false_and, Bool.or_true, Bool.true_or, Bool.or_false, Bool.false_or, beq_self_eq_true, dTT, dFF, dT, dF, bigI, big0, nilApp, wrapI, wrapU, List.length_set, List.length_replicate, Int.toNat_natCast, castS, castS2, imax, imin, c_impl_within]
theorem c_impl_Quantize' (k : Nat) (hk : 2000000 ≤ k) (x q : Int) (hx : inR x 0 10000000 = true) (hq : inR q 1 1000000 = true) : go (k + 3) impl_Quantize [.int .i64 x, .int .i64 q] = some [.int .i64 (quant x q)] := by
  have i1 := inR_iff.1 hx; have i2 := inR_iff.1 hq
  have e1 : inR q 1 2147483647 = true := inR_iff.2 ⟨by omega, by omega⟩
  have e2 : inR x (-1000000000000000) 1000000000000000 = true := inR_iff.2 ⟨by omega, by omega⟩
  rw [e_impl_Quantize]
  simp (disch := omega) only [bindS, nth0, nth1, nth2, nth3, bit, cell0, cell1, cell2, cell3, cell4, cell5, cell6, cell7, cell8, cell9, cell10, cell11, cell12, cell13, cell14, cell15, cell16, cell17, cell18, cell19, cell20, cell21, cell22, cell23, toInt_int, toBool_bool, toStr_str, nil_arr, r3_arr, r4_arr, ints_arr, bools_arr, strs_arr, nI, condT, condF, Bool.not_true, Bool.not_false, Bool.and_true, Bool.true_and, Bool.and_false, Bool.false_and, Bool.or_true, Bool.true_or, Bool.or_false, Bool.false_or, beq_self_eq_true, dTT, dFF, dT, dF, bigI, big0, nilApp, wrapI, wrapU, List.length_set, List.length_replicate, Int.toNat_natCast, castS, castS2, imax, imin, c_impl_isQuantum, c_impl_isMass, c_impl_within, hx, hq, e_impl_DivNear, e1, e2, c_impl_DivFloor']
  rfl
def comp (q : Int) : List Int → Int → List Int → List Int
  | [], _, out => out
  | x :: l, last, out => comp q l (quant x q) (if 0 < out.length ∧ out.getD (out.length - 1) 0 = quant x q - last then out.set (out.length - 2) (out.getD (out.length - 2) 0 + 1) else out ++ [1, quant x q - last])
theorem comp_len (q : Int) : ∀ (l : List Int) (last : Int) (out : List Int), (comp q l last out).length ≤ out.length + 2 * l.length
  | [], last, out => by simp [comp]
  | x :: l, last, out => by
    unfold comp
    refine Nat.le_trans (comp_len q l _ _) ?_
    split
    · simp; omega
    · simp; omega
theorem app2_getD {out : List Int} {a b : Int} {B : Int} (ha : 0 ≤ a ∧ a ≤ B) (hb : -100000000 ≤ b ∧ b ≤ B) (h : ∀ j, -100000000 ≤ out.getD j 0 ∧ out.getD j 0 ≤ B) : ∀ j, -100000000 ≤ (out ++ [a, b]).getD j 0 ∧ (out ++ [a, b]).getD j 0 ≤ B := fun j => by
  rw [List.getD_eq_getElem?_getD]
  by_cases g : j < out.length
  · rw [List.getElem?_append_left g, ← List.getD_eq_getElem?_getD]; exact h j
  · rw [List.getElem?_append_right (by omega)]
    rcases Nat.lt_or_ge (j - out.length) 2 with g2 | g2
    · have : j - out.length = 0 ∨ j - out.length = 1 := by omega
      rcases this with e | e <;> rw [e] <;> simp <;> omega
    · rw [List.getElem?_eq_none (by simpa using g2)]; simp; omega
theorem m_spec_Comp (k : Nat) (hk : 2000000 ≤ k) (fu : List (Nat × Nat)) (q : Int) (z : Bool) (l : List Int) (hL : (l.length : Int) ≤ 1000) (hq : inR q 1 1000000 = true) (hm : ∀ x ∈ l, 0 ≤ x ∧ x ≤ 10000000) : ∀ (n i : Nat) (last : Int) (out : List Int), i ≤ l.length → l.length - i < n → 0 ≤ last ∧ last ≤ 10000001 → out.length % 2 = 0 → out.length ≤ 2 * i → (∀ j, -100000000 ≤ out.getD j 0 ∧ out.getD j 0 ≤ 100000000 + i) →
    lp (k + 3) spec_CompressList [] fu 6 (n) (s_spec_CompressList_6 q last (i : Int) z l false out) = some [.arr true false (.ints .i64 (comp q (l.drop i) last out)), .bool true]
  | 0, i, last, out, hi, hn, hl, he, ho, hb => by omega
  | n + 1, i, last, out, hi, hn, hl, he, ho, hb => by
    rw [l_spec_CompressList_6]
    by_cases h : i < l.length
    · have hx := hm _ (getD_mem h 0)
      have hx' : inR (l.getD i 0) 0 10000000 = true := inR_iff.2 hx
      have hqq := quant_le hx (inR_iff.1 hq)
      rw [drop_at h 0, comp]
      by_cases g : 0 < out.length
      · have b2 := hb (out.length - 2)
        by_cases g2 : out.getD (out.length - 1) 0 = quant (l.getD i 0) q - last
        · have e := m_spec_Comp k hk fu q z l hL hq hm n (i + 1) (quant (l.getD i 0) q) (out.set (out.length - 2) (out.getD (out.length - 2) 0 + 1)) (by omega) (by omega) hqq (by simpa using he) (by simp; omega) (fun j => by
            rw [set_getD]
            have := hb j
            split <;> omega)
          rw [if_pos ⟨g, g2⟩]
          simp (disch := omega) only [bindS, nth0, nth1, nth2, nth3, bit, cell0, cell1, cell2, cell3, cell4, cell5, cell6, cell7, cell8, cell9, cell10, cell11, cell12, cell13, cell14, cell15, cell16, cell17, cell18, cell19, cell20, cell21, cell22, cell23, toInt_int, toBool_bool, toStr_str, nil_arr, r3_arr, r4_arr, ints_arr, bools_arr, strs_arr, nI, condT, condF, Bool.not_true, Bool.not_false, Bool.and_true, Bool.true_and, Bool.and_false, Bool.false_and, Bool.or_true, Bool.true_or, Bool.or_false, Bool.false_or, beq_self_eq_true, dTT, dFF, dT, dF, bigI, big0, nilApp, wrapI, wrapU, List.length_set, List.length_replicate, Int.toNat_natCast, castS, castS2, imax, imin, c_spec_l01In, hx', c_spec_Quantize', castP, castP2, show ∀ a b : Int, a + (b - a) = b from fun a b => by omega, e]
        · have e := m_spec_Comp k hk fu q z l hL hq hm n (i + 1) (quant (l.getD i 0) q) (out ++ [1, quant (l.getD i 0) q - last]) (by omega) (by omega) hqq (by simp; omega) (by simp; omega) (fun j => by
            have := app2_getD (out := out) (a := 1) (b := quant (l.getD i 0) q - last) (B := 100000000 + i) (by omega) (by omega) hb j
            omega)
          have hlen : (out ++ [1, quant (l.getD i 0) q - last]).length = out.length + 2 := by simp
          rw [if_neg (fun hh => g2 hh.2)]
          simp (disch := omega) only [bindS, nth0, nth1, nth2, nth3, bit, cell0, cell1, cell2, cell3, cell4, cell5, cell6, cell7, cell8, cell9, cell10, cell11, cell12, cell13, cell14, cell15, cell16, cell17, cell18, cell19, cell20, cell21, cell22, cell23, toInt_int, toBool_bool, toStr_str, nil_arr, r3_arr, r4_arr, ints_arr, bools_arr, strs_arr, nI, condT, condF, Bool.not_true, Bool.not_false, Bool.and_true, Bool.true_and, Bool.and_false, Bool.false_and, Bool.or_true, Bool.true_or, Bool.or_false, Bool.false_or, beq_self_eq_true, dTT, dFF, dT, dF, bigI, big0, nilApp, wrapI, wrapU, List.length_set, List.length_replicate, Int.toNat_natCast, castS, castS2, imax, imin, c_spec_l01In, hx', c_spec_Quantize', castP, castP2, show ∀ a b : Int, a + (b - a) = b from fun a b => by omega, hlen, big0, e]
      · have e := m_spec_Comp k hk fu q z l hL hq hm n (i + 1) (quant (l.getD i 0) q) (out ++ [1, quant (l.getD i 0) q - last]) (by omega) (by omega) hqq (by simp; omega) (by simp; omega) (fun j => by
          have := app2_getD (out := out) (a := 1) (b := quant (l.getD i 0) q - last) (B := 100000000 + i) (by omega) (by omega) hb j
          omega)
        have hlen : (out ++ [1, quant (l.getD i 0) q - last]).length = out.length + 2 := by simp
        rw [if_neg (fun hh => g hh.1)]
        simp (disch := omega) only [bindS, nth0, nth1, nth2, nth3, bit, cell0, cell1, cell2, cell3, cell4, cell5, cell6, cell7, cell8, cell9, cell10, cell11, cell12, cell13, cell14, cell15, cell16, cell17, cell18, cell19, cell20, cell21, cell22, cell23, toInt_int, toBool_bool, toStr_str, nil_arr, r3_arr, r4_arr, ints_arr, bools_arr, strs_arr, nI, condT, condF, Bool.not_true, Bool.not_false, Bool.and_true, Bool.true_and, Bool.and_false, Bool.false_and, Bool.or_true, Bool.true_or, Bool.or_false, Bool.false_or, beq_self_eq_true, dTT, dFF, dT, dF, bigI, big0, nilApp, wrapI, wrapU, List.length_set, List.length_replicate, Int.toNat_natCast, castS, castS2, imax, imin, c_spec_l01In, hx', c_spec_Quantize', castP, castP2, show ∀ a b : Int, a + (b - a) = b from fun a b => by omega, hlen, big0, e]
    · rw [List.drop_of_length_le (by omega : l.length ≤ i)]
      simp (disch := omega) only [bindS, nth0, nth1, nth2, nth3, bit, cell0, cell1, cell2, cell3, cell4, cell5, cell6, cell7, cell8, cell9, cell10, cell11, cell12, cell13, cell14, cell15, cell16, cell17, cell18, cell19, cell20, cell21, cell22, cell23, toInt_int, toBool_bool, toStr_str, nil_arr, r3_arr, r4_arr, ints_arr, bools_arr, strs_arr, nI, condT, condF, Bool.not_true, Bool.not_false, Bool.and_true, Bool.true_and, Bool.and_false, Bool.false_and, Bool.or_true, Bool.true_or, Bool.or_false, Bool.false_or, beq_self_eq_true, dTT, dFF, dT, dF, bigI, big0, nilApp, wrapI, wrapU, List.length_set, List.length_replicate, Int.toNat_natCast, castS, castS2, imax, imin]
      rfl
theorem m_impl_Comp (k : Nat) (hk : 2000000 ≤ k) (fu : List (Nat × Nat)) (q : Int) (z : Bool) (l : List Int) (hL : (l.length : Int) ≤ 1000) (hq : inR q 1 1000000 = true) (hm : ∀ x ∈ l, 0 ≤ x ∧ x ≤ 10000000) : ∀ (n i : Nat) (last : Int) (out : List Int), i ≤ l.length → l.length - i < n → 0 ≤ last ∧ last ≤ 10000001 → out.length % 2 = 0 → out.length ≤ 2 * i → (∀ j, -100000000 ≤ out.getD j 0 ∧ out.getD j 0 ≤ 100000000 + i) →
    lp (k + 3) impl_CompressList [] fu 6 (n) (s_impl_CompressList_6 q last (l.length : Int) (i : Int) false out z l) = some [.arr true false (.ints .i64 (comp q (l.drop i) last out)), .bool true]
  | 0, i, last, out, hi, hn, hl, he, ho, hb => by omega
  | n + 1, i, last, out, hi, hn, hl, he, ho, hb => by
    rw [l_impl_CompressList_6]
    by_cases h : i < l.length
    · have hx := hm _ (getD_mem h 0)
      have hx' : inR (l.getD i 0) 0 10000000 = true := inR_iff.2 hx
      have hqq := quant_le hx (inR_iff.1 hq)
      rw [drop_at h 0, comp]
      by_cases g : 0 < out.length
      · have b2 := hb (out.length - 2)
        by_cases g2 : out.getD (out.length - 1) 0 = quant (l.getD i 0) q - last
        · have e := m_impl_Comp k hk fu q z l hL hq hm n (i + 1) (quant (l.getD i 0) q) (out.set (out.length - 2) (out.getD (out.length - 2) 0 + 1)) (by omega) (by omega) hqq (by simpa using he) (by simp; omega) (fun j => by
            rw [set_getD]
            have := hb j
            split <;> omega)
          rw [if_pos ⟨g, g2⟩]
          simp (disch := omega) only [bindS, nth0, nth1, nth2, nth3, bit, cell0, cell1, cell2, cell3, cell4, cell5, cell6, cell7, cell8, cell9, cell10, cell11, cell12, cell13, cell14, cell15, cell16, cell17, cell18, cell19, cell20, cell21, cell22, cell23, toInt_int, toBool_bool, toStr_str, nil_arr, r3_arr, r4_arr, ints_arr, bools_arr, strs_arr, nI, condT, condF, Bool.not_true, Bool.not_false, Bool.and_true, Bool.true_and, Bool.and_false, Bool.false_and, Bool.or_true, Bool.true_or, Bool.or_false, Bool.false_or, beq_self_eq_true, dTT, dFF, dT, dF, bigI, big0, nilApp, wrapI, wrapU, List.length_set, List.length_replicate, Int.toNat_natCast, castS, castS2, imax, imin, c_impl_isMass, hx', c_impl_Quantize', castP, castP2, e]
        · have e := m_impl_Comp k hk fu q z l hL hq hm n (i + 1) (quant (l.getD i 0) q) (out ++ [1, quant (l.getD i 0) q - last]) (by omega) (by omega) hqq (by simp; omega) (by simp; omega) (fun j => by
            have := app2_getD (out := out) (a := 1) (b := quant (l.getD i 0) q - last) (B := 100000000 + i) (by omega) (by omega) hb j
            omega)
          have hlen : (out ++ [1, quant (l.getD i 0) q - last]).length = out.length + 2 := by simp
          rw [if_neg (fun hh => g2 hh.2)]
          simp (disch := omega) only [bindS, nth0, nth1, nth2, nth3, bit, cell0, cell1, cell2, cell3, cell4, cell5, cell6, cell7, cell8, cell9, cell10, cell11, cell12, cell13, cell14, cell15, cell16, cell17, cell18, cell19, cell20, cell21, cell22, cell23, toInt_int, toBool_bool, toStr_str, nil_arr, r3_arr, r4_arr, ints_arr, bools_arr, strs_arr, nI, condT, condF, Bool.not_true, Bool.not_false, Bool.and_true, Bool.true_and, Bool.and_false, Bool.false_and, Bool.or_true, Bool.true_or, Bool.or_false, Bool.false_or, beq_self_eq_true, dTT, dFF, dT, dF, bigI, big0, nilApp, wrapI, wrapU, List.length_set, List.length_replicate, Int.toNat_natCast, castS, castS2, imax, imin, c_impl_isMass, hx', c_impl_Quantize', castP, castP2, hlen, big0, e]
      · have e := m_impl_Comp k hk fu q z l hL hq hm n (i + 1) (quant (l.getD i 0) q) (out ++ [1, quant (l.getD i 0) q - last]) (by omega) (by omega) hqq (by simp; omega) (by simp; omega) (fun j => by
          have := app2_getD (out := out) (a := 1) (b := quant (l.getD i 0) q - last) (B := 100000000 + i) (by omega) (by omega) hb j
          omega)
        have hlen : (out ++ [1, quant (l.getD i 0) q - last]).length = out.length + 2 := by simp
        rw [if_neg (fun hh => g hh.1)]
        simp (disch := omega) only [bindS, nth0, nth1, nth2, nth3, bit, cell0, cell1, cell2, cell3, cell4, cell5, cell6, cell7, cell8, cell9, cell10, cell11, cell12, cell13, cell14, cell15, cell16, cell17, cell18, cell19, cell20, cell21, cell22, cell23, toInt_int, toBool_bool, toStr_str, nil_arr, r3_arr, r4_arr, ints_arr, bools_arr, strs_arr, nI, condT, condF, Bool.not_true, Bool.not_false, Bool.and_true, Bool.true_and, Bool.and_false, Bool.false_and, Bool.or_true, Bool.true_or, Bool.or_false, Bool.false_or, beq_self_eq_true, dTT, dFF, dT, dF, bigI, big0, nilApp, wrapI, wrapU, List.length_set, List.length_replicate, Int.toNat_natCast, castS, castS2, imax, imin, c_impl_isMass, hx', c_impl_Quantize', castP, castP2, hlen, big0, e]
    · rw [List.drop_of_length_le (by omega : l.length ≤ i)]
      simp (disch := omega) only [bindS, nth0, nth1, nth2, nth3, bit, cell0, cell1, cell2, cell3, cell4, cell5, cell6, cell7, cell8, cell9, cell10, cell11, cell12, cell13, cell14, cell15, cell16, cell17, cell18, cell19, cell20, cell21, cell22, cell23, toInt_int, toBool_bool, toStr_str, nil_arr, r3_arr, r4_arr, ints_arr, bools_arr, strs_arr, nI, condT, condF, Bool.not_true, Bool.not_false, Bool.and_true, Bool.true_and, Bool.and_false, Bool.false_and, Bool.or_true, Bool.true_or, Bool.or_false, Bool.false_or, beq_self_eq_true, dTT, dFF, dT, dF, bigI, big0, nilApp, wrapI, wrapU, List.length_set, List.length_replicate, Int.toNat_natCast, castS, castS2, imax, imin]
      rfl
theorem c_spec_Compress (k : Nat) (hk : 2000000 ≤ k) (az : Bool) (a : List Int) (b : Int) (hL : (a.length : Int) ≤ 1000) (hq : inR b 1 1000000 = true) (hm : ∀ x ∈ a, 0 ≤ x ∧ x ≤ 10000000) : go (k + 4) spec_CompressList [(.arr false (az) (.ints .i64 (a))), (.int .i64 (b))] = some [.arr true false (.ints .i64 (comp b a 0 [])), .bool true] := by
  rw [e_spec_CompressList]
  have e := m_spec_Comp k hk [] b az a hL hq hm (k + 3) 0 0 [] (by omega) (by omega) (by omega) (by simp) (by simp) (fun j => by simp)
  rw [List.drop_zero] at e
  simp (disch := omega) only [bindS, nth0, nth1, nth2, nth3, bit, cell0, cell1, cell2, cell3, cell4, cell5, cell6, cell7, cell8, cell9, cell10, cell11, cell12, cell13, cell14, cell15, cell16, cell17, cell18, cell19, cell20, cell21, cell22, cell23, toInt_int, toBool_bool, toStr_str, nil_arr, r3_arr, r4_arr, ints_arr, bools_arr, strs_arr, nI, condT, condF, Bool.not_true, Bool.not_false, Bool.and_true, Bool.true_and, Bool.and_false, Bool.false_and, Bool.or_true, Bool.true_or, Bool.or_false, Bool.false_or, beq_self_eq_true, dTT, dFF, dT, dF, bigI, big0, nilApp, wrapI, wrapU, List.length_set, List.length_replicate, Int.toNat_natCast, castS, castS2, imax, imin, c_spec_l01In, hq]
  exact e
theorem c_impl_Compress (k : Nat) (hk : 2000000 ≤ k) (az : Bool) (a : List Int) (b : Int) (hL : (a.length : Int) ≤ 1000) (hq : inR b 1 1000000 = true) (hm : ∀ x ∈ a, 0 ≤ x ∧ x ≤ 10000000) : go (k + 4) impl_CompressList [(.arr false (az) (.ints .i64 (a))), (.int .i64 (b))] = some [.arr true false (.ints .i64 (comp b a 0 [])), .bool true] := by
  rw [e_impl_CompressList]
  have e := m_impl_Comp k hk [] b az a hL hq hm (k + 3) 0 0 [] (by omega) (by omega) (by omega) (by simp) (by simp) (fun j => by simp)
  rw [List.drop_zero] at e
  simp (disch := omega) only [bindS, nth0, nth1, nth2, nth3, bit, cell0, cell1, cell2, cell3, cell4, cell5, cell6, cell7, cell8, cell9, cell10, cell11, cell12, cell13, cell14, cell15, cell16, cell17, cell18, cell19, cell20, cell21, cell22, cell23, toInt_int, toBool_bool, toStr_str, nil_arr, r3_arr, r4_arr, ints_arr, bools_arr, strs_arr, nI, condT, condF, Bool.not_true, Bool.not_false, Bool.and_true, Bool.true_and, Bool.and_false, Bool.false_and, Bool.or_true, Bool.true_or, Bool.or_false, Bool.false_or, beq_self_eq_true, dTT, dFF, dT, dF, bigI, big0, nilApp, wrapI, wrapU, List.length_set, List.length_replicate, Int.toNat_natCast, castS, castS2, imax, imin, c_impl_isQuantum, hq]
  exact e
theorem StF.m7 {r : Int} {l : List Cell} {m t b : List Int} (F : StF r l m t b) : ∀ x ∈ m, 0 ≤ x ∧ x ≤ 10000000 := (massOk_mem m t (by rw [F.ml, F.tl]) F.mt).1
abbrev emptyF : D := .agg [.int .i64 0, .int .i64 0, .arr true true (.r3 []), .int .i64 0, .int .i64 0, .int .i64 0, .arr true true (.ints .i64 [])]
theorem c_spec_WriteFrame (k : Nat) (hk : 2000000 ≤ k) (a0 : Int) (a1z : Bool) (a1 : List (Int × Int × Int)) (a2z : Bool) (a2 : List Int) (a3z : Bool) (a3 : List Int) (a4z : Bool) (a4 : List Int) (b : Int) (c : Int) (h1 : (a1.length : Int) ≤ 1048576) (h4 : (a4.length : Int) ≤ 1048576) :
    go (k + 9) spec_WriteFrame [(.agg [(.int .i64 (a0)), (.arr false (a1z) (.r3 (a1))), (.arr false (a2z) (.ints .i64 (a2))), (.arr false (a3z) (.ints .i64 (a3))), (.arr false (a4z) (.ints .i64 (a4)))]), (.int .i64 (b)), (.int .i64 (c))] = cond (stOk a0 a1 a2 a3 a4 && (decide (0 ≤ b) && inR c 1 1000000)) (some [.agg [.int .i64 b, .int .i64 a0, .arr true false (.r3 a1), .int .i64 (isum a2), .int .i64 (isum a3), .int .i64 c, .arr true false (.ints .i64 (comp c a2 0 []))], .bool true]) (some [emptyF, .bool false]) := by
  rw [e_spec_WriteFrame]
  simp (disch := omega) only [bindS, nth0, nth1, nth2, nth3, bit, cell0, cell1, cell2, cell3, cell4, cell5, cell6, cell7, cell8, cell9, cell10, cell11, cell12, cell13, cell14, cell15, cell16, cell17, cell18, cell19, cell20, cell21, cell22, cell23, toInt_int, toBool_bool, toStr_str, nil_arr, r3_arr, r4_arr, ints_arr, bools_arr, strs_arr, nI, condT, condF, Bool.not_true, Bool.not_false, Bool.and_true, Bool.true_and, Bool.and_false, Bool.false_and, Bool.or_true, Bool.true_or, Bool.or_false, Bool.false_or, beq_self_eq_true, dTT, dFF, dT, dF, bigI, big0, nilApp, wrapI, wrapU, List.length_set, List.length_replicate, Int.toNat_natCast, castS, castS2, imax, imin, c_spec_StateOk, c_spec_l01In]
  cases g : stOk a0 a1 a2 a3 a4
  · simp only [Bool.not_false, condT, condF, Bool.false_and]
  have F := stF.1 g
  have := F.len; have := F.ml; have := F.tl; have := F.bl; have := F.rr
  by_cases gb : 0 ≤ b
  case neg => simp (disch := omega) only [bindS, nth0, nth1, nth2, nth3, bit, cell0, cell1, cell2, cell3, cell4, cell5, cell6, cell7, cell8, cell9, cell10, cell11, cell12, cell13, cell14, cell15, cell16, cell17, cell18, cell19, cell20, cell21, cell22, cell23, toInt_int, toBool_bool, toStr_str, nil_arr, r3_arr, r4_arr, ints_arr, bools_arr, strs_arr, nI, condT, condF, Bool.not_true, Bool.not_false, Bool.and_true, Bool.true_and, Bool.and_false, Bool.false_and, Bool.or_true, Bool.true_or, Bool.or_false, Bool.false_or, beq_self_eq_true, dTT, dFF, dT, dF, bigI, big0, nilApp, wrapI, wrapU, List.length_set, List.length_replicate, Int.toNat_natCast, castS, castS2, imax, imin]
  cases g2 : inR c 1 1000000
  · simp (disch := omega) only [bindS, nth0, nth1, nth2, nth3, bit, cell0, cell1, cell2, cell3, cell4, cell5, cell6, cell7, cell8, cell9, cell10, cell11, cell12, cell13, cell14, cell15, cell16, cell17, cell18, cell19, cell20, cell21, cell22, cell23, toInt_int, toBool_bool, toStr_str, nil_arr, r3_arr, r4_arr, ints_arr, bools_arr, strs_arr, nI, condT, condF, Bool.not_true, Bool.not_false, Bool.and_true, Bool.true_and, Bool.and_false, Bool.false_and, Bool.or_true, Bool.true_or, Bool.or_false, Bool.false_or, beq_self_eq_true, dTT, dFF, dT, dF, bigI, big0, nilApp, wrapI, wrapU, List.length_set, List.length_replicate, Int.toNat_natCast, castS, castS2, imax, imin]
  simp (disch := omega) only [bindS, nth0, nth1, nth2, nth3, bit, cell0, cell1, cell2, cell3, cell4, cell5, cell6, cell7, cell8, cell9, cell10, cell11, cell12, cell13, cell14, cell15, cell16, cell17, cell18, cell19, cell20, cell21, cell22, cell23, toInt_int, toBool_bool, toStr_str, nil_arr, r3_arr, r4_arr, ints_arr, bools_arr, strs_arr, nI, condT, condF, Bool.not_true, Bool.not_false, Bool.and_true, Bool.true_and, Bool.and_false, Bool.false_and, Bool.or_true, Bool.true_or, Bool.or_false, Bool.false_or, beq_self_eq_true, dTT, dFF, dT, dF, bigI, big0, nilApp, wrapI, wrapU, List.length_set, List.length_replicate, Int.toNat_natCast, castS, castS2, imax, imin]
  rw [c_spec_Compress _ (by omega) _ _ _ (by omega) g2 F.m7]
  simp (disch := omega) only [bindS, nth0, nth1, nth2, nth3, bit, cell0, cell1, cell2, cell3, cell4, cell5, cell6, cell7, cell8, cell9, cell10, cell11, cell12, cell13, cell14, cell15, cell16, cell17, cell18, cell19, cell20, cell21, cell22, cell23, toInt_int, toBool_bool, toStr_str, nil_arr, r3_arr, r4_arr, ints_arr, bools_arr, strs_arr, nI, condT, condF, Bool.not_true, Bool.not_false, Bool.and_true, Bool.true_and, Bool.and_false, Bool.false_and, Bool.or_true, Bool.true_or, Bool.or_false, Bool.false_or, beq_self_eq_true, dTT, dFF, dT, dF, bigI, big0, nilApp, wrapI, wrapU, List.length_set, List.length_replicate, Int.toNat_natCast, castS, castS2, imax, imin, c_spec_l04Copy, e_spec_TotalMass, e_spec_TotalTracer, c_spec_StateOk, g]
  rw [c_spec_l07Sum _ (by omega) _ _ (by omega) F.mmem, c_spec_l07Sum _ (by omega) _ _ (by omega) F.tmem]
  simp (disch := omega) only [bindS, nth0, nth1, nth2, nth3, bit, cell0, cell1, cell2, cell3, cell4, cell5, cell6, cell7, cell8, cell9, cell10, cell11, cell12, cell13, cell14, cell15, cell16, cell17, cell18, cell19, cell20, cell21, cell22, cell23, toInt_int, toBool_bool, toStr_str, nil_arr, r3_arr, r4_arr, ints_arr, bools_arr, strs_arr, nI, condT, condF, Bool.not_true, Bool.not_false, Bool.and_true, Bool.true_and, Bool.and_false, Bool.false_and, Bool.or_true, Bool.true_or, Bool.or_false, Bool.false_or, beq_self_eq_true, dTT, dFF, dT, dF, bigI, big0, nilApp, wrapI, wrapU, List.length_set, List.length_replicate, Int.toNat_natCast, castS, castS2, imax, imin]
theorem c_impl_WriteFrame (k : Nat) (hk : 2000000 ≤ k) (a0 : Int) (a1 : List Cell) (a2 a3 a4 : List Int) (b c : Int) (h1 : (a1.length : Int) ≤ 1048576) (h4 : (a4.length : Int) ≤ 1048576) :
    go (k + 9) impl_WriteFrame [.agg [.int .i64 (a0), .arr false (false) (.r3 (a1)), .arr false (false) (.ints .i64 (a2)), .arr false (false) (.ints .i64 (a3)), .arr false (false) (.ints .i64 (a4))], .int .i64 b, .int .i64 c] = cond (stOk a0 a1 a2 a3 a4 && (decide (0 ≤ b) && inR c 1 1000000)) (some [.agg [.int .i64 b, .int .i64 a0, .arr true false (.r3 a1), .int .i64 (isum a2), .int .i64 (isum a3), .int .i64 c, .arr true false (.ints .i64 (comp c a2 0 []))], .bool true]) (some [emptyF, .bool false]) := by
  rw [e_impl_WriteFrame]
  simp (disch := omega) only [bindS, nth0, nth1, nth2, nth3, bit, cell0, cell1, cell2, cell3, cell4, cell5, cell6, cell7, cell8, cell9, cell10, cell11, cell12, cell13, cell14, cell15, cell16, cell17, cell18, cell19, cell20, cell21, cell22, cell23, toInt_int, toBool_bool, toStr_str, nil_arr, r3_arr, r4_arr, ints_arr, bools_arr, strs_arr, nI, condT, condF, Bool.not_true, Bool.not_false, Bool.and_true, Bool.true_and, Bool.and_false, Bool.false_and, Bool.or_true, Bool.true_or, Bool.or_false, Bool.false_or, beq_self_eq_true, dTT, dFF, dT, dF, bigI, big0, nilApp, wrapI, wrapU, List.length_set, List.length_replicate, Int.toNat_natCast, castS, castS2, imax, imin, c_impl_StateOk, c_impl_isQuantum]
  cases g : stOk a0 a1 a2 a3 a4
  · simp only [Bool.not_false, condT, condF, Bool.false_and]
  have F := stF.1 g
  have := F.len; have := F.ml; have := F.tl; have := F.bl; have := F.rr
  by_cases gb : 0 ≤ b
  case neg => simp (disch := omega) only [bindS, nth0, nth1, nth2, nth3, bit, cell0, cell1, cell2, cell3, cell4, cell5, cell6, cell7, cell8, cell9, cell10, cell11, cell12, cell13, cell14, cell15, cell16, cell17, cell18, cell19, cell20, cell21, cell22, cell23, toInt_int, toBool_bool, toStr_str, nil_arr, r3_arr, r4_arr, ints_arr, bools_arr, strs_arr, nI, condT, condF, Bool.not_true, Bool.not_false, Bool.and_true, Bool.true_and, Bool.and_false, Bool.false_and, Bool.or_true, Bool.true_or, Bool.or_false, Bool.false_or, beq_self_eq_true, dTT, dFF, dT, dF, bigI, big0, nilApp, wrapI, wrapU, List.length_set, List.length_replicate, Int.toNat_natCast, castS, castS2, imax, imin]
  cases g2 : inR c 1 1000000
  · simp (disch := omega) only [bindS, nth0, nth1, nth2, nth3, bit, cell0, cell1, cell2, cell3, cell4, cell5, cell6, cell7, cell8, cell9, cell10, cell11, cell12, cell13, cell14, cell15, cell16, cell17, cell18, cell19, cell20, cell21, cell22, cell23, toInt_int, toBool_bool, toStr_str, nil_arr, r3_arr, r4_arr, ints_arr, bools_arr, strs_arr, nI, condT, condF, Bool.not_true, Bool.not_false, Bool.and_true, Bool.true_and, Bool.and_false, Bool.false_and, Bool.or_true, Bool.true_or, Bool.or_false, Bool.false_or, beq_self_eq_true, dTT, dFF, dT, dF, bigI, big0, nilApp, wrapI, wrapU, List.length_set, List.length_replicate, Int.toNat_natCast, castS, castS2, imax, imin]
  simp (disch := omega) only [bindS, nth0, nth1, nth2, nth3, bit, cell0, cell1, cell2, cell3, cell4, cell5, cell6, cell7, cell8, cell9, cell10, cell11, cell12, cell13, cell14, cell15, cell16, cell17, cell18, cell19, cell20, cell21, cell22, cell23, toInt_int, toBool_bool, toStr_str, nil_arr, r3_arr, r4_arr, ints_arr, bools_arr, strs_arr, nI, condT, condF, Bool.not_true, Bool.not_false, Bool.and_true, Bool.true_and, Bool.and_false, Bool.false_and, Bool.or_true, Bool.true_or, Bool.or_false, Bool.false_or, beq_self_eq_true, dTT, dFF, dT, dF, bigI, big0, nilApp, wrapI, wrapU, List.length_set, List.length_replicate, Int.toNat_natCast, castS, castS2, imax, imin]
  rw [c_impl_Compress _ (by omega) _ _ _ (by omega) g2 F.m7]
  simp (disch := omega) only [bindS, nth0, nth1, nth2, nth3, bit, cell0, cell1, cell2, cell3, cell4, cell5, cell6, cell7, cell8, cell9, cell10, cell11, cell12, cell13, cell14, cell15, cell16, cell17, cell18, cell19, cell20, cell21, cell22, cell23, toInt_int, toBool_bool, toStr_str, nil_arr, r3_arr, r4_arr, ints_arr, bools_arr, strs_arr, nI, condT, condF, Bool.not_true, Bool.not_false, Bool.and_true, Bool.true_and, Bool.and_false, Bool.false_and, Bool.or_true, Bool.true_or, Bool.or_false, Bool.false_or, beq_self_eq_true, dTT, dFF, dT, dF, bigI, big0, nilApp, wrapI, wrapU, List.length_set, List.length_replicate, Int.toNat_natCast, castS, castS2, imax, imin, c_impl_copyMesh]
  rw [c_impl_sum _ (by omega) _ _ (by omega) F.mmem, c_impl_sum _ (by omega) _ _ (by omega) F.tmem]
  simp (disch := omega) only [bindS, nth0, nth1, nth2, nth3, bit, cell0, cell1, cell2, cell3, cell4, cell5, cell6, cell7, cell8, cell9, cell10, cell11, cell12, cell13, cell14, cell15, cell16, cell17, cell18, cell19, cell20, cell21, cell22, cell23, toInt_int, toBool_bool, toStr_str, nil_arr, r3_arr, r4_arr, ints_arr, bools_arr, strs_arr, nI, condT, condF, Bool.not_true, Bool.not_false, Bool.and_true, Bool.true_and, Bool.and_false, Bool.false_and, Bool.or_true, Bool.true_or, Bool.or_false, Bool.false_or, beq_self_eq_true, dTT, dFF, dT, dF, bigI, big0, nilApp, wrapI, wrapU, List.length_set, List.length_replicate, Int.toNat_natCast, castS, castS2, imax, imin]
end Go.Proofs.Ytfgccfajhedgdaa
