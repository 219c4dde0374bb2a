/- Numbers in decimal: both readings agree. -/
import Derived.Test.YtjfjniebmdafeaaDoorXFI
import Derived.Test.YtjfjniebmdafeaaDoorSX
import Derived.Test.YtjfjniebmdafeaaDoorWB
namespace Go.Proofs.YtjfjniebmdafeaaDoor
open Go.Ev
set_option linter.unusedVariables false
set_option linter.unusedSimpArgs false
set_option maxRecDepth 20000
/-- a text of bytes -/
abbrev ba (l : List UInt8) : ByteArray := ⟨l.toArray⟩
theorem ba_app (a b : List UInt8) : ba a ++ ba b = ba (a ++ b) := by
  apply ByteArray.ext
  simp [ba, ByteArray.data_append]
theorem ba_size (a : List UInt8) : ByteArray.size (ba a) = a.length := List.size_toArray ..
theorem ba_list (a : List UInt8) : (ba a).data.toList = a := Eq.trans rfl rfl
def decD (m : Nat) : List UInt8 := if h : m = 0 then [] else decD (m / 10) ++ [UInt8.ofNat (48 + m % 10)]
termination_by m
decreasing_by omega
theorem decD_eq : ∀ (m : Nat), m ≠ 0 → decD m = Lib.decDigits m := by
  intro m
  induction m using Nat.strongRecOn with
  | _ m ih =>
    intro h
    rw [decD, dif_neg h, Lib.decDigits]
    by_cases g : m < 10
    · rw [dif_pos g, show m / 10 = 0 by omega, show m % 10 = m by omega, decD, dif_pos rfl, List.nil_append]
    · rw [dif_neg g, ih (m / 10) (by omega) (by omega)]
theorem c_spec_Figure (k : Nat) (hk : 2000000 ≤ k) (d : Nat) (hd : d < 10) : go (k + 1) spec_l01Figure [.int .i64 (d : Int)] = some [.int .u8 ((48 + d : Nat) : Int)] := by
  rw [e_spec_l01Figure]
  simp (disch := omega) only [bindS, nth0, nth1, nth2, nth3, bit, cell0, cell1, cell2, cell3, cell4, cell5, cell6, cell7, cell8, cell9, cell10, cell11, cell12, cell13, cell14, cell15, cell16, cell17, cell18, cell19, cell20, cell21, cell22, cell23, toInt_int, toBool_bool, toStr_str, nil_arr, r3_arr, r4_arr, ints_arr, bools_arr, strs_arr, nI, condT, condF, Bool.not_true, Bool.not_false, Bool.and_true, Bool.true_and, Bool.and_false, Bool.false_and, Bool.or_true, Bool.true_or, Bool.or_false, Bool.false_or, beq_self_eq_true, dTT, dFF, dT, dF, bigI, big0, nilApp, wrapI, wrapU, List.length_set, List.length_replicate, Int.toNat_natCast, castS, castS2, imax, imin, wrapB, show (48 : Int) + (d : Int) = ((48 + d : Nat) : Int) by omega]
theorem strL_one (d : Nat) : strL [((d : Nat) : Int)] = ba [UInt8.ofNat d] := by
  unfold strL
  simp [ba]
theorem m_fi (k : Nat) (hk : 2000000 ≤ k) (fu : List (Nat × Nat)) (bl : Bool) : ∀ (M N m : Nat) (x : Int) (s : List UInt8), M < N → m < 10 ^ M → (x = (m : Int) ∨ x = -(m : Int)) → m ≤ 9223372036854775808 → s.length + M ≤ 100 → (x ≤ 9223372036854775807) →
    lp (k + 1) spec_FormatInt [] fu 5 (N) (s_spec_FormatInt_5 x bl (ba s)) = some [.str (cond bl (ba (45 :: (decD m ++ s))) (ba (decD m ++ s)))]
  | M, 0, m, x, s, hN, hm, hx, hb, hs, hx' => by omega
  | 0, N + 1, m, x, s, hN, hm, hx, hb, hs, hx' => by
    rw [l_spec_FormatInt_5]
    have m0 : m = 0 := by simpa using hm
    subst m0
    have x0 : x = 0 := by omega
    subst x0
    rw [decD, dif_pos rfl, List.nil_append]
    have sz := ba_size s
    have s1 : ByteArray.size { data := #[(45 : UInt8)] } = 1 := Eq.trans rfl rfl
    have ap : ({ data := #[(45 : UInt8)] } : ByteArray) ++ ba s = ba (45 :: s) := ba_app [45] s
    cases bl
    · simp (disch := omega) only [bindS, nth0, nth1, nth2, nth3, bit, cell0, cell1, cell2, cell3, cell4, cell5, cell6, cell7, cell8, cell9, cell10, cell11, cell12, cell13, cell14, cell15, cell16, cell17, cell18, cell19, cell20, cell21, cell22, cell23, toInt_int, toBool_bool, toStr_str, nil_arr, r3_arr, r4_arr, ints_arr, bools_arr, strs_arr, nI, condT, condF, Bool.not_true, Bool.not_false, Bool.and_true, Bool.true_and, Bool.and_false, Bool.false_and, Bool.or_true, Bool.true_or, Bool.or_false, Bool.false_or, beq_self_eq_true, dTT, dFF, dT, dF, bigI, big0, nilApp, wrapI, wrapU, List.length_set, List.length_replicate, Int.toNat_natCast, castS, castS2, imax, imin]
    · simp (disch := omega) only [bindS, nth0, nth1, nth2, nth3, bit, cell0, cell1, cell2, cell3, cell4, cell5, cell6, cell7, cell8, cell9, cell10, cell11, cell12, cell13, cell14, cell15, cell16, cell17, cell18, cell19, cell20, cell21, cell22, cell23, toInt_int, toBool_bool, toStr_str, nil_arr, r3_arr, r4_arr, ints_arr, bools_arr, strs_arr, nI, condT, condF, Bool.not_true, Bool.not_false, Bool.and_true, Bool.true_and, Bool.and_false, Bool.false_and, Bool.or_true, Bool.true_or, Bool.or_false, Bool.false_or, beq_self_eq_true, dTT, dFF, dT, dF, bigI, big0, nilApp, wrapI, wrapU, List.length_set, List.length_replicate, Int.toNat_natCast, castS, castS2, imax, imin, sz, s1, ap]
  | M + 1, N + 1, m, x, s, hN, hm, hx, hb, hs, hx' => by
    rw [l_spec_FormatInt_5]
    have sz := ba_size s
    have s1 : ByteArray.size { data := #[(45 : UInt8)] } = 1 := Eq.trans rfl rfl
    have ap : ({ data := #[(45 : UInt8)] } : ByteArray) ++ ba s = ba (45 :: s) := ba_app [45] s
    by_cases g : m = 0
    · subst g
      have x0 : x = 0 := by omega
      subst x0
      rw [decD, dif_pos rfl, List.nil_append]
      cases bl
      · simp (disch := omega) only [bindS, nth0, nth1, nth2, nth3, bit, cell0, cell1, cell2, cell3, cell4, cell5, cell6, cell7, cell8, cell9, cell10, cell11, cell12, cell13, cell14, cell15, cell16, cell17, cell18, cell19, cell20, cell21, cell22, cell23, toInt_int, toBool_bool, toStr_str, nil_arr, r3_arr, r4_arr, ints_arr, bools_arr, strs_arr, nI, condT, condF, Bool.not_true, Bool.not_false, Bool.and_true, Bool.true_and, Bool.and_false, Bool.false_and, Bool.or_true, Bool.true_or, Bool.or_false, Bool.false_or, beq_self_eq_true, dTT, dFF, dT, dF, bigI, big0, nilApp, wrapI, wrapU, List.length_set, List.length_replicate, Int.toNat_natCast, castS, castS2, imax, imin]
      · simp (disch := omega) only [bindS, nth0, nth1, nth2, nth3, bit, cell0, cell1, cell2, cell3, cell4, cell5, cell6, cell7, cell8, cell9, cell10, cell11, cell12, cell13, cell14, cell15, cell16, cell17, cell18, cell19, cell20, cell21, cell22, cell23, toInt_int, toBool_bool, toStr_str, nil_arr, r3_arr, r4_arr, ints_arr, bools_arr, strs_arr, nI, condT, condF, Bool.not_true, Bool.not_false, Bool.and_true, Bool.true_and, Bool.and_false, Bool.false_and, Bool.or_true, Bool.true_or, Bool.or_false, Bool.false_or, beq_self_eq_true, dTT, dFF, dT, dF, bigI, big0, nilApp, wrapI, wrapU, List.length_set, List.length_replicate, Int.toNat_natCast, castS, castS2, imax, imin, sz, s1, ap]
    have hne : ¬ x = 0 := by omega
    have m10 : m / 10 < 10 ^ M := by rw [Nat.pow_succ] at hm; omega
    have fig := c_spec_Figure k (by omega) (m % 10) (by omega)
    have st := strL_one (48 + m % 10)
    have sb : ByteArray.size (ba [UInt8.ofNat (48 + m % 10)]) = 1 := Eq.trans rfl rfl
    have ap2 : ba [UInt8.ofNat (48 + m % 10)] ++ ba s = ba (UInt8.ofNat (48 + m % 10) :: s) := ba_app _ _
    have ed : decD m ++ s = decD (m / 10) ++ UInt8.ofNat (48 + m % 10) :: s := by
      rw [decD, dif_neg g, List.append_assoc]; rfl
    rw [ed]
    rcases hx with hx | hx
    · have IH := m_fi k hk fu bl M N (m / 10) ((m / 10 : Nat) : Int) (UInt8.ofNat (48 + m % 10) :: s) (by omega) m10 (Or.inl rfl) (by omega) (by simp only [List.length_cons]; omega) (by omega)
      have t1 : Int.tmod x 10 = ((m % 10 : Nat) : Int) := by rw [hx, Int.tmod_eq_emod_of_nonneg (by omega)]; omega
      have t2 : Int.tdiv x 10 = ((m / 10 : Nat) : Int) := by rw [hx, Int.tdiv_eq_ediv_of_nonneg (by omega)]; omega
      simp (disch := omega) only [bindS, nth0, nth1, nth2, nth3, bit, cell0, cell1, cell2, cell3, cell4, cell5, cell6, cell7, cell8, cell9, cell10, cell11, cell12, cell13, cell14, cell15, cell16, cell17, cell18, cell19, cell20, cell21, cell22, cell23, toInt_int, toBool_bool, toStr_str, nil_arr, r3_arr, r4_arr, ints_arr, bools_arr, strs_arr, nI, condT, condF, Bool.not_true, Bool.not_false, Bool.and_true, Bool.true_and, Bool.and_false, Bool.false_and, Bool.or_true, Bool.true_or, Bool.or_false, Bool.false_or, beq_self_eq_true, dTT, dFF, dT, dF, bigI, big0, nilApp, wrapI, wrapU, List.length_set, List.length_replicate, Int.toNat_natCast, castS, castS2, imax, imin, t1, t2, fig, st, sb, sz, ap2, IH]
    · have IH := m_fi k hk fu bl M N (m / 10) (-((m / 10 : Nat) : Int)) (UInt8.ofNat (48 + m % 10) :: s) (by omega) m10 (Or.inr rfl) (by omega) (by simp only [List.length_cons]; omega) (by omega)
      have t1 : Int.tmod x 10 = -((m % 10 : Nat) : Int) := by rw [hx, Int.neg_tmod, Int.tmod_eq_emod_of_nonneg (by omega)]; omega
      have t2 : Int.tdiv x 10 = -((m / 10 : Nat) : Int) := by rw [hx, Int.neg_tdiv, Int.tdiv_eq_ediv_of_nonneg (by omega)]; omega
      by_cases h0 : m % 10 = 0
      · rw [h0] at t1 fig st sb ap2 ⊢
        rw [h0] at IH
        rw [show ((0 : Nat) : Int) = 0 from rfl] at t1 fig
        rw [Int.neg_zero] at t1
        simp (disch := omega) only [bindS, nth0, nth1, nth2, nth3, bit, cell0, cell1, cell2, cell3, cell4, cell5, cell6, cell7, cell8, cell9, cell10, cell11, cell12, cell13, cell14, cell15, cell16, cell17, cell18, cell19, cell20, cell21, cell22, cell23, toInt_int, toBool_bool, toStr_str, nil_arr, r3_arr, r4_arr, ints_arr, bools_arr, strs_arr, nI, condT, condF, Bool.not_true, Bool.not_false, Bool.and_true, Bool.true_and, Bool.and_false, Bool.false_and, Bool.or_true, Bool.true_or, Bool.or_false, Bool.false_or, beq_self_eq_true, dTT, dFF, dT, dF, bigI, big0, nilApp, wrapI, wrapU, List.length_set, List.length_replicate, Int.toNat_natCast, castS, castS2, imax, imin, t1, t2, fig, st, sb, sz, ap2, IH]
      · simp (disch := omega) only [bindS, nth0, nth1, nth2, nth3, bit, cell0, cell1, cell2, cell3, cell4, cell5, cell6, cell7, cell8, cell9, cell10, cell11, cell12, cell13, cell14, cell15, cell16, cell17, cell18, cell19, cell20, cell21, cell22, cell23, toInt_int, toBool_bool, toStr_str, nil_arr, r3_arr, r4_arr, ints_arr, bools_arr, strs_arr, nI, condT, condF, Bool.not_true, Bool.not_false, Bool.and_true, Bool.true_and, Bool.and_false, Bool.false_and, Bool.or_true, Bool.true_or, Bool.or_false, Bool.false_or, beq_self_eq_true, dTT, dFF, dT, dF, bigI, big0, nilApp, wrapI, wrapU, List.length_set, List.length_replicate, Int.toNat_natCast, castS, castS2, imax, imin, t1, t2, fig, st, sb, sz, ap2, IH, show (0 : Int) - -((m % 10 : Nat) : Int) = ((m % 10 : Nat) : Int) by omega]
theorem c_spec_FormatInt (k : Nat) (hk : 2000000 ≤ k) (n : Int) (hn : inI64 n = true) : go (k + 2) spec_FormatInt [.int .i64 n] = some [.str (ba (Lib.itoa n))] := by
  have hn' := hn
  unfold inI64 at hn'
  simp only [Bool.and_eq_true, decide_eq_true_eq] at hn'
  rw [e_spec_FormatInt]
  by_cases g : n = 0
  · subst g
    have : Lib.itoa 0 = [48] := by
      unfold Lib.itoa; rw [if_neg (by omega)]; exact Lib.decDigits_one (by decide)
    rw [this]
    simp (disch := omega) only [bindS, nth0, nth1, nth2, nth3, bit, cell0, cell1, cell2, cell3, cell4, cell5, cell6, cell7, cell8, cell9, cell10, cell11, cell12, cell13, cell14, cell15, cell16, cell17, cell18, cell19, cell20, cell21, cell22, cell23, toInt_int, toBool_bool, toStr_str, nil_arr, r3_arr, r4_arr, ints_arr, bools_arr, strs_arr, nI, condT, condF, Bool.not_true, Bool.not_false, Bool.and_true, Bool.true_and, Bool.and_false, Bool.false_and, Bool.or_true, Bool.true_or, Bool.or_false, Bool.false_or, beq_self_eq_true, dTT, dFF, dT, dF, bigI, big0, nilApp, wrapI, wrapU, List.length_set, List.length_replicate, Int.toNat_natCast, castS, castS2, imax, imin]
  have e := m_fi k hk [] (decide (n < 0)) 19 (k + 1) n.natAbs n [] (by omega) (by omega) (by omega) (by omega) (by simp) hn'.2
  rw [List.append_nil, decD_eq _ (by omega)] at e
  have i : Lib.itoa n = cond (decide (n < 0)) (45 :: Lib.decDigits n.natAbs) (Lib.decDigits n.natAbs) := by
    unfold Lib.itoa
    by_cases h : n < 0
    · rw [if_pos h, decide_eq_true h]; rfl
    · rw [if_neg h, decide_eq_false h, show n.toNat = n.natAbs by omega]; rfl
  have e' : ba (Lib.itoa n) = cond (decide (n < 0)) (ba (45 :: Lib.decDigits n.natAbs)) (ba (Lib.decDigits n.natAbs)) := by
    rw [i]; cases decide (n < 0) <;> rfl
  rw [e']
  simp (disch := omega) only [bindS, nth0, nth1, nth2, nth3, bit, cell0, cell1, cell2, cell3, cell4, cell5, cell6, cell7, cell8, cell9, cell10, cell11, cell12, cell13, cell14, cell15, cell16, cell17, cell18, cell19, cell20, cell21, cell22, cell23, toInt_int, toBool_bool, toStr_str, nil_arr, r3_arr, r4_arr, ints_arr, bools_arr, strs_arr, nI, condT, condF, Bool.not_true, Bool.not_false, Bool.and_true, Bool.true_and, Bool.and_false, Bool.false_and, Bool.or_true, Bool.true_or, Bool.or_false, Bool.false_or, beq_self_eq_true, dTT, dFF, dT, dF, bigI, big0, nilApp, wrapI, wrapU, List.length_set, List.length_replicate, Int.toNat_natCast, castS, castS2, imax, imin]
  exact e
theorem c_impl_FormatInt (k : Nat) (hk : 2000000 ≤ k) (n : Int) (hn : inI64 n = true) : go (k + 2) impl_FormatInt [.int .i64 n] = some [.str (ba (Lib.itoa n))] := by
  rw [e_impl_FormatInt]
  have e := c_strconv_Itoa k n hn
  simp (disch := omega) only [bindS, nth0, nth1, nth2, nth3, bit, cell0, cell1, cell2, cell3, cell4, cell5, cell6, cell7, cell8, cell9, cell10, cell11, cell12, cell13, cell14, cell15, cell16, cell17, cell18, cell19, cell20, cell21, cell22, cell23, toInt_int, toBool_bool, toStr_str, nil_arr, r3_arr, r4_arr, ints_arr, bools_arr, strs_arr, nI, condT, condF, Bool.not_true, Bool.not_false, Bool.and_true, Bool.true_and, Bool.and_false, Bool.false_and, Bool.or_true, Bool.true_or, Bool.or_false, Bool.false_or, beq_self_eq_true, dTT, dFF, dT, dF, bigI, big0, nilApp, wrapI, wrapU, List.length_set, List.length_replicate, Int.toNat_natCast, castS, castS2, imax, imin, e]
end Go.Proofs.YtjfjniebmdafeaaDoor
