/- The mesh: both readings of it agree. -/
import Derived.Test.YtljphlfgkdmahaaX2
import Derived.ProofKit
namespace Go.Proofs.Ytljphlfgkdmahaa
open Go.Ev
set_option linter.unusedVariables false
set_option linter.unusedSimpArgs false
theorem wrapI {x : Int} (h : -9223372036854775808 ≤ x) (h' : x ≤ 9223372036854775807) : IntKind.wrap .i64 x = x := by rw [IntKind.wrap_i64]; omega
theorem wrapU {x : Int} (h : 0 ≤ x) (h' : x ≤ 9223372036854775807) : IntKind.wrap .u64 x = x := by rw [IntKind.wrap_u64]; omega
theorem nth0 (d : D) (l : List D) : nth (d :: l) 0 = d := rfl
theorem cell0 (d : D) (l : List D) : (D.agg (d :: l)).cell 0 = d := rfl
theorem cell1 (d e : D) (l : List D) : (D.agg (d :: e :: l)).cell 1 = e := rfl
theorem cell2 (d e f : D) (l : List D) : (D.agg (d :: e :: f :: l)).cell 2 = f := rfl
theorem toInt_int (k : IntKind) (n : Int) : (D.int k n).toInt = n := rfl
theorem toBool_bool (b : Bool) : (D.bool b).toBool = b := rfl
theorem nil_arr (o n : Bool) (a : Arr) : (D.arr o n a).nil = n := rfl
theorem r3_arr (o n : Bool) (l : List (Int × Int × Int)) : (D.arr o n (.r3 l)).r3 = l := rfl
theorem bindS {α : Type} (x : List D) (f : List D → Option α) : (some x).bind f = f x := rfl
theorem decT {p : Prop} {i : Decidable p} : (@decide p i = true) = p := by cases i <;> simp_all
def inR (a b c : Int) : Bool := decide (b ≤ a) && decide (a ≤ c)
theorem c_spec_l01In (k : Nat) (a b c : Int) : go (k + 1) spec_l01In [.int .i64 a, .int .i64 b, .int .i64 c] = some [.bool (inR a b c)] := by
  rw [e_spec_l01In]; unfold inR; cases decide (b ≤ a) <;> rfl
theorem c_impl_within (k : Nat) (a b c : Int) : go (k + 1) impl_within [.int .i64 a, .int .i64 b, .int .i64 c] = some [.bool (inR a b c)] := by
  rw [e_impl_within]; unfold inR; cases decide (b ≤ a) <;> rfl
def pow2 (l : Int) : Int := 2 ^ l.toNat
def idOk (r l i : Int) : Bool := inR r 0 7 && (inR l 0 4 && (decide (0 ≤ i) && decide (i < pow2 l)))
theorem lev {l : Int} (h : inR l 0 4 = true) : l = 0 ∨ l = 1 ∨ l = 2 ∨ l = 3 ∨ l = 4 := by
  simp only [inR, Bool.and_eq_true, decide_eq_true_eq] at h; omega
theorem p20 : pow2 0 = 1 := rfl
theorem p21 : pow2 1 = 2 := rfl
theorem p22 : pow2 2 = 4 := rfl
theorem p23 : pow2 3 = 8 := rfl
theorem p24 : pow2 4 = 16 := rfl
theorem sh0 : shiftN .i64 0 = 0 := by decide
theorem sh1 : shiftN .i64 1 = 1 := by decide
theorem sh2 : shiftN .i64 2 = 2 := by decide
theorem sh3 : shiftN .i64 3 = 3 := by decide
theorem sh4 : shiftN .i64 4 = 4 := by decide
theorem pw {l : Int} (h : inR l 0 4 = true) : IntKind.wrap .i64 ((1 : Int) * (2 : Int) ^ shiftN .i64 l) = pow2 l := by
  rcases lev h with rfl | rfl | rfl | rfl | rfl <;> simp [sh0, sh1, sh2, sh3, sh4, wrapI, p20, p21, p22, p23, p24]
theorem lev0 {l : Int} (h : inR l 0 4 = true) : 0 ≤ l ∧ l ≤ 4 := by
  simp only [inR, Bool.and_eq_true, decide_eq_true_eq] at h; omega
theorem pow2_pos {l : Int} (h : inR l 0 4 = true) : 1 ≤ pow2 l ∧ pow2 l ≤ 16 := by
  rcases lev h with rfl | rfl | rfl | rfl | rfl <;> simp [p20, p21, p22, p23, p24]
theorem c_spec_IdOk (k : Nat) (r l i : Int) : go (k + 2) spec_IdOk [.agg [.int .i64 r, .int .i64 l, .int .i64 i]] = some [.bool (idOk r l i)] := by
  rw [e_spec_IdOk]
  simp only [c_spec_l01In, bindS, nth0, bit, toBool_bool]
  unfold idOk
  cases h1 : inR r 0 7 <;> cases h2 : inR l 0 4 <;> simp only [cond_true, cond_false, Bool.true_and, Bool.false_and, Bool.and_false]
  have := lev0 h2
  rw [wrapU (x := l) (by omega) (by omega), pw h2]
  by_cases h3 : (0 : Int) ≤ i
  · simp [h3, this.1]
  · simp [h3]
theorem c_impl_isLevel (k : Nat) (l : Int) : go (k + 2) impl_isLevel [.int .i64 l] = some [.bool (inR l 0 4)] := by
  rw [e_impl_isLevel]
  simp only [c_impl_within, bindS, nth0, bit, toBool_bool]
theorem c_impl_IdOk (k : Nat) (r l i : Int) : go (k + 3) impl_IdOk [.agg [.int .i64 r, .int .i64 l, .int .i64 i]] = some [.bool (idOk r l i)] := by
  rw [e_impl_IdOk]
  simp only [c_impl_within, c_impl_isLevel, bindS, nth0, bit, toBool_bool]
  unfold idOk
  cases h1 : inR r 0 7 <;> cases h2 : inR l 0 4 <;> simp only [cond_true, cond_false, Bool.true_and, Bool.false_and, Bool.and_false]
  have := lev0 h2
  have := pow2_pos h2
  rw [pw h2, wrapI (x := pow2 l - 1) (by omega) (by omega)]
  rw [show decide ((0 : Int) ≤ l) = true by simp; omega, cond_true]
  have e : inR i 0 (pow2 l - 1) = (decide (0 ≤ i) && decide (i < pow2 l)) := by
    unfold inR; rw [Bool.eq_iff_iff]; simp only [Bool.and_eq_true, decide_eq_true_eq]; omega
  rw [e]
def width (l : Int) : Int := if inR l 0 4 then 16 / pow2 l else 0
theorem c_spec_WidthOf (k : Nat) (l : Int) : go (k + 2) spec_WidthOf [.int .i64 l] = some [.int .i64 (width l)] := by
  rw [e_spec_WidthOf]
  simp only [c_spec_l01In, bindS, nth0, bit, toBool_bool, width]
  cases h2 : inR l 0 4
  · simp
  · rcases lev h2 with rfl | rfl | rfl | rfl | rfl <;> simp [wrapU, sh0, sh1, sh2, sh3, sh4, p20, p21, p22, p23, p24] <;> decide
theorem c_impl_WidthOf (k : Nat) (l : Int) : go (k + 3) impl_WidthOf [.int .i64 l] = some [.int .i64 (width l)] := by
  rw [e_impl_WidthOf]
  simp only [c_impl_isLevel, bindS, nth0, bit, toBool_bool, width]
  cases h2 : inR l 0 4
  · simp
  · rcases lev h2 with rfl | rfl | rfl | rfl | rfl <;> simp [wrapU, sh0, sh1, sh2, sh3, sh4, p20, p21, p22, p23, p24] <;> decide
end Go.Proofs.Ytljphlfgkdmahaa
