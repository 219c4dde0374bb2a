/- Plain rules for reading the equations of the program's functions. -/
import Derived.Test.YtjfjniebmdafeaaDoorXA
import Derived.ProofKit
namespace Go.Proofs.YtjfjniebmdafeaaDoor
open Go.Ev
set_option linter.unusedVariables false
theorem wrapI {x : Int} (h : -9223372036854775808 ≤ x) (h' : x ≤ 9223372036854775807) : IntKind.wrap .i64 x = x := by rw [IntKind.wrap_i64]; omega
theorem wrapU {x : Int} (h : 0 ≤ x) (h' : x ≤ 9223372036854775807) : IntKind.wrap .u64 x = x := by rw [IntKind.wrap_u64]; omega
theorem wrapB {x : Int} (h : 0 ≤ x) (h' : x ≤ 255) : IntKind.wrap .u8 x = x := by rw [IntKind.wrap_u8]; omega
theorem wrapR (x : Int) : -9223372036854775808 ≤ IntKind.wrap .i64 x ∧ IntKind.wrap .i64 x ≤ 9223372036854775807 := by rw [IntKind.wrap_i64]; omega
theorem nth0 (d0 : D) (l : List D) : nth (d0 :: l) 0 = d0 := Eq.trans rfl rfl
theorem nth1 (d0 d1 : D) (l : List D) : nth (d0 :: d1 :: l) 1 = d1 := Eq.trans rfl rfl
theorem nth2 (d0 d1 d2 : D) (l : List D) : nth (d0 :: d1 :: d2 :: l) 2 = d2 := Eq.trans rfl rfl
theorem nth3 (d0 d1 d2 d3 : D) (l : List D) : nth (d0 :: d1 :: d2 :: d3 :: l) 3 = d3 := Eq.trans rfl rfl
theorem nth4 (d0 d1 d2 d3 d4 : D) (l : List D) : nth (d0 :: d1 :: d2 :: d3 :: d4 :: l) 4 = d4 := Eq.trans rfl rfl
theorem nth5 (d0 d1 d2 d3 d4 d5 : D) (l : List D) : nth (d0 :: d1 :: d2 :: d3 :: d4 :: d5 :: l) 5 = d5 := Eq.trans rfl rfl
theorem cell0 (d0 : D) (l : List D) : (D.agg (d0 :: l)).cell 0 = d0 := Eq.trans rfl rfl
theorem cell1 (d0 d1 : D) (l : List D) : (D.agg (d0 :: d1 :: l)).cell 1 = d1 := Eq.trans rfl rfl
theorem cell2 (d0 d1 d2 : D) (l : List D) : (D.agg (d0 :: d1 :: d2 :: l)).cell 2 = d2 := Eq.trans rfl rfl
theorem cell3 (d0 d1 d2 d3 : D) (l : List D) : (D.agg (d0 :: d1 :: d2 :: d3 :: l)).cell 3 = d3 := Eq.trans rfl rfl
theorem cell4 (d0 d1 d2 d3 d4 : D) (l : List D) : (D.agg (d0 :: d1 :: d2 :: d3 :: d4 :: l)).cell 4 = d4 := Eq.trans rfl rfl
theorem cell5 (d0 d1 d2 d3 d4 d5 : D) (l : List D) : (D.agg (d0 :: d1 :: d2 :: d3 :: d4 :: d5 :: l)).cell 5 = d5 := Eq.trans rfl rfl
theorem cell6 (d0 d1 d2 d3 d4 d5 d6 : D) (l : List D) : (D.agg (d0 :: d1 :: d2 :: d3 :: d4 :: d5 :: d6 :: l)).cell 6 = d6 := Eq.trans rfl rfl
theorem cell7 (d0 d1 d2 d3 d4 d5 d6 d7 : D) (l : List D) : (D.agg (d0 :: d1 :: d2 :: d3 :: d4 :: d5 :: d6 :: d7 :: l)).cell 7 = d7 := Eq.trans rfl rfl
theorem cell8 (d0 d1 d2 d3 d4 d5 d6 d7 d8 : D) (l : List D) : (D.agg (d0 :: d1 :: d2 :: d3 :: d4 :: d5 :: d6 :: d7 :: d8 :: l)).cell 8 = d8 := Eq.trans rfl rfl
theorem cell9 (d0 d1 d2 d3 d4 d5 d6 d7 d8 d9 : D) (l : List D) : (D.agg (d0 :: d1 :: d2 :: d3 :: d4 :: d5 :: d6 :: d7 :: d8 :: d9 :: l)).cell 9 = d9 := Eq.trans rfl rfl
theorem cell10 (d0 d1 d2 d3 d4 d5 d6 d7 d8 d9 d10 : D) (l : List D) : (D.agg (d0 :: d1 :: d2 :: d3 :: d4 :: d5 :: d6 :: d7 :: d8 :: d9 :: d10 :: l)).cell 10 = d10 := Eq.trans rfl rfl
theorem cell11 (d0 d1 d2 d3 d4 d5 d6 d7 d8 d9 d10 d11 : D) (l : List D) : (D.agg (d0 :: d1 :: d2 :: d3 :: d4 :: d5 :: d6 :: d7 :: d8 :: d9 :: d10 :: d11 :: l)).cell 11 = d11 := Eq.trans rfl rfl
theorem cell12 (d0 d1 d2 d3 d4 d5 d6 d7 d8 d9 d10 d11 d12 : D) (l : List D) : (D.agg (d0 :: d1 :: d2 :: d3 :: d4 :: d5 :: d6 :: d7 :: d8 :: d9 :: d10 :: d11 :: d12 :: l)).cell 12 = d12 := Eq.trans rfl rfl
theorem cell13 (d0 d1 d2 d3 d4 d5 d6 d7 d8 d9 d10 d11 d12 d13 : D) (l : List D) : (D.agg (d0 :: d1 :: d2 :: d3 :: d4 :: d5 :: d6 :: d7 :: d8 :: d9 :: d10 :: d11 :: d12 :: d13 :: l)).cell 13 = d13 := Eq.trans rfl rfl
theorem cell14 (d0 d1 d2 d3 d4 d5 d6 d7 d8 d9 d10 d11 d12 d13 d14 : D) (l : List D) : (D.agg (d0 :: d1 :: d2 :: d3 :: d4 :: d5 :: d6 :: d7 :: d8 :: d9 :: d10 :: d11 :: d12 :: d13 :: d14 :: l)).cell 14 = d14 := Eq.trans rfl rfl
theorem cell15 (d0 d1 d2 d3 d4 d5 d6 d7 d8 d9 d10 d11 d12 d13 d14 d15 : D) (l : List D) : (D.agg (d0 :: d1 :: d2 :: d3 :: d4 :: d5 :: d6 :: d7 :: d8 :: d9 :: d10 :: d11 :: d12 :: d13 :: d14 :: d15 :: l)).cell 15 = d15 := Eq.trans rfl rfl
theorem cell16 (d0 d1 d2 d3 d4 d5 d6 d7 d8 d9 d10 d11 d12 d13 d14 d15 d16 : D) (l : List D) : (D.agg (d0 :: d1 :: d2 :: d3 :: d4 :: d5 :: d6 :: d7 :: d8 :: d9 :: d10 :: d11 :: d12 :: d13 :: d14 :: d15 :: d16 :: l)).cell 16 = d16 := Eq.trans rfl rfl
theorem cell17 (d0 d1 d2 d3 d4 d5 d6 d7 d8 d9 d10 d11 d12 d13 d14 d15 d16 d17 : D) (l : List D) : (D.agg (d0 :: d1 :: d2 :: d3 :: d4 :: d5 :: d6 :: d7 :: d8 :: d9 :: d10 :: d11 :: d12 :: d13 :: d14 :: d15 :: d16 :: d17 :: l)).cell 17 = d17 := Eq.trans rfl rfl
theorem cell18 (d0 d1 d2 d3 d4 d5 d6 d7 d8 d9 d10 d11 d12 d13 d14 d15 d16 d17 d18 : D) (l : List D) : (D.agg (d0 :: d1 :: d2 :: d3 :: d4 :: d5 :: d6 :: d7 :: d8 :: d9 :: d10 :: d11 :: d12 :: d13 :: d14 :: d15 :: d16 :: d17 :: d18 :: l)).cell 18 = d18 := Eq.trans rfl rfl
theorem cell19 (d0 d1 d2 d3 d4 d5 d6 d7 d8 d9 d10 d11 d12 d13 d14 d15 d16 d17 d18 d19 : D) (l : List D) : (D.agg (d0 :: d1 :: d2 :: d3 :: d4 :: d5 :: d6 :: d7 :: d8 :: d9 :: d10 :: d11 :: d12 :: d13 :: d14 :: d15 :: d16 :: d17 :: d18 :: d19 :: l)).cell 19 = d19 := Eq.trans rfl rfl
theorem cell20 (d0 d1 d2 d3 d4 d5 d6 d7 d8 d9 d10 d11 d12 d13 d14 d15 d16 d17 d18 d19 d20 : D) (l : List D) : (D.agg (d0 :: d1 :: d2 :: d3 :: d4 :: d5 :: d6 :: d7 :: d8 :: d9 :: d10 :: d11 :: d12 :: d13 :: d14 :: d15 :: d16 :: d17 :: d18 :: d19 :: d20 :: l)).cell 20 = d20 := Eq.trans rfl rfl
theorem cell21 (d0 d1 d2 d3 d4 d5 d6 d7 d8 d9 d10 d11 d12 d13 d14 d15 d16 d17 d18 d19 d20 d21 : D) (l : List D) : (D.agg (d0 :: d1 :: d2 :: d3 :: d4 :: d5 :: d6 :: d7 :: d8 :: d9 :: d10 :: d11 :: d12 :: d13 :: d14 :: d15 :: d16 :: d17 :: d18 :: d19 :: d20 :: d21 :: l)).cell 21 = d21 := Eq.trans rfl rfl
theorem cell22 (d0 d1 d2 d3 d4 d5 d6 d7 d8 d9 d10 d11 d12 d13 d14 d15 d16 d17 d18 d19 d20 d21 d22 : D) (l : List D) : (D.agg (d0 :: d1 :: d2 :: d3 :: d4 :: d5 :: d6 :: d7 :: d8 :: d9 :: d10 :: d11 :: d12 :: d13 :: d14 :: d15 :: d16 :: d17 :: d18 :: d19 :: d20 :: d21 :: d22 :: l)).cell 22 = d22 := Eq.trans rfl rfl
theorem cell23 (d0 d1 d2 d3 d4 d5 d6 d7 d8 d9 d10 d11 d12 d13 d14 d15 d16 d17 d18 d19 d20 d21 d22 d23 : D) (l : List D) : (D.agg (d0 :: d1 :: d2 :: d3 :: d4 :: d5 :: d6 :: d7 :: d8 :: d9 :: d10 :: d11 :: d12 :: d13 :: d14 :: d15 :: d16 :: d17 :: d18 :: d19 :: d20 :: d21 :: d22 :: d23 :: l)).cell 23 = d23 := Eq.trans rfl rfl
theorem cell24 (d0 d1 d2 d3 d4 d5 d6 d7 d8 d9 d10 d11 d12 d13 d14 d15 d16 d17 d18 d19 d20 d21 d22 d23 d24 : D) (l : List D) : (D.agg (d0 :: d1 :: d2 :: d3 :: d4 :: d5 :: d6 :: d7 :: d8 :: d9 :: d10 :: d11 :: d12 :: d13 :: d14 :: d15 :: d16 :: d17 :: d18 :: d19 :: d20 :: d21 :: d22 :: d23 :: d24 :: l)).cell 24 = d24 := Eq.trans rfl rfl
theorem toInt_int (k : IntKind) (n : Int) : (D.int k n).toInt = n := Eq.trans rfl rfl
theorem toBool_bool (b : Bool) : (D.bool b).toBool = b := Eq.trans rfl rfl
theorem toStr_str (s : ByteArray) : (D.str s).toStr = s := Eq.trans rfl rfl
theorem nil_arr (o n : Bool) (a : Arr) : (D.arr o n a).nil = n := Eq.trans rfl rfl
theorem r3_arr (o n : Bool) (l : List (Int × Int × Int)) : (D.arr o n (.r3 l)).r3 = l := Eq.trans rfl rfl
theorem r4_arr (o n : Bool) (l : List (Int × Int × Int × Int)) : (D.arr o n (.r4 l)).r4 = l := Eq.trans rfl rfl
theorem ints_arr (o n : Bool) (k : IntKind) (l : List Int) : (D.arr o n (.ints k l)).ints = l := Eq.trans rfl rfl
theorem bools_arr (o n : Bool) (l : List Bool) : (D.arr o n (.bools l)).bools = l := Eq.trans rfl rfl
theorem strs_arr (o n : Bool) (l : List ByteArray) : (D.arr o n (.strs l)).strs = l := Eq.trans rfl rfl
theorem condT {α : Type} (x y : α) : cond true x y = x := Eq.trans rfl rfl
theorem condF {α : Type} (x y : α) : cond false x y = y := Eq.trans rfl rfl
theorem bindS {α : Type} (x : List D) (f : List D → Option α) : (some x).bind f = f x := Eq.trans rfl rfl
theorem dT {p : Prop} {i : Decidable p} (h : p) : @decide p i = true := by cases i <;> simp_all
theorem dF {p : Prop} {i : Decidable p} (h : ¬p) : @decide p i = false := by cases i <;> simp_all
theorem decT {p : Prop} {i : Decidable p} : (@decide p i = true) = p := by cases i <;> simp_all
theorem castS (i : Nat) : (i : Int) + 1 = ((i + 1 : Nat) : Int) := Eq.trans rfl rfl
theorem castS2 (i : Nat) : (i : Int) + 2 = ((i + 2 : Nat) : Int) := Eq.trans rfl rfl
theorem castP {i : Nat} (h : 1 ≤ i) : (i : Int) - 1 = ((i - 1 : Nat) : Int) := by omega
theorem itT {α : Type} {i : Decidable True} (x y : α) : @ite α True i x y = x := by cases i with | isTrue _ => rfl | isFalse h => exact absurd trivial h
theorem itF {α : Type} {i : Decidable False} (x y : α) : @ite α False i x y = y := by cases i with | isTrue h => exact h.elim | isFalse _ => rfl
theorem niF {α : Type} {a b : Nat} {i : Decidable (a = b)} {x y : α} (h : ¬ a = b) : @ite α (a = b) i x y = y := by cases i with | isTrue e => exact absurd e h | isFalse _ => rfl
theorem imax (x y : Int) : (if x > y then x else y) = max x y := by by_cases h : x > y <;> simp only [h, if_true, if_false] <;> omega
theorem imin (x y : Int) : (if x < y then x else y) = min x y := by by_cases h : x < y <;> simp only [h, if_true, if_false] <;> omega
theorem cond_and (b x : Bool) : cond (!b) (some [D.bool false]) (some [D.bool x]) = some [D.bool (b && x)] := by cases b <;> rfl
theorem cond_and' (b x : Bool) : cond b (some [D.bool x]) (some [D.bool false]) = some [D.bool (b && x)] := by cases b <;> rfl
theorem cond_or (b x : Bool) : cond b (some [D.bool true]) (some [D.bool x]) = some [D.bool (b || x)] := by cases b <;> rfl
theorem cond_nor (b x : Bool) : cond b (some [D.bool false]) (some [D.bool x]) = some [D.bool (!b && x)] := by cases b <;> rfl
theorem dTT {i : Decidable True} : @decide True i = true := by cases i with | isTrue _ => rfl | isFalse h => exact absurd trivial h
theorem dFF {i : Decidable False} : @decide False i = false := by cases i with | isTrue h => exact h.elim | isFalse _ => rfl
theorem bigI : ((bigLen : Nat) : Int) = 1099511627776 := Eq.trans rfl rfl
theorem nilApp {α : Type} (l : List α) : [] ++ l = l := Eq.trans rfl rfl
theorem wfBounds {n : Int} (h : (Lit.int .i64 n).wf = true) : -9223372036854775808 ≤ n ∧ n ≤ 9223372036854775807 := by
  simp only [Lit.wf, Bool.and_eq_true, decide_eq_true_eq] at h
  have e1 : IntKind.i64.min = -9223372036854775808 := by decide
  have e2 : IntKind.i64.max = 9223372036854775807 := by decide
  rw [e1, e2] at h; exact h
theorem big0 : bigLen = 1099511627776 := Eq.trans rfl rfl
theorem drop_at {α : Type} {l : List α} {i : Nat} (h : i < l.length) (d : α) : l.drop i = l.getD i d :: l.drop (i + 1) := by
  rw [List.drop_eq_getElem_cons h]; simp [h]
theorem set_getD {α : Type} (l : List α) (i j : Nat) (x d : α) : (l.set i x).getD j d = if i = j ∧ i < l.length then x else l.getD j d := by
  simp only [List.getD_eq_getElem?_getD, List.getElem?_set]
  by_cases h : i = j
  · subst h
    by_cases h2 : i < l.length
    · simp [h2]
    · simp [h2]
  · simp [h]
theorem set_next {α : Type} (l m : List α) (i : Nat) (x : α) (t : List α) (h : i < l.length) : (l.set i x).take (i + 1) ++ t = l.take i ++ (x :: t) := by
  have : (l.set i x).take (i + 1) = l.take i ++ [x] := by
    rw [List.take_succ_eq_append_getElem (by simp; omega)]
    simp [List.take_set_of_le]
  rw [this]; simp
theorem getD_ge {α : Type} {l : List α} {i : Nat} (h : l.length ≤ i) (d : α) : l.getD i d = d := by simp [h]
theorem getD_mem {α : Type} {l : List α} {i : Nat} (h : i < l.length) (d : α) : l.getD i d ∈ l := by simp [h]
end Go.Proofs.YtjfjniebmdafeaaDoor
