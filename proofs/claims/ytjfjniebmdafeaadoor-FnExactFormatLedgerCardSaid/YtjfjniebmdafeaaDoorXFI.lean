/- Numbers in decimal and what is made of them, one step each. -/
import Derived.Test.YtjfjniebmdafeaaDoorXA
namespace Go.Proofs.YtjfjniebmdafeaaDoor
open Go.Ev
set_option linter.unusedVariables false
set_option maxRecDepth 20000
def s_spec_FormatInt_5 (x0 : Int) (x1 : Bool) (x2 : ByteArray) : St := ⟨fill 30 [(0, (.int .i64 (x0))), (3, (.bool (x1))), (4, (.str (x2)))], [], []⟩
theorem e_spec_FormatInt (k : Nat) (a : Int) : go (k + 1) spec_FormatInt [(.int .i64 (a))] =
    cond (decide (a = (0 : Int)))
  (some [(.str ({ data := #[(48 : UInt8)] }))])
  (lp k spec_FormatInt [] [] 5 k (s_spec_FormatInt_5 a (decide (a < (0 : Int))) ({ data := #[] }))) := by kernel_rfl
theorem l_spec_FormatInt_5 (k n : Nat) (fu : List (Nat × Nat)) (x0 : Int) (x1 : Bool) (x2 : ByteArray) : lp k spec_FormatInt [] fu 5 (n + 1) (s_spec_FormatInt_5 x0 x1 x2) =
    cond (!decide (x0 = (0 : Int)))
  (cond (decide (Int.tmod x0 (10 : Int) < (0 : Int)))
    ((go k spec_l01Figure [(.int .i64 (IntKind.wrap .i64 ((0 : Int) - Int.tmod x0 (10 : Int))))]).bind fun r0 =>
      cond (decide (ByteArray.size (strL [D.toInt (nth r0 0)]) + ByteArray.size x2 ≤ (4611686018427387904 : Nat)))
      (lp k spec_FormatInt [] fu 5 n (s_spec_FormatInt_5 (IntKind.wrap .i64 (Int.tdiv x0 (10 : Int))) x1 (strL [D.toInt (nth r0 0)] ++ x2)))
      (none))
    ((go k spec_l01Figure [(.int .i64 (Int.tmod x0 (10 : Int)))]).bind fun r1 =>
      cond (decide (ByteArray.size (strL [D.toInt (nth r1 0)]) + ByteArray.size x2 ≤ (4611686018427387904 : Nat)))
      (lp k spec_FormatInt [] fu 5 n (s_spec_FormatInt_5 (IntKind.wrap .i64 (Int.tdiv x0 (10 : Int))) x1 (strL [D.toInt (nth r1 0)] ++ x2)))
      (none)))
  (cond (x1)
    (cond (decide (ByteArray.size { data := #[(45 : UInt8)] } + ByteArray.size x2 ≤ (4611686018427387904 : Nat)))
      (some [(.str ({ data := #[(45 : UInt8)] } ++ x2))])
      (none))
    (some [(.str (x2))])) := by kernel_rfl
theorem e_spec_l01Figure (k : Nat) (a : Int) : go (k + 1) spec_l01Figure [(.int .i64 (a))] =
    cond (decide (a < (10 : Int)))
  (some [(.int IntKind.u8 (IntKind.wrap IntKind.u8 (IntKind.wrap .i64 ((48 : Int) + a))))])
  (some [(.int IntKind.u8 (IntKind.wrap IntKind.u8 (IntKind.wrap .i64 (IntKind.wrap .i64 ((97 : Int) + a) - (10 : Int)))))]) := by kernel_rfl
theorem e_impl_FormatInt (k : Nat) (a : Int) : go (k + 1) impl_FormatInt [(.int .i64 (a))] =
    (go k strconv_Itoa [(.int .i64 (a))]).bind fun r0 =>
  some [(.str (D.toStr (nth r0 0)))] := by kernel_rfl
theorem e_spec_FormatLedger (k : Nat) (a0 : Int) (a1 : Int) (a2 : Int) (a3 : Int) : go (k + 1) spec_FormatLedger [(.agg [(.int .i64 (a0)), (.int .i64 (a1)), (.int .i64 (a2)), (.int .i64 (a3))])] =
    (go k spec_FormatInt [(.int .i64 (a0))]).bind fun r0 =>
  cond (decide (ByteArray.size (D.toStr (nth r0 0)) + ByteArray.size { data := #[(32 : UInt8)] } ≤ (4611686018427387904 : Nat)))
  ((go k spec_FormatInt [(.int .i64 (a1))]).bind fun r1 =>
    cond (decide (ByteArray.size (D.toStr (nth r0 0) ++ { data := #[(32 : UInt8)] }) + ByteArray.size (D.toStr (nth r1 0)) ≤ (4611686018427387904 : Nat)))
    (cond (decide (ByteArray.size (D.toStr (nth r0 0) ++ { data := #[(32 : UInt8)] } ++ D.toStr (nth r1 0)) + ByteArray.size { data := #[(32 : UInt8)] } ≤ (4611686018427387904 : Nat)))
      ((go k spec_FormatInt [(.int .i64 (a2))]).bind fun r2 =>
        cond (decide (ByteArray.size (D.toStr (nth r0 0) ++ { data := #[(32 : UInt8)] } ++ D.toStr (nth r1 0) ++ { data := #[(32 : UInt8)] }) + ByteArray.size (D.toStr (nth r2 0)) ≤ (4611686018427387904 : Nat)))
        (cond (decide (ByteArray.size (D.toStr (nth r0 0) ++ { data := #[(32 : UInt8)] } ++ D.toStr (nth r1 0) ++ { data := #[(32 : UInt8)] } ++ D.toStr (nth r2 0)) + ByteArray.size { data := #[(32 : UInt8)] } ≤ (4611686018427387904 : Nat)))
          ((go k spec_FormatInt [(.int .i64 (a3))]).bind fun r3 =>
            cond (decide (ByteArray.size (D.toStr (nth r0 0) ++ { data := #[(32 : UInt8)] } ++ D.toStr (nth r1 0) ++ { data := #[(32 : UInt8)] } ++ D.toStr (nth r2 0) ++ { data := #[(32 : UInt8)] }) + ByteArray.size (D.toStr (nth r3 0)) ≤ (4611686018427387904 : Nat)))
            (some [(.str (D.toStr (nth r0 0) ++ { data := #[(32 : UInt8)] } ++ D.toStr (nth r1 0) ++ { data := #[(32 : UInt8)] } ++ D.toStr (nth r2 0) ++ { data := #[(32 : UInt8)] } ++ D.toStr (nth r3 0)))])
            (none))
          (none))
        (none))
      (none))
    (none))
  (none) := by kernel_rfl
theorem e_impl_FormatLedger (k : Nat) (a0 : Int) (a1 : Int) (a2 : Int) (a3 : Int) : go (k + 1) impl_FormatLedger [(.agg [(.int .i64 (a0)), (.int .i64 (a1)), (.int .i64 (a2)), (.int .i64 (a3))])] =
    (go k impl_FormatInt [(.int .i64 (a0))]).bind fun r0 =>
  (go k impl_spaced [(.str (D.toStr (nth r0 0))), (.arr false (false) (.ints .i64 ([a1, a2, a3])))]).bind fun r1 =>
  some [(.str (D.toStr (nth r1 0)))] := by kernel_rfl
theorem e_laws_toLedger (k : Nat) (a0 : Int) (a1 : Int) (a2 : Int) (a3 : Int) : go (k + 1) laws_toLedger [(.agg [(.int .i64 (a0)), (.int .i64 (a1)), (.int .i64 (a2)), (.int .i64 (a3))])] =
    some [(.agg [(.int .i64 (a0)), (.int .i64 (a1)), (.int .i64 (a2)), (.int .i64 (a3))])] := by kernel_rfl
theorem e_laws_FnExactFormatLedger (k : Nat) (a0 : Int) (a1 : Int) (a2 : Int) (a3 : Int) : go (k + 1) laws_FnExactFormatLedger [(.agg [(.int .i64 (a0)), (.int .i64 (a1)), (.int .i64 (a2)), (.int .i64 (a3))])] =
    (go k laws_toLedger [(.agg [(.int .i64 (a0)), (.int .i64 (a1)), (.int .i64 (a2)), (.int .i64 (a3))])]).bind fun r0 =>
  (go k spec_FormatLedger [(.agg [(.int .i64 (D.toInt (D.cell 0 (nth r0 0)))), (.int .i64 (D.toInt (D.cell 1 (nth r0 0)))), (.int .i64 (D.toInt (D.cell 2 (nth r0 0)))), (.int .i64 (D.toInt (D.cell 3 (nth r0 0))))])]).bind fun r1 =>
  (go k laws_toLedger [(.agg [(.int .i64 (a0)), (.int .i64 (a1)), (.int .i64 (a2)), (.int .i64 (a3))])]).bind fun r2 =>
  (go k impl_FormatLedger [(.agg [(.int .i64 (D.toInt (D.cell 0 (nth r2 0)))), (.int .i64 (D.toInt (D.cell 1 (nth r2 0)))), (.int .i64 (D.toInt (D.cell 2 (nth r2 0)))), (.int .i64 (D.toInt (D.cell 3 (nth r2 0))))])]).bind fun r3 =>
  cond (!decide (D.toStr (nth r3 0) = D.toStr (nth r1 0)))
  (some [(.bool (false))])
  (some [(.bool (true))]) := by kernel_rfl

end Go.Proofs.YtjfjniebmdafeaaDoor
