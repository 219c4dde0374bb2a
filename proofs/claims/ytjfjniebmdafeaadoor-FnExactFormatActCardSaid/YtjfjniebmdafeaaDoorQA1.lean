/- What the program's functions compute, and plain facts of it (part 1). No condition beyond those that each theorem states. -/
import Derived.Test.YtjfjniebmdafeaaDoorXA
import Derived.Shelf.Strings.Builder1
import Derived.Shelf.LaysM
import Derived.Shelf.Strconv.Itoa3
import Derived.Test.YtjfjniebmdafeaaDoorProg
import Derived.Test.YtjfjniebmdafeaaDoorSB
import Derived.WalkKit
import Derived.BigCall
import Derived.KernelRfl
import Derived.ProofKit
set_option linter.unusedVariables false
set_option linter.unusedSimpArgs false
section
namespace Go.Proofs.YtjfjniebmdafeaaDoor
open Go.Ev
set_option maxRecDepth 20000
theorem qb9 (k : Nat) (a0 a1 a2 a3 : Int) : go (k + 1) spec_FormatAct [(.agg [(.int .i64 (a0)), (.int .i64 (a1)), (.int .i64 (a2)), (.int .i64 (a3))])] =
 (go k spec_ActOk [(.agg [(.int .i64 (a0)), (.int .i64 (a1)), (.int .i64 (a2)), (.int .i64 (a3))])]).bind fun r0 =>
 cond (!bit (nth r0 0))
 (some [(.str ({ data := #[] })), (.bool (false))])
 ((go k spec_FormatInt [(.int .i64 (a1))]).bind fun r1 =>
 cond (decide (ByteArray.size { data := #[(32 : UInt8)] } + ByteArray.size (D.toStr (nth r1 0)) ≤ (4611686018427387904 : Nat)))
 (cond (decide (ByteArray.size ({ data := #[(32 : UInt8)] } ++ D.toStr (nth r1 0)) + ByteArray.size { data := #[(32 : UInt8)] } ≤ (4611686018427387904 : Nat)))
 ((go k spec_FormatInt [(.int .i64 (a2))]).bind fun r2 =>
 cond (decide (ByteArray.size ({ data := #[(32 : UInt8)] } ++ D.toStr (nth r1 0) ++ { data := #[(32 : UInt8)] }) + ByteArray.size (D.toStr (nth r2 0)) ≤ (4611686018427387904 : Nat)))
 (cond (decide (ByteArray.size ({ data := #[(32 : UInt8)] } ++ D.toStr (nth r1 0) ++ { data := #[(32 : UInt8)] } ++ D.toStr (nth r2 0)) + ByteArray.size { data := #[(32 : UInt8)] } ≤ (4611686018427387904 : Nat)))
 ((go k spec_FormatInt [(.int .i64 (a3))]).bind fun r3 =>
 cond (decide (ByteArray.size ({ data := #[(32 : UInt8)] } ++ D.toStr (nth r1 0) ++ { data := #[(32 : UInt8)] } ++ D.toStr (nth r2 0) ++ { data := #[(32 : UInt8)] }) + ByteArray.size (D.toStr (nth r3 0)) ≤ (4611686018427387904 : Nat)))
 (cond (decide (a0 = (1 : Int)))
 (cond (decide (ByteArray.size { data := #[(114 : UInt8), (117 : UInt8), (110 : UInt8)] } + ByteArray.size ({ data := #[(32 : UInt8)] } ++ D.toStr (nth r1 0)) ≤ (4611686018427387904 : Nat)))
 (some [(.str ({ data := #[(114 : UInt8), (117 : UInt8), (110 : UInt8)] } ++ ({ data := #[(32 : UInt8)] } ++ D.toStr (nth r1 0)))), (.bool (true))])
 (none))
 (cond (decide (a0 = (2 : Int)))
 (cond (decide (ByteArray.size { data := #[(114 : UInt8), (97 : UInt8), (105 : UInt8), (110 : UInt8)] } + ByteArray.size ({ data := #[(32 : UInt8)] } ++ D.toStr (nth r1 0)) ≤ (4611686018427387904 : Nat)))
 (some [(.str ({ data := #[(114 : UInt8), (97 : UInt8), (105 : UInt8), (110 : UInt8)] } ++ ({ data := #[(32 : UInt8)] } ++ D.toStr (nth r1 0)))), (.bool (true))])
 (none))
 (cond (decide (a0 = (3 : Int)))
 (cond (decide (ByteArray.size { data := #[(108 : UInt8), (111 : UInt8), (115 : UInt8), (115 : UInt8)] } + ByteArray.size ({ data := #[(32 : UInt8)] } ++ D.toStr (nth r1 0)) ≤ (4611686018427387904 : Nat)))
 (some [(.str ({ data := #[(108 : UInt8), (111 : UInt8), (115 : UInt8), (115 : UInt8)] } ++ ({ data := #[(32 : UInt8)] } ++ D.toStr (nth r1 0)))), (.bool (true))])
 (none))
 (cond (decide (a0 = (5 : Int)))
 (cond (decide (ByteArray.size { data := #[(100 : UInt8), (101 : UInt8), (99 : UInt8), (97 : UInt8), (121 : UInt8)] } + ByteArray.size ({ data := #[(32 : UInt8)] } ++ D.toStr (nth r1 0)) ≤ (4611686018427387904 : Nat)))
 (some [(.str ({ data := #[(100 : UInt8), (101 : UInt8), (99 : UInt8), (97 : UInt8), (121 : UInt8)] } ++ ({ data := #[(32 : UInt8)] } ++ D.toStr (nth r1 0)))), (.bool (true))])
 (none))
 (cond (decide (a0 = (4 : Int)))
 (cond (decide (ByteArray.size { data := #[(102 : UInt8), (108 : UInt8), (111 : UInt8), (119 : UInt8)] } + ByteArray.size ({ data := #[(32 : UInt8)] } ++ D.toStr (nth r1 0) ++ { data := #[(32 : UInt8)] } ++ D.toStr (nth r2 0) ++ { data := #[(32 : UInt8)] } ++ D.toStr (nth r3 0)) ≤ (4611686018427387904 : Nat)))
 (some [(.str ({ data := #[(102 : UInt8), (108 : UInt8), (111 : UInt8), (119 : UInt8)] } ++ ({ data := #[(32 : UInt8)] } ++ D.toStr (nth r1 0) ++ { data := #[(32 : UInt8)] } ++ D.toStr (nth r2 0) ++ { data := #[(32 : UInt8)] } ++ D.toStr (nth r3 0)))), (.bool (true))])
 (none))
 (cond (decide (a0 = (6 : Int)))
 (cond (decide (ByteArray.size { data := #[(109 : UInt8), (101 : UInt8), (115 : UInt8), (104 : UInt8)] } + ByteArray.size ({ data := #[(32 : UInt8)] } ++ D.toStr (nth r1 0) ++ { data := #[(32 : UInt8)] } ++ D.toStr (nth r2 0) ++ { data := #[(32 : UInt8)] } ++ D.toStr (nth r3 0)) ≤ (4611686018427387904 : Nat)))
 (some [(.str ({ data := #[(109 : UInt8), (101 : UInt8), (115 : UInt8), (104 : UInt8)] } ++ ({ data := #[(32 : UInt8)] } ++ D.toStr (nth r1 0) ++ { data := #[(32 : UInt8)] } ++ D.toStr (nth r2 0) ++ { data := #[(32 : UInt8)] } ++ D.toStr (nth r3 0)))), (.bool (true))])
 (none))
 (cond (decide (ByteArray.size { data := #[(100 : UInt8), (114 : UInt8), (111 : UInt8), (112 : UInt8)] } + ByteArray.size ({ data := #[(32 : UInt8)] } ++ D.toStr (nth r1 0) ++ { data := #[(32 : UInt8)] } ++ D.toStr (nth r2 0) ++ { data := #[(32 : UInt8)] } ++ D.toStr (nth r3 0)) ≤ (4611686018427387904 : Nat)))
 (some [(.str ({ data := #[(100 : UInt8), (114 : UInt8), (111 : UInt8), (112 : UInt8)] } ++ ({ data := #[(32 : UInt8)] } ++ D.toStr (nth r1 0) ++ { data := #[(32 : UInt8)] } ++ D.toStr (nth r2 0) ++ { data := #[(32 : UInt8)] } ++ D.toStr (nth r3 0)))), (.bool (true))])
 (none))))))))
 (none))
 (none))
 (none))
 (none))
 (none)) := by kernel_rfl
theorem qbz (k : Nat) (a0 a1 a2 a3 : Int) : go (k + 1) impl_FormatAct [(.agg [(.int .i64 (a0)), (.int .i64 (a1)), (.int .i64 (a2)), (.int .i64 (a3))])] =
 (go k impl_ActOk [(.agg [(.int .i64 (a0)), (.int .i64 (a1)), (.int .i64 (a2)), (.int .i64 (a3))])]).bind fun r0 =>
 cond (!bit (nth r0 0))
 (some [(.str ({ data := #[] })), (.bool (false))])
 ((go k impl_isSingle [(.int .i64 (a0))]).bind fun r1 =>
 cond (bit (nth r1 0))
 ((go k impl_actNames []).bind fun r2 =>
 cond (decide ((0 : Int) ≤ a0) && decide (a0 < nI (List.length (D.strs (nth r2 0)))))
 ((go k impl_spaced [(.str (List.getD (D.strs (nth r2 0)) (Int.toNat a0) ByteArray.empty)), (.arr false (false) (.ints .i64 ([a1])))]).bind fun r3 =>
 some [(.str (D.toStr (nth r3 0))), (.bool (true))])
 (none))
 ((go k impl_actNames []).bind fun r4 =>
 cond (decide ((0 : Int) ≤ a0) && decide (a0 < nI (List.length (D.strs (nth r4 0)))))
 ((go k impl_spaced [(.str (List.getD (D.strs (nth r4 0)) (Int.toNat a0) ByteArray.empty)), (.arr false (false) (.ints .i64 ([a1, a2, a3])))]).bind fun r5 =>
 some [(.str (D.toStr (nth r5 0))), (.bool (true))])
 (none))) := by kernel_rfl
theorem qb3 (k : Nat) (a : Int) : go (k + 1) impl_isSingle [(.int .i64 (a))] =
 cond (!decide (a = (4 : Int)))
 (cond (!decide (a = (6 : Int)))
 (some [(.bool (!decide (a = (7 : Int))))])
 (some [(.bool (false))]))
 (some [(.bool (false))]) := by kernel_rfl
theorem qb0 (k : Nat) : go (k + 1) impl_actNames [] =
 some [(.arr true (false) (.strs ([{ data := #[] }, { data := #[(114 : UInt8), (117 : UInt8), (110 : UInt8)] }, { data := #[(114 : UInt8), (97 : UInt8), (105 : UInt8), (110 : UInt8)] }, { data := #[(108 : UInt8), (111 : UInt8), (115 : UInt8), (115 : UInt8)] }, { data := #[(102 : UInt8), (108 : UInt8), (111 : UInt8), (119 : UInt8)] }, { data := #[(100 : UInt8), (101 : UInt8), (99 : UInt8), (97 : UInt8), (121 : UInt8)] }, { data := #[(109 : UInt8), (101 : UInt8), (115 : UInt8), (104 : UInt8)] }, { data := #[(100 : UInt8), (114 : UInt8), (111 : UInt8), (112 : UInt8)] }])))] := by kernel_rfl
theorem qb5 (k : Nat) (a0 a1 a2 a3 : Int) : go (k + 1) laws_FnExactFormatAct [(.agg [(.int .i64 (a0)), (.int .i64 (a1)), (.int .i64 (a2)), (.int .i64 (a3))])] =
 (go k laws_toAct [(.agg [(.int .i64 (a0)), (.int .i64 (a1)), (.int .i64 (a2)), (.int .i64 (a3))])]).bind fun r0 =>
 (go k spec_FormatAct [(.agg [(.int .i64 (D.toInt (D.cell 0 (nth r0 0)))), (.int .i64 (D.toInt (D.cell 1 (nth r0 0)))), (.int .i64 (D.toInt (D.cell 2 (nth r0 0)))), (.int .i64 (D.toInt (D.cell 3 (nth r0 0))))])]).bind fun r1 =>
 (go k laws_toAct [(.agg [(.int .i64 (a0)), (.int .i64 (a1)), (.int .i64 (a2)), (.int .i64 (a3))])]).bind fun r2 =>
 (go k impl_FormatAct [(.agg [(.int .i64 (D.toInt (D.cell 0 (nth r2 0)))), (.int .i64 (D.toInt (D.cell 1 (nth r2 0)))), (.int .i64 (D.toInt (D.cell 2 (nth r2 0)))), (.int .i64 (D.toInt (D.cell 3 (nth r2 0))))])]).bind fun r3 =>
 cond (!decide (D.toStr (nth r3 0) = D.toStr (nth r1 0)))
 (some [(.bool (false))])
 (cond (!bit (nth r3 1) == bit (nth r1 1))
 (some [(.bool (false))])
 (some [(.bool (true))])) := by kernel_rfl
end Go.Proofs.YtjfjniebmdafeaaDoor
end
section
namespace Go.Proofs.YtjfjniebmdafeaaDoor
open Go.Ev
set_option maxRecDepth 20000
def qc7 (x0 : Int) (x1 : Bool) (x2 : ByteArray) : St := ⟨fill 30 [(0, (.int .i64 (x0))), (3, (.bool (x1))), (4, (.str (x2)))], [], []⟩
theorem qca (k : Nat) (a : Int) : go (k + 1) spec_FormatInt [(.int .i64 (a))] =
 cond (decide (a = (0 : Int)))
 (some [(.str ({ data := #[(48 : UInt8)] }))])
 (lp k spec_FormatInt [] [] 5 k (qc7 a (decide (a < (0 : Int))) ({ data := #[] }))) := by kernel_rfl
theorem qco (k n : Nat) (fu : List (Nat × Nat)) (x0 : Int) (x1 : Bool) (x2 : ByteArray) : lp k spec_FormatInt [] fu 5 (n + 1) (qc7 x0 x1 x2) =
 cond (!decide (x0 = (0 : Int)))
 (cond (decide (Int.tmod x0 (10 : Int) < (0 : Int)))
 ((go k spec_l01Figure [(.int .i64 (IntKind.wrap .i64 ((0 : Int) - Int.tmod x0 (10 : Int))))]).bind fun r0 =>
 cond (decide (ByteArray.size (strL [D.toInt (nth r0 0)]) + ByteArray.size x2 ≤ (4611686018427387904 : Nat)))
 (lp k spec_FormatInt [] fu 5 n (qc7 (IntKind.wrap .i64 (Int.tdiv x0 (10 : Int))) x1 (strL [D.toInt (nth r0 0)] ++ x2)))
 (none))
 ((go k spec_l01Figure [(.int .i64 (Int.tmod x0 (10 : Int)))]).bind fun r1 =>
 cond (decide (ByteArray.size (strL [D.toInt (nth r1 0)]) + ByteArray.size x2 ≤ (4611686018427387904 : Nat)))
 (lp k spec_FormatInt [] fu 5 n (qc7 (IntKind.wrap .i64 (Int.tdiv x0 (10 : Int))) x1 (strL [D.toInt (nth r1 0)] ++ x2)))
 (none)))
 (cond (x1)
 (cond (decide (ByteArray.size { data := #[(45 : UInt8)] } + ByteArray.size x2 ≤ (4611686018427387904 : Nat)))
 (some [(.str ({ data := #[(45 : UInt8)] } ++ x2))])
 (none))
 (some [(.str (x2))])) := by kernel_rfl
theorem qcb (k : Nat) (a : Int) : go (k + 1) spec_l01Figure [(.int .i64 (a))] =
 cond (decide (a < (10 : Int)))
 (some [(.int IntKind.u8 (IntKind.wrap IntKind.u8 (IntKind.wrap .i64 ((48 : Int) + a))))])
 (some [(.int IntKind.u8 (IntKind.wrap IntKind.u8 (IntKind.wrap .i64 (IntKind.wrap .i64 ((97 : Int) + a) - (10 : Int)))))]) := by kernel_rfl
end Go.Proofs.YtjfjniebmdafeaaDoor
end
section
namespace Go.Proofs
open Go.Shelf
def Tryd.lays166_ren : Go.Shelf.Ren := ⟨fun | 166 => 74 | 240 => 108 | 276 => 133 | n => n, fun | 0 => 0 | 3 => 3 | 4 => 4 | 5 => 5 | 9 => 9 | 20 => 20 | 37 => 77 | 70 => 116 | 72 => 118 | 75 => 120 | 80 => 123 | 164 => 167 | n => n, fun | n => n⟩
theorem Tryd.lays166 : Go.Proofs.Lays.n166 Tryd.prog Tryd.lays166_ren := {
  mixed := by kernel_rfl
  f166 := Tryd.func74.trans (congrArg some (by kernel_rfl))
  f240 := Tryd.func108.trans (congrArg some (by kernel_rfl))
  f276 := Tryd.func133.trans (congrArg some (by kernel_rfl))
  t0 := Tryd.underlying0
  a0 := Tryd.isAgg0
  z0 := Tryd.sizeOf0
  v0 := Tryd.zeroValue0
  t3 := Tryd.underlying3
  a3 := Tryd.isAgg3
  z3 := Tryd.sizeOf3
  v3 := Tryd.zeroValue3
  t4 := Tryd.underlying4
  a4 := Tryd.isAgg4
  z4 := Tryd.sizeOf4
  v4 := Tryd.zeroValue4
  t9 := Tryd.underlying9
  a9 := Tryd.isAgg9
  z9 := Tryd.sizeOf9
  v9 := Tryd.zeroValue9
  t20 := Tryd.underlying20
  a20 := Tryd.isAgg20
  z20 := Tryd.sizeOf20
  v20 := Tryd.zeroValue20
  t37 := Tryd.underlying77
  a37 := Tryd.isAgg77
  z37 := Tryd.sizeOf77
  v37 := Tryd.zeroValue77
  t70 := Tryd.underlying116
  a70 := Tryd.isAgg116
  z70 := Tryd.sizeOf116
  v70 := Tryd.zeroValue116
  t72 := Tryd.underlying118
  a72 := Tryd.isAgg118
  z72 := Tryd.sizeOf118
  v72 := Tryd.zeroValue118
  t75 := Tryd.underlying120
  a75 := Tryd.isAgg120
  z75 := Tryd.sizeOf120
  v75 := Tryd.zeroValue120
  t164 := Tryd.underlying167
  a164 := Tryd.isAgg167
  z164 := Tryd.sizeOf167
  v164 := Tryd.zeroValue167 }
theorem Tryd.Builder_Extra_166 : Builder.Extra Tryd.prog Tryd.lays166_ren := {
  sizeBuilder := by kernel_rfl
  liesBuilder := by kernel_rfl
  t5 := Tryd.underlying5
  a5 := Tryd.isAgg5
  z5 := Tryd.sizeOf5
  v5 := Tryd.zeroValue5
  infoByte := by kernel_rfl
  cellsByte := by kernel_rfl
  sizeByte := by kernel_rfl
  neB5 := by decide }
open Go.RowKit in
theorem Tryd.Builder_WriteString (B b : Nat) (bs : List Value) (s : ByteArray) (w : World) (h : Lib.IsBuilder 118 5 B b bs w) (hlen : bs.length + s.size ≤ 140737488355328) (hBw : B ≤ w.heap.size) :
    Calls Tryd.prog 74 #[.pointer (some ⟨b, 0, none⟩), .string s] w fun e w' => e = .returned (.tuple #[.int .i64 s.size, .nilIface]) ∧ (Lib.BuilderAt 118 5 B b (.pointer (some ⟨b, 0, none⟩)) (bs ++ Lib.strCells s) w' ∧ Below B w w') := Any.Builder_WriteString Tryd.lays166 Tryd.Builder_Extra_166 B b bs s w h hlen hBw
def Tryd.lays169_ren : Go.Shelf.Ren := ⟨fun | 169 => 75 | n => n, fun | 70 => 116 | 9 => 9 | 0 => 0 | 72 => 118 | 37 => 77 | 127 => 152 | 3 => 3 | 5 => 5 | n => n, fun | n => n⟩
theorem Tryd.lays169 : Go.Proofs.Lays.n169 Tryd.prog Tryd.lays169_ren := {
  mixed := by kernel_rfl
  f169 := Tryd.func75.trans (congrArg some (by kernel_rfl))
  t0 := Tryd.underlying0
  a0 := Tryd.isAgg0
  z0 := Tryd.sizeOf0
  v0 := Tryd.zeroValue0
  t3 := Tryd.underlying3
  a3 := Tryd.isAgg3
  z3 := Tryd.sizeOf3
  v3 := Tryd.zeroValue3
  t9 := Tryd.underlying9
  a9 := Tryd.isAgg9
  z9 := Tryd.sizeOf9
  v9 := Tryd.zeroValue9
  t37 := Tryd.underlying77
  a37 := Tryd.isAgg77
  z37 := Tryd.sizeOf77
  v37 := Tryd.zeroValue77
  t70 := Tryd.underlying116
  a70 := Tryd.isAgg116
  z70 := Tryd.sizeOf116
  v70 := Tryd.zeroValue116
  t72 := Tryd.underlying118
  a72 := Tryd.isAgg118
  z72 := Tryd.sizeOf118
  v72 := Tryd.zeroValue118
  t127 := Tryd.underlying152
  a127 := Tryd.isAgg152
  z127 := Tryd.sizeOf152
  v127 := Tryd.zeroValue152 }
theorem Tryd.Builder_Extra_169 : Builder.Extra Tryd.prog Tryd.lays169_ren := {
  sizeBuilder := by kernel_rfl
  liesBuilder := by kernel_rfl
  t5 := Tryd.underlying5
  a5 := Tryd.isAgg5
  z5 := Tryd.sizeOf5
  v5 := Tryd.zeroValue5
  infoByte := by kernel_rfl
  cellsByte := by kernel_rfl
  sizeByte := by kernel_rfl
  neB5 := by decide }
open Go.RowKit in
theorem Tryd.Builder_String_any (B b : Nat) (l : List UInt8) (w : World) (h : Lib.IsBuilder 118 5 B b (Lib.byteCells l) w) (hBw : B ≤ w.heap.size) :
    Calls Tryd.prog 75 #[.pointer (some ⟨b, 0, none⟩)] w fun e w' => e = .returned (.string ⟨l.toArray⟩) ∧ Below B w w' := Any.Builder_String_any Tryd.lays169 Tryd.Builder_Extra_169 B b l w h hBw
def Tryd.laysM171_ren : Go.Shelf.Ren := ⟨fun | 171 => 76 | 243 => 109 | 246 => 134 | 283 => 155 | 284 => 156 | 285 => 157 | 286 => 158 | 129 => 168 | 317 => 167 | 318 => 169 | 319 => 170 | 320 => 171 | 337 => 174 | 338 => 175 | n => n, fun | 3 => 3 | 9 => 9 | 2 => 2 | 4 => 4 | 171 => 194 | 0 => 0 | 53 => 195 | 37 => 77 | 5 => 5 | 173 => 198 | 212 => 221 | 51 => 181 | 20 => 20 | 213 => 222 | 46 => 171 | 232 => 231 | 233 => 232 | n => n, fun | 17 => 5 | 18 => 6 | 19 => 7 | n => n⟩
theorem Tryd.laysM171 : Go.Proofs.LaysM.n171 Tryd.prog Tryd.laysM171_ren := {
  mixed := by kernel_rfl
  f129 := Tryd.func168.trans (congrArg some (by kernel_rfl))
  f171 := Tryd.func76.trans (congrArg some (by kernel_rfl))
  f243 := Tryd.func109.trans (congrArg some (by kernel_rfl))
  f246 := Tryd.func134.trans (congrArg some (by kernel_rfl))
  f283 := Tryd.func155.trans (congrArg some (by kernel_rfl))
  f284 := Tryd.func156.trans (congrArg some (by kernel_rfl))
  f285 := Tryd.func157.trans (congrArg some (by kernel_rfl))
  f286 := Tryd.func158.trans (congrArg some (by kernel_rfl))
  f317 := Tryd.func167.trans (congrArg some (by kernel_rfl))
  f318 := Tryd.func169.trans (congrArg some (by kernel_rfl))
  f319 := Tryd.func170.trans (congrArg some (by kernel_rfl))
  f320 := Tryd.func171.trans (congrArg some (by kernel_rfl))
  f337 := Tryd.func174.trans (congrArg some (by kernel_rfl))
  f338 := Tryd.func175.trans (congrArg some (by kernel_rfl))
  t0 := Tryd.underlying0
  a0 := Tryd.isAgg0
  z0 := Tryd.sizeOf0
  v0 := Tryd.zeroValue0
  t2 := Tryd.underlying2
  a2 := Tryd.isAgg2
  z2 := Tryd.sizeOf2
  v2 := Tryd.zeroValue2
  t3 := Tryd.underlying3
  a3 := Tryd.isAgg3
  z3 := Tryd.sizeOf3
  v3 := Tryd.zeroValue3
  t4 := Tryd.underlying4
  a4 := Tryd.isAgg4
  z4 := Tryd.sizeOf4
  v4 := Tryd.zeroValue4
  t5 := Tryd.underlying5
  a5 := Tryd.isAgg5
  z5 := Tryd.sizeOf5
  v5 := Tryd.zeroValue5
  t9 := Tryd.underlying9
  a9 := Tryd.isAgg9
  z9 := Tryd.sizeOf9
  v9 := Tryd.zeroValue9
  t20 := Tryd.underlying20
  a20 := Tryd.isAgg20
  z20 := Tryd.sizeOf20
  v20 := Tryd.zeroValue20
  t37 := Tryd.underlying77
  a37 := Tryd.isAgg77
  z37 := Tryd.sizeOf77
  v37 := Tryd.zeroValue77
  t46 := Tryd.underlying171
  a46 := Tryd.isAgg171
  z46 := Tryd.sizeOf171
  v46 := Tryd.zeroValue171
  t51 := Tryd.underlying181
  a51 := Tryd.isAgg181
  z51 := Tryd.sizeOf181
  v51 := Tryd.zeroValue181
  t53 := Tryd.underlying195
  a53 := Tryd.isAgg195
  z53 := Tryd.sizeOf195
  v53 := Tryd.zeroValue195
  t171 := Tryd.underlying194
  a171 := Tryd.isAgg194
  z171 := Tryd.sizeOf194
  v171 := Tryd.zeroValue194
  t173 := Tryd.underlying198
  a173 := Tryd.isAgg198
  z173 := Tryd.sizeOf198
  v173 := Tryd.zeroValue198
  t212 := Tryd.underlying221
  a212 := Tryd.isAgg221
  z212 := Tryd.sizeOf221
  v212 := Tryd.zeroValue221
  t213 := Tryd.underlying222
  a213 := Tryd.isAgg222
  z213 := Tryd.sizeOf222
  t232 := Tryd.underlying231
  a232 := Tryd.isAgg231
  z232 := Tryd.sizeOf231
  v232 := Tryd.zeroValue231
  t233 := Tryd.underlying232
  a233 := Tryd.isAgg232
  z233 := Tryd.sizeOf232
  v233 := Tryd.zeroValue232
  g17 := by kernel_rfl
  g18 := by kernel_rfl
  g19 := by kernel_rfl
  i0 := by kernel_rfl
  i2 := by kernel_rfl
  i3 := by kernel_rfl
  i4 := by kernel_rfl
  i5 := by kernel_rfl
  i9 := by kernel_rfl
  i20 := by kernel_rfl
  i37 := by kernel_rfl
  i46 := by kernel_rfl
  i51 := by kernel_rfl
  i53 := by kernel_rfl
  i171 := by kernel_rfl
  i173 := by kernel_rfl
  i212 := by kernel_rfl
  i232 := by kernel_rfl
  i233 := by kernel_rfl
  m17 := by kernel_rfl
  m18 := by kernel_rfl
  m19 := by kernel_rfl }
end Go.Proofs
end
section
namespace Go.Proofs.YtjfjniebmdafeaaDoor
open Go.RowKit Go.Lib Go.Ev Go.Shelf Go.Sort
theorem qde {w : World} (h : Kept w) {nm : String} (hn : Tryd.prog.globalNamed nm = some 5) : Lib.TabIs Tryd.prog w nm .u64 Lib.pow10Tab := by
  obtain ⟨t, z, e⟩ := h _ (List.mem_singleton.2 rfl)
  unfold Lib.TabIs World.var?
  rw [hn]
  simp only [Option.bind_some]
  rw [e]
theorem kept_of_tab {w : World} {nm : String} (hn : Tryd.prog.globalNamed nm = some 5) (h : Lib.TabIs Tryd.prog w nm .u64 Lib.pow10Tab) : Kept w := by
  intro x hx
  obtain rfl := List.mem_singleton.1 hx
  unfold Lib.TabIs World.var? at h
  rw [hn] at h
  simp only [Option.bind_some] at h
  show ∃ t z, w.heap[5]? = some (.cells (Lib.pow10Tab.map fun z => Value.int .u64 z).toArray t z)
  split at h
  · rename_i cs t z e
    exact ⟨t, z, by rw [e]; rw [Option.some.inj h]⟩
  · cases h
theorem qcn {w w' : World} (h : Kept w) (b : Below w.heap.size w w') : Kept w' :=
  h.frame (M := fun _ _ => False) (fr_of_below b) (fun _ _ _ h => h)
theorem qcj (n : Int) (hn : inI64 n = true) (w : World) (hk : Kept w) : Calls Tryd.prog 76 #[.int .i64 n] w fun e w' => e = .returned (.string ⟨(Lib.itoa n).toArray⟩) ∧ Below w.heap.size w w' := by
  unfold inI64 at hn
  simp only [Bool.and_eq_true, decide_eq_true_eq] at hn
  refine (Any.strconv_Itoa Tryd.laysM171 n hn.1 hn.2 w (qde hk (by kernel_rfl))).mono ?_
  rintro e w' ⟨rfl, k, os, rfl⟩
  exact ⟨rfl, (below_drewN w w.heap.size k).trans (below_grow (w.drewN k) os)⟩
theorem qcf (n : Int) (hn : inI64 n = true) (w : World) (hk : Kept w) : Calls Tryd.prog 37 #[.int .i64 n] w fun e w' => e = .returned (.string ⟨(Lib.itoa n).toArray⟩) ∧ Below w.heap.size w w' := by
  have c := qcj n hn w hk
  generalize (⟨(Lib.itoa n).toArray⟩ : ByteArray) = s at c ⊢
  go_enter Tryd.func37, Tryd.ntmps37
  go_wp2_with (go_at_call 76; refine c.mono ?_; rintro e w' ⟨rfl, hb⟩)
  go_ret
  exact ⟨rfl, hb⟩
theorem qc1 {B : Nat} {e : TypeId} {k : Nat} {v : Value} {n : Nat} {xs : List Value} {w w' : World} (h : w.ownsRow B e k v n xs) (hb : RowKit.Below w.heap.size w w') : w'.ownsRow B e k v n xs := by
  obtain ⟨h1, h2⟩ := h
  refine ⟨h1, h2.imp (fun h => h) ?_⟩
  rintro ⟨g, cap, cur, h3, h4, h5, h6⟩
  exact ⟨g, cap, cur, h3, h4, (hb.block g ((Array.getElem?_eq_some_iff.1 h5).1)).trans h5, h6⟩
theorem qan {T e : TypeId} {B b : Nat} {p : Value} {bs : List Value} {w w' : World} (h : BuilderAt T e B b p bs w) (hb : RowKit.Below w.heap.size w w') : BuilderAt T e B b p bs w' := by
  have lt := h.lt
  obtain ⟨hB, v, h1, h2, h3⟩ := h
  exact ⟨hB, v, (hb.block b lt).trans h1, qc1 h2 hb, h3⟩
theorem qcw : ∀ (k u : Nat), u < 10 ^ (k + 1) → Lib.nDigits u ≤ k + 1
  | 0, u, h => by rw [Lib.nDigits, dif_pos (by simpa using h)]; exact Nat.le_refl 1
  | k + 1, u, h => by
    rw [Lib.nDigits]
    split
    · omega
    · have := qcw k (u / 10) (by rw [Nat.pow_succ] at h; omega)
      omega
theorem qck (x : Int) (h : inI64 x = true) : (Lib.itoa x).length ≤ 20 := by
  unfold inI64 at h
  simp only [Bool.and_eq_true, decide_eq_true_eq] at h
  unfold Lib.itoa
  split
  · rw [List.length_cons, Lib.decDigits_length]
    have := qcw 18 x.natAbs (by omega)
    omega
  · rw [Lib.decDigits_length]
    have := qcw 18 x.toNat (by omega)
    omega
theorem qce (xs : List Int) (h : ∀ x ∈ xs, inI64 x = true) : (xs.flatMap fun n => 32 :: Lib.itoa n).length ≤ 21 * xs.length := by
  induction xs with
  | nil => simp
  | cons x l ih =>
    have a := qck x (h x List.mem_cons_self)
    have b := ih fun y hy => h y (List.mem_cons_of_mem _ hy)
    simp only [List.flatMap_cons, List.length_append, List.length_cons] at b ⊢
    omega
theorem qc5 (word : ByteArray) (xs : List Int) (k : Nat) (hl : xs.length ≤ 1000) (h : ∀ x ∈ xs, inI64 x = true) : (byteCells (spacedL word.data.toList (xs.take k))).length ≤ word.size + 21000 := by
  have a := qce (xs.take k) fun x hx => h x (List.mem_of_mem_take hx)
  have b : (xs.take k).length ≤ xs.length := by rw [List.length_take]; omega
  rw [byteCells_length, spacedL, List.length_append, Array.length_toList]
  have : word.data.size = word.size := rfl
  omega
theorem qc6 (word : ByteArray) (xs : List Int) (k : Nat) (x : Int) (h : xs[k]? = some x) : byteCells (spacedL word.data.toList (xs.take (k + 1))) = byteCells (spacedL word.data.toList (xs.take k)) ++ byteCells (32 :: Lib.itoa x) := by
  obtain ⟨hk, hx⟩ := List.getElem?_eq_some_iff.1 h
  rw [List.take_succ_eq_append_getElem hk, hx, ← byteCells_append]
  simp [spacedL]
theorem qc9 (word : ByteArray) (xs : List Int) (b : Addr) (c : Nat) (w : World) (hk : Kept w) (hw : word.size ≤ 1000) (hl : xs.length ≤ 1000) (hx : ∀ x ∈ xs, inI64 x = true) (hc : ∀ i x, xs[i]? = some x → w.cell? (b.add i) = some (.int .i64 x)) :
    Calls Tryd.prog 36 #[.string word, .slice (some b) xs.length c] w fun e w' => e = .returned (.string ⟨(spacedL word.data.toList xs).toArray⟩) ∧ Below w.heap.size w w' := by
  have h0 : Lib.IsBuilder 118 5 w.heap.size w.heap.size [] (w.alloc (.cells #[.pointer none, .slice none 0 0] 118)) := Lib.fresh_isBuilder 118 5 w
  have b0 : Below w.heap.size w (w.alloc (.cells #[.pointer none, .slice none 0 0] 118)) := (Below.refl _ w).alloc (Nat.le_refl _) _
  go_enter Tryd.func36, Tryd.ntmps36
  go_wp2_with (go_at_call 74; refine (Tryd.Builder_WriteString w.heap.size w.heap.size [] word _ h0 (by simp; omega) b0.size).mono ?_)
  rintro e W1 ⟨rfl, h1, b1⟩
  have h1' : BuilderAt 118 5 w.heap.size w.heap.size (.pointer (some ⟨w.heap.size, 0, none⟩)) (byteCells (spacedL word.data.toList (xs.take 0))) W1 := by
    rw [List.nil_append, strCells_eq] at h1
    simpa [spacedL] using h1
  have b1' := b0.trans b1
  clear h0 b0 h1 b1
  go_wp2
  go_loopw [13] (fun i wr => ∃ k : Nat, k ≤ xs.length ∧ i = .int .i64 k ∧ BuilderAt 118 5 w.heap.size w.heap.size (.pointer (some ⟨w.heap.size, 0, none⟩)) (byteCells (spacedL word.data.toList (xs.take k))) wr ∧ RowKit.Below w.heap.size w wr) (fun i _ => xs.length - (RowKit.intOf i).toNat)
  case atStart => exact ⟨0, Nat.zero_le _, rfl, h1', b1'⟩
  case round =>
    obtain ⟨k, hkl, rfl, hB, hnx⟩ := hrel
    clear h1' b1'
    have hR := qc5 word xs k hl hx
    by_cases hlt : k < xs.length
    · obtain ⟨x, ex⟩ : ∃ x, xs[k]? = some x := ⟨_, List.getElem?_eq_getElem hlt⟩
      have e0 : wr.cell? (b.add k) = some (.int .i64 x) := (hnx.cell (World.block_lt_of_cell? _ _ (hc k x ex))).trans (hc k x ex)
      have cF := qcf x (hx x (List.mem_of_getElem? ex)) wr (qcn hk hnx)
      have hS := qc6 word xs k x ex
      have hsz := qck x (hx x (List.mem_of_getElem? ex))
      go_wp2_with (go_at_call 37; refine cF.mono ?_)
      rintro e W2 ⟨rfl, b2⟩
      have hB2 := qan hB b2
      have b2' := hnx.trans (b2.mono hnx.size)
      clear cF e0 hB hnx b2
      go_wp2_with (go_at_call 74; refine (Tryd.Builder_WriteString w.heap.size w.heap.size _ _ _ (Or.inr hB2) ?_ b2'.size).mono ?_)
      · rw [ByteArray.size_append]
        have s1 : ({ data := (Lib.itoa x).toArray } : ByteArray).size = (Lib.itoa x).length := List.size_toArray ..
        have s2 : ({ data := #[32] } : ByteArray).size = 1 := rfl
        omega
      rintro e W3 ⟨rfl, h3, b3⟩
      go_wp2
      go_roundw
      case rel => exact ⟨k + 1, by omega, by go_num, hS ▸ h3, b2'.trans b3⟩
      case measure => simp [RowKit.intOf]; omega
    · go_wp2_with (go_at_call 75; refine (Tryd.Builder_String_any w.heap.size w.heap.size (spacedL word.data.toList (xs.take k)) _ (Or.inr hB) hnx.size).mono ?_)
      rintro e W2 ⟨rfl, b2⟩
      go_wp2
      go_ret
      refine ⟨?_, hnx.trans b2⟩
      rw [List.take_of_length_le (by omega)]; rfl
theorem qc8 (word : ByteArray) (c : Nat) (w : World) (hk : Kept w) (hw : word.size ≤ 1000) :
    Calls Tryd.prog 36 #[.string word, .slice none 0 c] w fun e w' => e = .returned (.string ⟨(spacedL word.data.toList []).toArray⟩) ∧ Below w.heap.size w w' := by
  have h0 : Lib.IsBuilder 118 5 w.heap.size w.heap.size [] (w.alloc (.cells #[.pointer none, .slice none 0 0] 118)) := Lib.fresh_isBuilder 118 5 w
  have b0 : Below w.heap.size w (w.alloc (.cells #[.pointer none, .slice none 0 0] 118)) := (Below.refl _ w).alloc (Nat.le_refl _) _
  go_enter Tryd.func36, Tryd.ntmps36
  go_wp2_with (go_at_call 74; refine (Tryd.Builder_WriteString w.heap.size w.heap.size [] word _ h0 (by simp; omega) b0.size).mono ?_)
  rintro e W1 ⟨rfl, h1, b1⟩
  have h1' : BuilderAt 118 5 w.heap.size w.heap.size (.pointer (some ⟨w.heap.size, 0, none⟩)) (byteCells (spacedL word.data.toList [])) W1 := by
    rw [List.nil_append, strCells_eq] at h1
    simpa [spacedL] using h1
  have b1' := b0.trans b1
  clear h0 b0 h1 b1
  go_wp2
  go_loopw [13] (fun i wr => ∃ k : Nat, k ≤ 0 ∧ i = .int .i64 k ∧ BuilderAt 118 5 w.heap.size w.heap.size (.pointer (some ⟨w.heap.size, 0, none⟩)) (byteCells (spacedL word.data.toList [])) wr ∧ RowKit.Below w.heap.size w wr) (fun i _ => 0 - (RowKit.intOf i).toNat)
  case atStart => exact ⟨0, Nat.zero_le _, rfl, h1', b1'⟩
  case round =>
    obtain ⟨k, hkl, rfl, hB, hnx⟩ := hrel
    clear h1' b1'
    obtain rfl : k = 0 := by omega
    go_wp2_with (go_at_call 75; refine (Tryd.Builder_String_any w.heap.size w.heap.size (spacedL word.data.toList []) _ (Or.inr hB) hnx.size).mono ?_)
    rintro e W2 ⟨rfl, b2⟩
    go_wp2
    go_ret
    refine ⟨?_, hnx.trans b2⟩
    rfl
end Go.Proofs.YtjfjniebmdafeaaDoor
end
section
namespace Go.Proofs.YtjfjniebmdafeaaDoor
open Go.Ev
theorem qdo {x : Int} (h : -9223372036854775808 ≤ x) (h' : x ≤ 9223372036854775807) : IntKind.wrap .i64 x = x := by rw [IntKind.wrap_i64]; omega
theorem qdp {x : Int} (h : 0 ≤ x) (h' : x ≤ 9223372036854775807) : IntKind.wrap .u64 x = x := by rw [IntKind.wrap_u64]; omega
theorem qdn {x : Int} (h : 0 ≤ x) (h' : x ≤ 255) : IntKind.wrap .u8 x = x := by rw [IntKind.wrap_u8]; omega
theorem nth0 (d0 : D) (l : List D) : nth (d0 :: l) 0 = d0 := Eq.trans rfl rfl
theorem nth1 (d0 d1 : D) (l : List D) : nth (d0 :: d1 :: l) 1 = d1 := Eq.trans rfl rfl
theorem nth2 (d0 d1 d2 : D) (l : List D) : nth (d0 :: d1 :: d2 :: l) 2 = d2 := Eq.trans rfl rfl
theorem nth3 (d0 d1 d2 d3 : D) (l : List D) : nth (d0 :: d1 :: d2 :: d3 :: l) 3 = d3 := Eq.trans rfl rfl
theorem qa4 (d0 : D) (l : List D) : (D.agg (d0 :: l)).cell 0 = d0 := Eq.trans rfl rfl
theorem qa5 (d0 d1 : D) (l : List D) : (D.agg (d0 :: d1 :: l)).cell 1 = d1 := Eq.trans rfl rfl
theorem qbg (d0 d1 d2 : D) (l : List D) : (D.agg (d0 :: d1 :: d2 :: l)).cell 2 = d2 := Eq.trans rfl rfl
theorem qbl (d0 d1 d2 d3 : D) (l : List D) : (D.agg (d0 :: d1 :: d2 :: d3 :: l)).cell 3 = d3 := Eq.trans rfl rfl
theorem qbm (d0 d1 d2 d3 d4 : D) (l : List D) : (D.agg (d0 :: d1 :: d2 :: d3 :: d4 :: l)).cell 4 = d4 := Eq.trans rfl rfl
theorem qbn (d0 d1 d2 d3 d4 d5 : D) (l : List D) : (D.agg (d0 :: d1 :: d2 :: d3 :: d4 :: d5 :: l)).cell 5 = d5 := Eq.trans rfl rfl
theorem qbo (d0 d1 d2 d3 d4 d5 d6 : D) (l : List D) : (D.agg (d0 :: d1 :: d2 :: d3 :: d4 :: d5 :: d6 :: l)).cell 6 = d6 := Eq.trans rfl rfl
theorem qbp (d0 d1 d2 d3 d4 d5 d6 d7 : D) (l : List D) : (D.agg (d0 :: d1 :: d2 :: d3 :: d4 :: d5 :: d6 :: d7 :: l)).cell 7 = d7 := Eq.trans rfl rfl
theorem qbq (d0 d1 d2 d3 d4 d5 d6 d7 d8 : D) (l : List D) : (D.agg (d0 :: d1 :: d2 :: d3 :: d4 :: d5 :: d6 :: d7 :: d8 :: l)).cell 8 = d8 := Eq.trans rfl rfl
theorem qbr (d0 d1 d2 d3 d4 d5 d6 d7 d8 d9 : D) (l : List D) : (D.agg (d0 :: d1 :: d2 :: d3 :: d4 :: d5 :: d6 :: d7 :: d8 :: d9 :: l)).cell 9 = d9 := Eq.trans rfl rfl
theorem qa6 (d0 d1 d2 d3 d4 d5 d6 d7 d8 d9 d10 : D) (l : List D) : (D.agg (d0 :: d1 :: d2 :: d3 :: d4 :: d5 :: d6 :: d7 :: d8 :: d9 :: d10 :: l)).cell 10 = d10 := Eq.trans rfl rfl
theorem qa7 (d0 d1 d2 d3 d4 d5 d6 d7 d8 d9 d10 d11 : D) (l : List D) : (D.agg (d0 :: d1 :: d2 :: d3 :: d4 :: d5 :: d6 :: d7 :: d8 :: d9 :: d10 :: d11 :: l)).cell 11 = d11 := Eq.trans rfl rfl
theorem qa8 (d0 d1 d2 d3 d4 d5 d6 d7 d8 d9 d10 d11 d12 : D) (l : List D) : (D.agg (d0 :: d1 :: d2 :: d3 :: d4 :: d5 :: d6 :: d7 :: d8 :: d9 :: d10 :: d11 :: d12 :: l)).cell 12 = d12 := Eq.trans rfl rfl
theorem qa9 (d0 d1 d2 d3 d4 d5 d6 d7 d8 d9 d10 d11 d12 d13 : D) (l : List D) : (D.agg (d0 :: d1 :: d2 :: d3 :: d4 :: d5 :: d6 :: d7 :: d8 :: d9 :: d10 :: d11 :: d12 :: d13 :: l)).cell 13 = d13 := Eq.trans rfl rfl
theorem qba (d0 d1 d2 d3 d4 d5 d6 d7 d8 d9 d10 d11 d12 d13 d14 : D) (l : List D) : (D.agg (d0 :: d1 :: d2 :: d3 :: d4 :: d5 :: d6 :: d7 :: d8 :: d9 :: d10 :: d11 :: d12 :: d13 :: d14 :: l)).cell 14 = d14 := Eq.trans rfl rfl
theorem qbb (d0 d1 d2 d3 d4 d5 d6 d7 d8 d9 d10 d11 d12 d13 d14 d15 : D) (l : List D) : (D.agg (d0 :: d1 :: d2 :: d3 :: d4 :: d5 :: d6 :: d7 :: d8 :: d9 :: d10 :: d11 :: d12 :: d13 :: d14 :: d15 :: l)).cell 15 = d15 := Eq.trans rfl rfl
theorem qbc (d0 d1 d2 d3 d4 d5 d6 d7 d8 d9 d10 d11 d12 d13 d14 d15 d16 : D) (l : List D) : (D.agg (d0 :: d1 :: d2 :: d3 :: d4 :: d5 :: d6 :: d7 :: d8 :: d9 :: d10 :: d11 :: d12 :: d13 :: d14 :: d15 :: d16 :: l)).cell 16 = d16 := Eq.trans rfl rfl
theorem qbd (d0 d1 d2 d3 d4 d5 d6 d7 d8 d9 d10 d11 d12 d13 d14 d15 d16 d17 : D) (l : List D) : (D.agg (d0 :: d1 :: d2 :: d3 :: d4 :: d5 :: d6 :: d7 :: d8 :: d9 :: d10 :: d11 :: d12 :: d13 :: d14 :: d15 :: d16 :: d17 :: l)).cell 17 = d17 := Eq.trans rfl rfl
theorem qbe (d0 d1 d2 d3 d4 d5 d6 d7 d8 d9 d10 d11 d12 d13 d14 d15 d16 d17 d18 : D) (l : List D) : (D.agg (d0 :: d1 :: d2 :: d3 :: d4 :: d5 :: d6 :: d7 :: d8 :: d9 :: d10 :: d11 :: d12 :: d13 :: d14 :: d15 :: d16 :: d17 :: d18 :: l)).cell 18 = d18 := Eq.trans rfl rfl
theorem qbf (d0 d1 d2 d3 d4 d5 d6 d7 d8 d9 d10 d11 d12 d13 d14 d15 d16 d17 d18 d19 : D) (l : List D) : (D.agg (d0 :: d1 :: d2 :: d3 :: d4 :: d5 :: d6 :: d7 :: d8 :: d9 :: d10 :: d11 :: d12 :: d13 :: d14 :: d15 :: d16 :: d17 :: d18 :: d19 :: l)).cell 19 = d19 := Eq.trans rfl rfl
theorem qbh (d0 d1 d2 d3 d4 d5 d6 d7 d8 d9 d10 d11 d12 d13 d14 d15 d16 d17 d18 d19 d20 : D) (l : List D) : (D.agg (d0 :: d1 :: d2 :: d3 :: d4 :: d5 :: d6 :: d7 :: d8 :: d9 :: d10 :: d11 :: d12 :: d13 :: d14 :: d15 :: d16 :: d17 :: d18 :: d19 :: d20 :: l)).cell 20 = d20 := Eq.trans rfl rfl
theorem qbi (d0 d1 d2 d3 d4 d5 d6 d7 d8 d9 d10 d11 d12 d13 d14 d15 d16 d17 d18 d19 d20 d21 : D) (l : List D) : (D.agg (d0 :: d1 :: d2 :: d3 :: d4 :: d5 :: d6 :: d7 :: d8 :: d9 :: d10 :: d11 :: d12 :: d13 :: d14 :: d15 :: d16 :: d17 :: d18 :: d19 :: d20 :: d21 :: l)).cell 21 = d21 := Eq.trans rfl rfl
theorem qbj (d0 d1 d2 d3 d4 d5 d6 d7 d8 d9 d10 d11 d12 d13 d14 d15 d16 d17 d18 d19 d20 d21 d22 : D) (l : List D) : (D.agg (d0 :: d1 :: d2 :: d3 :: d4 :: d5 :: d6 :: d7 :: d8 :: d9 :: d10 :: d11 :: d12 :: d13 :: d14 :: d15 :: d16 :: d17 :: d18 :: d19 :: d20 :: d21 :: d22 :: l)).cell 22 = d22 := Eq.trans rfl rfl
theorem qbk (d0 d1 d2 d3 d4 d5 d6 d7 d8 d9 d10 d11 d12 d13 d14 d15 d16 d17 d18 d19 d20 d21 d22 d23 : D) (l : List D) : (D.agg (d0 :: d1 :: d2 :: d3 :: d4 :: d5 :: d6 :: d7 :: d8 :: d9 :: d10 :: d11 :: d12 :: d13 :: d14 :: d15 :: d16 :: d17 :: d18 :: d19 :: d20 :: d21 :: d22 :: d23 :: l)).cell 23 = d23 := Eq.trans rfl rfl
theorem qdg (k : IntKind) (n : Int) : (D.int k n).toInt = n := Eq.trans rfl rfl
theorem qdf (b : Bool) : (D.bool b).toBool = b := Eq.trans rfl rfl
theorem qdh (s : ByteArray) : (D.str s).toStr = s := Eq.trans rfl rfl
theorem qcy (o n : Bool) (a : Arr) : (D.arr o n a).nil = n := Eq.trans rfl rfl
theorem qc3 (o n : Bool) (l : List (Int × Int × Int)) : (D.arr o n (.r3 l)).r3 = l := Eq.trans rfl rfl
theorem qc4 (o n : Bool) (l : List (Int × Int × Int × Int)) : (D.arr o n (.r4 l)).r4 = l := Eq.trans rfl rfl
theorem qci (o n : Bool) (k : IntKind) (l : List Int) : (D.arr o n (.ints k l)).ints = l := Eq.trans rfl rfl
theorem qal (o n : Bool) (l : List Bool) : (D.arr o n (.bools l)).bools = l := Eq.trans rfl rfl
theorem qdd (o n : Bool) (l : List ByteArray) : (D.arr o n (.strs l)).strs = l := Eq.trans rfl rfl
theorem qbu {α : Type} (x y : α) : cond true x y = x := Eq.trans rfl rfl
theorem qbt {α : Type} (x y : α) : cond false x y = y := Eq.trans rfl rfl
theorem qak {α : Type} (x : List D) (f : List D → Option α) : (some x).bind f = f x := Eq.trans rfl rfl
theorem dT {p : Prop} {i : Decidable p} (h : p) : @decide p i = true := by cases i <;> simp_all
theorem dF {p : Prop} {i : Decidable p} (h : ¬p) : @decide p i = false := by cases i <;> simp_all
theorem qa2 (i : Nat) : (i : Int) + 1 = ((i + 1 : Nat) : Int) := Eq.trans rfl rfl
theorem qa3 (i : Nat) : (i : Int) + 2 = ((i + 2 : Nat) : Int) := Eq.trans rfl rfl
theorem imax (x y : Int) : (if x > y then x else y) = max x y := by by_cases h : x > y <;> simp only [h, if_true, if_false] <;> omega
theorem imin (x y : Int) : (if x < y then x else y) = min x y := by by_cases h : x < y <;> simp only [h, if_true, if_false] <;> omega
theorem qbv (b x : Bool) : cond b (some [D.bool x]) (some [D.bool false]) = some [D.bool (b && x)] := by cases b <;> rfl
theorem dTT {i : Decidable True} : @decide True i = true := by cases i with | isTrue _ => rfl | isFalse h => exact absurd trivial h
theorem dFF {i : Decidable False} : @decide False i = false := by cases i with | isTrue h => exact h.elim | isFalse _ => rfl
theorem bigI : ((bigLen : Nat) : Int) = 1099511627776 := Eq.trans rfl rfl
theorem qcx {α : Type} (l : List α) : [] ++ l = l := Eq.trans rfl rfl
theorem big0 : bigLen = 1099511627776 := Eq.trans rfl rfl
end Go.Proofs.YtjfjniebmdafeaaDoor
end
section
namespace Go.Proofs.YtjfjniebmdafeaaDoor
open Go.RowKit Go.Lib Go.Ev Go.Shelf Go.Sort
theorem qc0 (s : ByteArray) : okTs Tryd.prog [9] [.str s] = true := by kernel_rfl
theorem qcl (ds rs : List D) (h : itoaGo ds = some rs) : Contract Tryd.prog 76 [] ds rs := by
  unfold itoaGo at h
  split at h
  · rename_i n
    cases hn : inI64 n
    · rw [hn] at h; cases h
    rw [hn] at h
    have h := Option.some.inj (show some _ = some rs from h)
    subst h
    refine str_contract (fn := Tryd.f76) (S := 9) Tryd.func76 (by kernel_rfl) (by kernel_rfl) (qc0 _) (fun w args FF hk hd => ?_)
    simp only [RepDs, RepD] at hd
    obtain ⟨u, us, F1, F2, e0, rfl, ⟨rfl, rfl⟩, rfl, rfl⟩ := hd
    have ha : args = #[.int .i64 n] := by rw [← Array.toArray_toList (xs := args), e0]
    subst ha
    exact qcj n hn w hk
  · cases h
theorem qcm (ds rs : List D) (h : spacedGo ds = some rs) : Contract Tryd.prog 36 [] ds rs := by
  unfold spacedGo at h
  split at h
  · rename_i wd z l
    cases hn : (decide (wd.size ≤ 1000) && (decide (l.length ≤ 1000) && l.all inI64))
    · rw [hn] at h; cases h
    rw [hn] at h
    have h := Option.some.inj (show some _ = some rs from h)
    subst h
    simp only [Bool.and_eq_true, decide_eq_true_eq, List.all_eq_true] at hn
    obtain ⟨hw, hl, hx⟩ := hn
    refine str_contract (fn := Tryd.f36) (S := 9) Tryd.func36 (by kernel_rfl) (by kernel_rfl) (qc0 _) (fun w args FF hk hd => ?_)
    simp only [RepDs, RepD] at hd
    obtain ⟨u0, us0, F0, F0', e0, rfl, ⟨rfl, rfl⟩, u1, us1, F1, F1', rfl, rfl, ⟨p, rfl, rp, rfl⟩, rfl, rfl⟩ := hd
    have ha : args = #[.string wd, .slice p.base p.len p.cap] := by rw [← Array.toArray_toList (xs := args), e0]
    subst ha
    obtain ⟨r1, r2, r3, r4, r5, r6⟩ := rp
    have r1' : l.length = p.len := r1
    cases hb : p.base with
    | none =>
      have h0 := (r4 hb).2
      have : l = [] := List.eq_nil_of_length_eq_zero (by omega)
      subst this
      rw [h0]
      exact qc8 wd p.cap w hk hw
    | some b =>
      have hc := (r5 b hb).2
      rw [← r1']
      refine qc9 wd l b p.cap w hk hw hl hx (fun i x hi => hc i _ ?_)
      show (l.map fun n => Value.int .i64 n)[i]? = _
      rw [List.getElem?_map, hi]; rfl
  · cases h
theorem withExt : ∀ f g, An.ext f = some g → ∀ ds rs, g ds = some rs → Contract Tryd.prog f (An.mode f) ds rs := by
  intro f g h ds rs hd
  by_cases h1 : f = 76
  · subst h1
    have e : An.ext 76 = some itoaGo := rfl
    rw [e] at h; cases h
    exact qcl ds rs hd
  by_cases h2 : f = 36
  · subst h2
    have e : An.ext 36 = some spacedGo := rfl
    rw [e] at h; cases h
    exact qcm ds rs hd
  have n1 : Nat.beq f 76 = false := by cases b : Nat.beq f 76 with | false => rfl | true => exact absurd (Nat.eq_of_beq_eq_true b) h1
  have n2 : Nat.beq f 36 = false := by cases b : Nat.beq f 36 with | false => rfl | true => exact absurd (Nat.eq_of_beq_eq_true b) h2
  have e : An.ext f = none := by show cond (Nat.beq f 76) (some itoaGo) (cond (Nat.beq f 36) (some spacedGo) none) = none; rw [n1, n2]; rfl
  rw [e] at h; cases h
theorem qau (k : Nat) (wd : ByteArray) (z : Bool) (l : List Int) (hw : wd.size ≤ 1000) (hl : l.length ≤ 1000) (hx : l.all inI64 = true) : go (k + 1) impl_spaced [.str wd, .arr false z (.ints .i64 l)] = some [.str ⟨(spacedL wd.data.toList l).toArray⟩] := by
  have e : go (k + 1) impl_spaced [.str wd, .arr false z (.ints .i64 l)] = spacedGo [.str wd, .arr false z (.ints .i64 l)] := Eq.trans rfl rfl
  rw [e]; show (bif (decide (wd.size ≤ 1000) && (decide (l.length ≤ 1000) && l.all inI64)) then some [D.str ⟨(spacedL wd.data.toList l).toArray⟩] else none) = _; rw [hx, decide_eq_true hw, decide_eq_true hl]; rfl
end Go.Proofs.YtjfjniebmdafeaaDoor
end
section
namespace Go.Proofs.YtjfjniebmdafeaaDoor
open Go.Ev
set_option maxRecDepth 20000
abbrev ba (l : List UInt8) : ByteArray := ⟨l.toArray⟩
theorem qag (a b : List UInt8) : ba a ++ ba b = ba (a ++ b) := by
  apply ByteArray.ext
  simp [ba, ByteArray.data_append]
theorem qai (a : List UInt8) : ByteArray.size (ba a) = a.length := List.size_toArray ..
theorem qah (a : List UInt8) : (ba a).data.toList = a := Eq.trans rfl rfl
def decD (m : Nat) : List UInt8 := if h : m = 0 then [] else decD (m / 10) ++ [UInt8.ofNat (48 + m % 10)]
termination_by m
decreasing_by omega
theorem qbw : ∀ (m : Nat), m ≠ 0 → decD m = Lib.decDigits m := by
  intro m
  induction m using Nat.strongRecOn with
  | _ m ih =>
    intro h
    rw [decD, dif_neg h, Lib.decDigits]
    by_cases g : m < 10
    · rw [dif_pos g, show m / 10 = 0 by omega, show m % 10 = m by omega, decD, dif_pos rfl, List.nil_append]
    · rw [dif_neg g, ih (m / 10) (by omega) (by omega)]
theorem qay (k : Nat) (hk : 2000000 ≤ k) (d : Nat) (hd : d < 10) : go (k + 1) spec_l01Figure [.int .i64 (d : Int)] = some [.int .u8 ((48 + d : Nat) : Int)] := by
  rw [qcb]
  simp (disch := omega) only [qak, nth0, nth1, nth2, nth3, bit, qa4, qa5, qbg, qbl, qbm, qbn, qbo, qbp, qbq, qbr, qa6, qa7, qa8, qa9, qba, qbb, qbc, qbd, qbe, qbf, qbh, qbi, qbj, qbk, qdg, qdf, qdh, qcy, qc3, qc4, qci, qal, qdd, nI, qbu, qbt, Bool.not_true, Bool.not_false, Bool.and_true, Bool.true_and, Bool.and_false, Bool.false_and, Bool.or_true, Bool.true_or, Bool.or_false, Bool.false_or, beq_self_eq_true, dTT, dFF, dT, dF, bigI, big0, qcx, qdo, qdp, List.length_set, List.length_replicate, Int.toNat_natCast, qa2, qa3, imax, imin, qdn, show (48 : Int) + (d : Int) = ((48 + d : Nat) : Int) by omega]
theorem qdc (d : Nat) : strL [((d : Nat) : Int)] = ba [UInt8.ofNat d] := by
  unfold strL
  simp [ba]
theorem m_fi (k : Nat) (hk : 2000000 ≤ k) (fu : List (Nat × Nat)) (bl : Bool) : ∀ (M N m : Nat) (x : Int) (s : List UInt8), M < N → m < 10 ^ M → (x = (m : Int) ∨ x = -(m : Int)) → m ≤ 9223372036854775808 → s.length + M ≤ 100 → (x ≤ 9223372036854775807) →
    lp (k + 1) spec_FormatInt [] fu 5 (N) (qc7 x bl (ba s)) = some [.str (cond bl (ba (45 :: (decD m ++ s))) (ba (decD m ++ s)))]
  | M, 0, m, x, s, hN, hm, hx, hb, hs, hx' => by omega
  | 0, N + 1, m, x, s, hN, hm, hx, hb, hs, hx' => by
    rw [qco]
    have m0 : m = 0 := by simpa using hm
    subst m0
    have x0 : x = 0 := by omega
    subst x0
    rw [decD, dif_pos rfl, List.nil_append]
    have sz := qai s
    have s1 : ByteArray.size { data := #[(45 : UInt8)] } = 1 := Eq.trans rfl rfl
    have ap : ({ data := #[(45 : UInt8)] } : ByteArray) ++ ba s = ba (45 :: s) := qag [45] s
    cases bl
    · simp (disch := omega) only [qak, nth0, nth1, nth2, nth3, bit, qa4, qa5, qbg, qbl, qbm, qbn, qbo, qbp, qbq, qbr, qa6, qa7, qa8, qa9, qba, qbb, qbc, qbd, qbe, qbf, qbh, qbi, qbj, qbk, qdg, qdf, qdh, qcy, qc3, qc4, qci, qal, qdd, nI, qbu, qbt, Bool.not_true, Bool.not_false, Bool.and_true, Bool.true_and, Bool.and_false, Bool.false_and, Bool.or_true, Bool.true_or, Bool.or_false, Bool.false_or, beq_self_eq_true, dTT, dFF, dT, dF, bigI, big0, qcx, qdo, qdp, List.length_set, List.length_replicate, Int.toNat_natCast, qa2, qa3, imax, imin]
    · simp (disch := omega) only [qak, nth0, nth1, nth2, nth3, bit, qa4, qa5, qbg, qbl, qbm, qbn, qbo, qbp, qbq, qbr, qa6, qa7, qa8, qa9, qba, qbb, qbc, qbd, qbe, qbf, qbh, qbi, qbj, qbk, qdg, qdf, qdh, qcy, qc3, qc4, qci, qal, qdd, nI, qbu, qbt, Bool.not_true, Bool.not_false, Bool.and_true, Bool.true_and, Bool.and_false, Bool.false_and, Bool.or_true, Bool.true_or, Bool.or_false, Bool.false_or, beq_self_eq_true, dTT, dFF, dT, dF, bigI, big0, qcx, qdo, qdp, List.length_set, List.length_replicate, Int.toNat_natCast, qa2, qa3, imax, imin, sz, s1, ap]
  | M + 1, N + 1, m, x, s, hN, hm, hx, hb, hs, hx' => by
    rw [qco]
    have sz := qai s
    have s1 : ByteArray.size { data := #[(45 : UInt8)] } = 1 := Eq.trans rfl rfl
    have ap : ({ data := #[(45 : UInt8)] } : ByteArray) ++ ba s = ba (45 :: s) := qag [45] s
    by_cases g : m = 0
    · subst g
      have x0 : x = 0 := by omega
      subst x0
      rw [decD, dif_pos rfl, List.nil_append]
      cases bl
      · simp (disch := omega) only [qak, nth0, nth1, nth2, nth3, bit, qa4, qa5, qbg, qbl, qbm, qbn, qbo, qbp, qbq, qbr, qa6, qa7, qa8, qa9, qba, qbb, qbc, qbd, qbe, qbf, qbh, qbi, qbj, qbk, qdg, qdf, qdh, qcy, qc3, qc4, qci, qal, qdd, nI, qbu, qbt, Bool.not_true, Bool.not_false, Bool.and_true, Bool.true_and, Bool.and_false, Bool.false_and, Bool.or_true, Bool.true_or, Bool.or_false, Bool.false_or, beq_self_eq_true, dTT, dFF, dT, dF, bigI, big0, qcx, qdo, qdp, List.length_set, List.length_replicate, Int.toNat_natCast, qa2, qa3, imax, imin]
      · simp (disch := omega) only [qak, nth0, nth1, nth2, nth3, bit, qa4, qa5, qbg, qbl, qbm, qbn, qbo, qbp, qbq, qbr, qa6, qa7, qa8, qa9, qba, qbb, qbc, qbd, qbe, qbf, qbh, qbi, qbj, qbk, qdg, qdf, qdh, qcy, qc3, qc4, qci, qal, qdd, nI, qbu, qbt, Bool.not_true, Bool.not_false, Bool.and_true, Bool.true_and, Bool.and_false, Bool.false_and, Bool.or_true, Bool.true_or, Bool.or_false, Bool.false_or, beq_self_eq_true, dTT, dFF, dT, dF, bigI, big0, qcx, qdo, qdp, List.length_set, List.length_replicate, Int.toNat_natCast, qa2, qa3, imax, imin, sz, s1, ap]
    have hne : ¬ x = 0 := by omega
    have m10 : m / 10 < 10 ^ M := by rw [Nat.pow_succ] at hm; omega
    have fig := qay k (by omega) (m % 10) (by omega)
    have st := qdc (48 + m % 10)
    have sb : ByteArray.size (ba [UInt8.ofNat (48 + m % 10)]) = 1 := Eq.trans rfl rfl
    have ap2 : ba [UInt8.ofNat (48 + m % 10)] ++ ba s = ba (UInt8.ofNat (48 + m % 10) :: s) := qag _ _
    have ed : decD m ++ s = decD (m / 10) ++ UInt8.ofNat (48 + m % 10) :: s := by
      rw [decD, dif_neg g, List.append_assoc]; rfl
    rw [ed]
    rcases hx with hx | hx
    · have IH := m_fi k hk fu bl M N (m / 10) ((m / 10 : Nat) : Int) (UInt8.ofNat (48 + m % 10) :: s) (by omega) m10 (Or.inl rfl) (by omega) (by simp only [List.length_cons]; omega) (by omega)
      have t1 : Int.tmod x 10 = ((m % 10 : Nat) : Int) := by rw [hx, Int.tmod_eq_emod_of_nonneg (by omega)]; omega
      have t2 : Int.tdiv x 10 = ((m / 10 : Nat) : Int) := by rw [hx, Int.tdiv_eq_ediv_of_nonneg (by omega)]; omega
      simp (disch := omega) only [qak, nth0, nth1, nth2, nth3, bit, qa4, qa5, qbg, qbl, qbm, qbn, qbo, qbp, qbq, qbr, qa6, qa7, qa8, qa9, qba, qbb, qbc, qbd, qbe, qbf, qbh, qbi, qbj, qbk, qdg, qdf, qdh, qcy, qc3, qc4, qci, qal, qdd, nI, qbu, qbt, Bool.not_true, Bool.not_false, Bool.and_true, Bool.true_and, Bool.and_false, Bool.false_and, Bool.or_true, Bool.true_or, Bool.or_false, Bool.false_or, beq_self_eq_true, dTT, dFF, dT, dF, bigI, big0, qcx, qdo, qdp, List.length_set, List.length_replicate, Int.toNat_natCast, qa2, qa3, imax, imin, t1, t2, fig, st, sb, sz, ap2, IH]
    · have IH := m_fi k hk fu bl M N (m / 10) (-((m / 10 : Nat) : Int)) (UInt8.ofNat (48 + m % 10) :: s) (by omega) m10 (Or.inr rfl) (by omega) (by simp only [List.length_cons]; omega) (by omega)
      have t1 : Int.tmod x 10 = -((m % 10 : Nat) : Int) := by rw [hx, Int.neg_tmod, Int.tmod_eq_emod_of_nonneg (by omega)]; omega
      have t2 : Int.tdiv x 10 = -((m / 10 : Nat) : Int) := by rw [hx, Int.neg_tdiv, Int.tdiv_eq_ediv_of_nonneg (by omega)]; omega
      by_cases h0 : m % 10 = 0
      · rw [h0] at t1 fig st sb ap2 ⊢
        rw [h0] at IH
        rw [show ((0 : Nat) : Int) = 0 from rfl] at t1 fig
        rw [Int.neg_zero] at t1
        simp (disch := omega) only [qak, nth0, nth1, nth2, nth3, bit, qa4, qa5, qbg, qbl, qbm, qbn, qbo, qbp, qbq, qbr, qa6, qa7, qa8, qa9, qba, qbb, qbc, qbd, qbe, qbf, qbh, qbi, qbj, qbk, qdg, qdf, qdh, qcy, qc3, qc4, qci, qal, qdd, nI, qbu, qbt, Bool.not_true, Bool.not_false, Bool.and_true, Bool.true_and, Bool.and_false, Bool.false_and, Bool.or_true, Bool.true_or, Bool.or_false, Bool.false_or, beq_self_eq_true, dTT, dFF, dT, dF, bigI, big0, qcx, qdo, qdp, List.length_set, List.length_replicate, Int.toNat_natCast, qa2, qa3, imax, imin, t1, t2, fig, st, sb, sz, ap2, IH]
      · simp (disch := omega) only [qak, nth0, nth1, nth2, nth3, bit, qa4, qa5, qbg, qbl, qbm, qbn, qbo, qbp, qbq, qbr, qa6, qa7, qa8, qa9, qba, qbb, qbc, qbd, qbe, qbf, qbh, qbi, qbj, qbk, qdg, qdf, qdh, qcy, qc3, qc4, qci, qal, qdd, nI, qbu, qbt, Bool.not_true, Bool.not_false, Bool.and_true, Bool.true_and, Bool.and_false, Bool.false_and, Bool.or_true, Bool.true_or, Bool.or_false, Bool.false_or, beq_self_eq_true, dTT, dFF, dT, dF, bigI, big0, qcx, qdo, qdp, List.length_set, List.length_replicate, Int.toNat_natCast, qa2, qa3, imax, imin, t1, t2, fig, st, sb, sz, ap2, IH, show (0 : Int) - -((m % 10 : Nat) : Int) = ((m % 10 : Nat) : Int) by omega]
theorem qa0 (k : Nat) (hk : 2000000 ≤ k) (n : Int) (hn : inI64 n = true) : go (k + 2) spec_FormatInt [.int .i64 n] = some [.str (ba (Lib.itoa n))] := by
  have hn' := hn
  unfold inI64 at hn'
  simp only [Bool.and_eq_true, decide_eq_true_eq] at hn'
  rw [qca]
  by_cases g : n = 0
  · subst g
    have : Lib.itoa 0 = [48] := by
      unfold Lib.itoa; rw [if_neg (by omega)]; exact Lib.decDigits_one (by decide)
    rw [this]
    simp (disch := omega) only [qak, nth0, nth1, nth2, nth3, bit, qa4, qa5, qbg, qbl, qbm, qbn, qbo, qbp, qbq, qbr, qa6, qa7, qa8, qa9, qba, qbb, qbc, qbd, qbe, qbf, qbh, qbi, qbj, qbk, qdg, qdf, qdh, qcy, qc3, qc4, qci, qal, qdd, nI, qbu, qbt, Bool.not_true, Bool.not_false, Bool.and_true, Bool.true_and, Bool.and_false, Bool.false_and, Bool.or_true, Bool.true_or, Bool.or_false, Bool.false_or, beq_self_eq_true, dTT, dFF, dT, dF, bigI, big0, qcx, qdo, qdp, List.length_set, List.length_replicate, Int.toNat_natCast, qa2, qa3, imax, imin]
  have e := m_fi k hk [] (decide (n < 0)) 19 (k + 1) n.natAbs n [] (by omega) (by omega) (by omega) (by omega) (by simp) hn'.2
  rw [List.append_nil, qbw _ (by omega)] at e
  have i : Lib.itoa n = cond (decide (n < 0)) (45 :: Lib.decDigits n.natAbs) (Lib.decDigits n.natAbs) := by
    unfold Lib.itoa
    by_cases h : n < 0
    · rw [if_pos h, decide_eq_true h]; rfl
    · rw [if_neg h, decide_eq_false h, show n.toNat = n.natAbs by omega]; rfl
  have e' : ba (Lib.itoa n) = cond (decide (n < 0)) (ba (45 :: Lib.decDigits n.natAbs)) (ba (Lib.decDigits n.natAbs)) := by
    rw [i]; cases decide (n < 0) <;> rfl
  rw [e']
  simp (disch := omega) only [qak, nth0, nth1, nth2, nth3, bit, qa4, qa5, qbg, qbl, qbm, qbn, qbo, qbp, qbq, qbr, qa6, qa7, qa8, qa9, qba, qbb, qbc, qbd, qbe, qbf, qbh, qbi, qbj, qbk, qdg, qdf, qdh, qcy, qc3, qc4, qci, qal, qdd, nI, qbu, qbt, Bool.not_true, Bool.not_false, Bool.and_true, Bool.true_and, Bool.and_false, Bool.false_and, Bool.or_true, Bool.true_or, Bool.or_false, Bool.false_or, beq_self_eq_true, dTT, dFF, dT, dF, bigI, big0, qcx, qdo, qdp, List.length_set, List.length_replicate, Int.toNat_natCast, qa2, qa3, imax, imin]
  exact e
end Go.Proofs.YtjfjniebmdafeaaDoor
end
section
namespace Go.Proofs.YtjfjniebmdafeaaDoor
open Go.Ev
theorem qb7 (k : Nat) (a0 a1 a2 a3 : Int) : go (k + 1) spec_ActOk [(.agg [(.int .i64 (a0)), (.int .i64 (a1)), (.int .i64 (a2)), (.int .i64 (a3))])] =
 (go k spec_l37Plain [(.agg [(.int .i64 (a0)), (.int .i64 (a1)), (.int .i64 (a2)), (.int .i64 (a3))])]).bind fun r0 =>
 cond (!(decide (a0 = D.toInt (D.cell 0 (nth r0 0))) && (decide (a1 = D.toInt (D.cell 1 (nth r0 0))) && (decide (a2 = D.toInt (D.cell 2 (nth r0 0))) && (decide (a3 = D.toInt (D.cell 3 (nth r0 0))) && true)))))
 (some [(.bool (false))])
 (cond (decide (a0 = (1 : Int)))
 ((go k spec_l01In [(.int .i64 (a1)), (.int .i64 ((1 : Int))), (.int .i64 ((20 : Int)))]).bind fun r1 =>
 some [(.bool (bit (nth r1 0)))])
 (cond (decide (a0 = (2 : Int)))
 (cond (decide (a0 = (2 : Int)))
 ((go k spec_l01In [(.int .i64 (a1)), (.int .i64 (0 : Int)), (.int .i64 ((10000 : Int)))]).bind fun r2 =>
 some [(.bool (bit (nth r2 0)))])
 (cond (decide (a0 = (4 : Int)))
 ((go k spec_BorderOk [(.agg [(.int .i64 (a1)), (.int .i64 (a2)), (.int .i64 (a3))])]).bind fun r3 =>
 some [(.bool (bit (nth r3 0)))])
 (cond (decide (a0 = (5 : Int)))
 ((go k spec_l01In [(.int .i64 (a1)), (.int .i64 (0 : Int)), (.int .i64 ((1000 : Int)))]).bind fun r4 =>
 some [(.bool (bit (nth r4 0)))])
 (cond (decide (a0 = (6 : Int)))
 ((go k spec_l01In [(.int .i64 (a1)), (.int .i64 (0 : Int)), (.int .i64 ((1000000 : Int)))]).bind fun r5 =>
 cond (bit (nth r5 0))
 ((go k spec_l01In [(.int .i64 (a2)), (.int .i64 (0 : Int)), (.int .i64 ((1000000 : Int)))]).bind fun r6 =>
 cond (bit (nth r6 0))
 ((go k spec_l01In [(.int .i64 (a3)), (.int .i64 (0 : Int)), (.int .i64 ((100 : Int)))]).bind fun r7 =>
 some [(.bool (bit (nth r7 0)))])
 (some [(.bool (false))]))
 (some [(.bool (false))]))
 (cond (decide (a0 = (7 : Int)))
 ((go k spec_l01In [(.int .i64 (a1)), (.int .i64 (0 : Int)), (.int .i64 ((127 : Int)))]).bind fun r8 =>
 cond (bit (nth r8 0))
 ((go k spec_l01In [(.int .i64 (a2)), (.int .i64 ((1 : Int))), (.int .i64 ((10000 : Int)))]).bind fun r9 =>
 cond (bit (nth r9 0))
 ((go k spec_l01In [(.int .i64 (a3)), (.int .i64 (0 : Int)), (.int .i64 ((1000 : Int)))]).bind fun r10 =>
 some [(.bool (bit (nth r10 0)))])
 (some [(.bool (false))]))
 (some [(.bool (false))]))
 (some [(.bool (false))]))))))
 (cond (decide (a0 = (3 : Int)))
 ((go k spec_l01In [(.int .i64 (a1)), (.int .i64 (0 : Int)), (.int .i64 ((10000 : Int)))]).bind fun r11 =>
 some [(.bool (bit (nth r11 0)))])
 (cond (decide (a0 = (4 : Int)))
 ((go k spec_BorderOk [(.agg [(.int .i64 (a1)), (.int .i64 (a2)), (.int .i64 (a3))])]).bind fun r12 =>
 some [(.bool (bit (nth r12 0)))])
 (cond (decide (a0 = (5 : Int)))
 ((go k spec_l01In [(.int .i64 (a1)), (.int .i64 (0 : Int)), (.int .i64 ((1000 : Int)))]).bind fun r13 =>
 some [(.bool (bit (nth r13 0)))])
 (cond (decide (a0 = (6 : Int)))
 ((go k spec_l01In [(.int .i64 (a1)), (.int .i64 (0 : Int)), (.int .i64 ((1000000 : Int)))]).bind fun r14 =>
 cond (bit (nth r14 0))
 ((go k spec_l01In [(.int .i64 (a2)), (.int .i64 (0 : Int)), (.int .i64 ((1000000 : Int)))]).bind fun r15 =>
 cond (bit (nth r15 0))
 ((go k spec_l01In [(.int .i64 (a3)), (.int .i64 (0 : Int)), (.int .i64 ((100 : Int)))]).bind fun r16 =>
 some [(.bool (bit (nth r16 0)))])
 (some [(.bool (false))]))
 (some [(.bool (false))]))
 (cond (decide (a0 = (7 : Int)))
 ((go k spec_l01In [(.int .i64 (a1)), (.int .i64 (0 : Int)), (.int .i64 ((127 : Int)))]).bind fun r17 =>
 cond (bit (nth r17 0))
 ((go k spec_l01In [(.int .i64 (a2)), (.int .i64 ((1 : Int))), (.int .i64 ((10000 : Int)))]).bind fun r18 =>
 cond (bit (nth r18 0))
 ((go k spec_l01In [(.int .i64 (a3)), (.int .i64 (0 : Int)), (.int .i64 ((1000 : Int)))]).bind fun r19 =>
 some [(.bool (bit (nth r19 0)))])
 (some [(.bool (false))]))
 (some [(.bool (false))]))
 (some [(.bool (false))])))))))) := by kernel_rfl
theorem qbx (k : Nat) (a0 a1 a2 a3 : Int) : go (k + 1) impl_ActOk [(.agg [(.int .i64 (a0)), (.int .i64 (a1)), (.int .i64 (a2)), (.int .i64 (a3))])] =
 cond (decide (a2 = (0 : Int)))
 (cond (decide (a0 = (1 : Int)))
 (cond (decide (a3 = (0 : Int)))
 ((go k impl_within [(.int .i64 (a1)), (.int .i64 ((1 : Int))), (.int .i64 ((20 : Int)))]).bind fun r0 =>
 some [(.bool (bit (nth r0 0)))])
 (some [(.bool (false))]))
 (cond (decide (a0 = (2 : Int)))
 (cond (decide (a0 = (2 : Int)))
 (cond (decide (a3 = (0 : Int)))
 ((go k impl_isRain [(.int .i64 (a1))]).bind fun r1 =>
 some [(.bool (bit (nth r1 0)))])
 (some [(.bool (false))]))
 (cond (decide (a0 = (4 : Int)))
 ((go k impl_BorderOk [(.agg [(.int .i64 (a1)), (.int .i64 (a2)), (.int .i64 (a3))])]).bind fun r2 =>
 some [(.bool (bit (nth r2 0)))])
 (cond (decide (a0 = (5 : Int)))
 (cond (decide (a3 = (0 : Int)))
 ((go k impl_isRate [(.int .i64 (a1))]).bind fun r3 =>
 some [(.bool (bit (nth r3 0)))])
 (some [(.bool (false))]))
 (cond (decide (a0 = (6 : Int)))
 ((go k impl_within [(.int .i64 (a1)), (.int .i64 (0 : Int)), (.int .i64 ((1000000 : Int)))]).bind fun r4 =>
 cond (bit (nth r4 0))
 ((go k impl_within [(.int .i64 (a2)), (.int .i64 (0 : Int)), (.int .i64 ((1000000 : Int)))]).bind fun r5 =>
 cond (bit (nth r5 0))
 ((go k impl_within [(.int .i64 (a3)), (.int .i64 (0 : Int)), (.int .i64 ((100 : Int)))]).bind fun r6 =>
 some [(.bool (bit (nth r6 0)))])
 (some [(.bool (false))]))
 (some [(.bool (false))]))
 (cond (decide (a0 = (7 : Int)))
 ((go k impl_within [(.int .i64 (a1)), (.int .i64 (0 : Int)), (.int .i64 ((127 : Int)))]).bind fun r7 =>
 cond (bit (nth r7 0))
 ((go k impl_within [(.int .i64 (a2)), (.int .i64 ((1 : Int))), (.int .i64 ((10000 : Int)))]).bind fun r8 =>
 cond (bit (nth r8 0))
 ((go k impl_within [(.int .i64 (a3)), (.int .i64 (0 : Int)), (.int .i64 ((1000 : Int)))]).bind fun r9 =>
 some [(.bool (bit (nth r9 0)))])
 (some [(.bool (false))]))
 (some [(.bool (false))]))
 (some [(.bool (false))]))))))
 (cond (decide (a0 = (3 : Int)))
 (cond (decide (a3 = (0 : Int)))
 ((go k impl_isRain [(.int .i64 (a1))]).bind fun r10 =>
 some [(.bool (bit (nth r10 0)))])
 (some [(.bool (false))]))
 (cond (decide (a0 = (4 : Int)))
 ((go k impl_BorderOk [(.agg [(.int .i64 (a1)), (.int .i64 (a2)), (.int .i64 (a3))])]).bind fun r11 =>
 some [(.bool (bit (nth r11 0)))])
 (cond (decide (a0 = (5 : Int)))
 (cond (decide (a3 = (0 : Int)))
 ((go k impl_isRate [(.int .i64 (a1))]).bind fun r12 =>
 some [(.bool (bit (nth r12 0)))])
 (some [(.bool (false))]))
 (cond (decide (a0 = (6 : Int)))
 ((go k impl_within [(.int .i64 (a1)), (.int .i64 (0 : Int)), (.int .i64 ((1000000 : Int)))]).bind fun r13 =>
 cond (bit (nth r13 0))
 ((go k impl_within [(.int .i64 (a2)), (.int .i64 (0 : Int)), (.int .i64 ((1000000 : Int)))]).bind fun r14 =>
 cond (bit (nth r14 0))
 ((go k impl_within [(.int .i64 (a3)), (.int .i64 (0 : Int)), (.int .i64 ((100 : Int)))]).bind fun r15 =>
 some [(.bool (bit (nth r15 0)))])
 (some [(.bool (false))]))
 (some [(.bool (false))]))
 (cond (decide (a0 = (7 : Int)))
 ((go k impl_within [(.int .i64 (a1)), (.int .i64 (0 : Int)), (.int .i64 ((127 : Int)))]).bind fun r16 =>
 cond (bit (nth r16 0))
 ((go k impl_within [(.int .i64 (a2)), (.int .i64 ((1 : Int))), (.int .i64 ((10000 : Int)))]).bind fun r17 =>
 cond (bit (nth r17 0))
 ((go k impl_within [(.int .i64 (a3)), (.int .i64 (0 : Int)), (.int .i64 ((1000 : Int)))]).bind fun r18 =>
 some [(.bool (bit (nth r18 0)))])
 (some [(.bool (false))]))
 (some [(.bool (false))]))
 (some [(.bool (false))]))))))))
 (cond (decide (a0 = (1 : Int)))
 (some [(.bool (false))])
 (cond (decide (a0 = (2 : Int)))
 (cond (decide (a0 = (2 : Int)))
 (some [(.bool (false))])
 (cond (decide (a0 = (4 : Int)))
 ((go k impl_BorderOk [(.agg [(.int .i64 (a1)), (.int .i64 (a2)), (.int .i64 (a3))])]).bind fun r19 =>
 some [(.bool (bit (nth r19 0)))])
 (cond (decide (a0 = (5 : Int)))
 (some [(.bool (false))])
 (cond (decide (a0 = (6 : Int)))
 ((go k impl_within [(.int .i64 (a1)), (.int .i64 (0 : Int)), (.int .i64 ((1000000 : Int)))]).bind fun r20 =>
 cond (bit (nth r20 0))
 ((go k impl_within [(.int .i64 (a2)), (.int .i64 (0 : Int)), (.int .i64 ((1000000 : Int)))]).bind fun r21 =>
 cond (bit (nth r21 0))
 ((go k impl_within [(.int .i64 (a3)), (.int .i64 (0 : Int)), (.int .i64 ((100 : Int)))]).bind fun r22 =>
 some [(.bool (bit (nth r22 0)))])
 (some [(.bool (false))]))
 (some [(.bool (false))]))
 (cond (decide (a0 = (7 : Int)))
 ((go k impl_within [(.int .i64 (a1)), (.int .i64 (0 : Int)), (.int .i64 ((127 : Int)))]).bind fun r23 =>
 cond (bit (nth r23 0))
 ((go k impl_within [(.int .i64 (a2)), (.int .i64 ((1 : Int))), (.int .i64 ((10000 : Int)))]).bind fun r24 =>
 cond (bit (nth r24 0))
 ((go k impl_within [(.int .i64 (a3)), (.int .i64 (0 : Int)), (.int .i64 ((1000 : Int)))]).bind fun r25 =>
 some [(.bool (bit (nth r25 0)))])
 (some [(.bool (false))]))
 (some [(.bool (false))]))
 (some [(.bool (false))]))))))
 (cond (decide (a0 = (3 : Int)))
 (some [(.bool (false))])
 (cond (decide (a0 = (4 : Int)))
 ((go k impl_BorderOk [(.agg [(.int .i64 (a1)), (.int .i64 (a2)), (.int .i64 (a3))])]).bind fun r26 =>
 some [(.bool (bit (nth r26 0)))])
 (cond (decide (a0 = (5 : Int)))
 (some [(.bool (false))])
 (cond (decide (a0 = (6 : Int)))
 ((go k impl_within [(.int .i64 (a1)), (.int .i64 (0 : Int)), (.int .i64 ((1000000 : Int)))]).bind fun r27 =>
 cond (bit (nth r27 0))
 ((go k impl_within [(.int .i64 (a2)), (.int .i64 (0 : Int)), (.int .i64 ((1000000 : Int)))]).bind fun r28 =>
 cond (bit (nth r28 0))
 ((go k impl_within [(.int .i64 (a3)), (.int .i64 (0 : Int)), (.int .i64 ((100 : Int)))]).bind fun r29 =>
 some [(.bool (bit (nth r29 0)))])
 (some [(.bool (false))]))
 (some [(.bool (false))]))
 (cond (decide (a0 = (7 : Int)))
 ((go k impl_within [(.int .i64 (a1)), (.int .i64 (0 : Int)), (.int .i64 ((127 : Int)))]).bind fun r30 =>
 cond (bit (nth r30 0))
 ((go k impl_within [(.int .i64 (a2)), (.int .i64 ((1 : Int))), (.int .i64 ((10000 : Int)))]).bind fun r31 =>
 cond (bit (nth r31 0))
 ((go k impl_within [(.int .i64 (a3)), (.int .i64 (0 : Int)), (.int .i64 ((1000 : Int)))]).bind fun r32 =>
 some [(.bool (bit (nth r32 0)))])
 (some [(.bool (false))]))
 (some [(.bool (false))]))
 (some [(.bool (false))])))))))) := by kernel_rfl
theorem qcd (k : Nat) (a0 a1 a2 a3 : Int) : go (k + 1) spec_l37Plain [(.agg [(.int .i64 (a0)), (.int .i64 (a1)), (.int .i64 (a2)), (.int .i64 (a3))])] =
 cond (decide (a0 = (4 : Int)))
 (some [(.agg [(.int .i64 (a0)), (.int .i64 (a1)), (.int .i64 (a2)), (.int .i64 (a3))])])
 (cond (decide (a0 = (6 : Int)))
 (some [(.agg [(.int .i64 (a0)), (.int .i64 (a1)), (.int .i64 (a2)), (.int .i64 (a3))])])
 (cond (decide (a0 = (7 : Int)))
 (some [(.agg [(.int .i64 (a0)), (.int .i64 (a1)), (.int .i64 (a2)), (.int .i64 (a3))])])
 (some [(.agg [(.int .i64 (a0)), (.int .i64 (a1)), (.int .i64 (0 : Int)), (.int .i64 (0 : Int))])]))) := by kernel_rfl

end Go.Proofs.YtjfjniebmdafeaaDoor
end
section
namespace Go.Proofs.YtjfjniebmdafeaaDoor
open Go.Ev
theorem qcc (k : Nat) (a b c : Int) : go (k + 1) spec_l01In [(.int .i64 (a)), (.int .i64 (b)), (.int .i64 (c))] =
 cond (decide (b ≤ a))
 (some [(.bool (decide (a ≤ c)))])
 (some [(.bool (false))]) := by kernel_rfl
theorem qb4 (k : Nat) (a b c : Int) : go (k + 1) impl_within [(.int .i64 (a)), (.int .i64 (b)), (.int .i64 (c))] =
 cond (decide (b ≤ a))
 (some [(.bool (decide (a ≤ c)))])
 (some [(.bool (false))]) := by kernel_rfl
end Go.Proofs.YtjfjniebmdafeaaDoor
end
section
namespace Go.Proofs.YtjfjniebmdafeaaDoor
open Go.Ev
def inR (a b c : Int) : Bool := decide (b ≤ a) && decide (a ≤ c)
theorem qch {a b c : Int} : inR a b c = true ↔ b ≤ a ∧ a ≤ c := by simp [inR]
theorem qa1 (k : Nat) (hk : 2000000 ≤ k) (a : Int) (b : Int) (c : Int) : go (k + 1) spec_l01In [(.int .i64 (a)), (.int .i64 (b)), (.int .i64 (c))] = some [.bool (inR a b c)] := by
  rw [qcc]; unfold inR; cases decide (b ≤ a) <;> rfl
theorem qav (k : Nat) (hk : 2000000 ≤ k) (a : Int) (b : Int) (c : Int) : go (k + 1) impl_within [(.int .i64 (a)), (.int .i64 (b)), (.int .i64 (c))] = some [.bool (inR a b c)] := by
  rw [qb4]; unfold inR; cases decide (b ≤ a) <;> rfl
def pow2 (l : Int) : Int := 2 ^ l.toNat
def idOk (r l i : Int) : Bool := inR r 0 7 && (inR l 0 4 && (decide (0 ≤ i) && decide (i < pow2 l)))
theorem lev {l : Int} (h : inR l 0 4 = true) : l = 0 ∨ l = 1 ∨ l = 2 ∨ l = 3 ∨ l = 4 := by
  simp only [inR, Bool.and_eq_true, decide_eq_true_eq] at h; omega
theorem p20 : pow2 0 = 1 := rfl
theorem p21 : pow2 1 = 2 := rfl
theorem p22 : pow2 2 = 4 := rfl
theorem p23 : pow2 3 = 8 := rfl
theorem p24 : pow2 4 = 16 := rfl
theorem lev0 {l : Int} (h : inR l 0 4 = true) : 0 ≤ l ∧ l ≤ 4 := by
  simp only [inR, Bool.and_eq_true, decide_eq_true_eq] at h; omega
theorem qc2 {l : Int} (h : inR l 0 4 = true) : 1 ≤ pow2 l ∧ pow2 l ≤ 16 := by
  rcases lev h with rfl | rfl | rfl | rfl | rfl <;> simp [p20, p21, p22, p23, p24]
def qdk (l : Int) : Int := if inR l 0 4 then 16 / pow2 l else 0
def qdb (r l i : Int) : Int := if idOk r l i then r * 16 + i * qdk l else -1
theorem qdm (l : Int) : 0 ≤ qdk l ∧ qdk l ≤ 16 := by
  unfold qdk
  cases h : inR l 0 4
  · simp
  · rcases lev h with rfl | rfl | rfl | rfl | rfl <;> decide
theorem qcg {r l i : Int} (h : idOk r l i = true) : 0 ≤ r ∧ r ≤ 7 ∧ inR l 0 4 = true ∧ 0 ≤ i ∧ i < pow2 l := by
  simp only [idOk, Bool.and_eq_true, decide_eq_true_eq] at h
  obtain ⟨h1, h2, h3, h4⟩ := h
  simp only [inR, Bool.and_eq_true, decide_eq_true_eq] at h1
  exact ⟨h1.1, h1.2, h2, h3, h4⟩
theorem iw {r l i : Int} (h : idOk r l i = true) : 0 ≤ i * qdk l ∧ i * qdk l ≤ 256 := by
  obtain ⟨_, _, h2, h3, h4⟩ := qcg h
  have h5 := (qc2 h2).2
  have h6 := qdm l
  have h7 : i ≤ 16 := by omega
  refine ⟨Int.mul_nonneg h3 h6.1, ?_⟩
  calc i * qdk l ≤ 16 * qdk l := Int.mul_le_mul_of_nonneg_right h7 h6.1
    _ ≤ 16 * 16 := Int.mul_le_mul_of_nonneg_left h6.2 (by omega)
abbrev Cell := Int × Int × Int
def qcs (roots : Int) : Int → List Cell → Bool
  | pos, [] => inR roots 1 8 && decide (pos = roots * 16)
  | pos, x :: rest => idOk x.1 x.2.1 x.2.2 && (decide (qdb x.1 x.2.1 x.2.2 = pos) && qcs roots (qdb x.1 x.2.1 x.2.2 + qdk x.2.1) rest)
end Go.Proofs.YtjfjniebmdafeaaDoor
end
section
namespace Go.Proofs.YtjfjniebmdafeaaDoor
open Go.Ev
abbrev qcp (l : List Cell) (i : Nat) : Int := (l.getD i zz3).2.1
theorem qcv : ∀ (l : List Cell) (r p : Int), qcs r p l = true → ∀ i, 0 ≤ qcp l i ∧ qcp l i ≤ 4
  | [], r, p, h, i => by simp [qcp]
  | x :: l, r, p, h, i => by
    simp only [qcs, Bool.and_eq_true] at h
    cases i with
    | zero => have := lev0 (qcg h.1).2.2.1; simpa [qcp] using this
    | succ i => have := qcv l r _ h.2.2 i; simpa [qcp] using this
def qdi (l : List Cell) : Nat → Nat → Int
  | 0, _ => -1
  | n + 1, i => if 1 < qcp l i - qcp l (i + 1) ∨ qcp l i - qcp l (i + 1) < -1 then (i : Int) else qdi l n (i + 1)
def unb (l : List Cell) : Int := qdi l (l.length - 1) 0
def isum : List Int → Int
  | [] => 0
  | x :: l => x + isum l
def qcq : List Int → List Int → Bool
  | m :: ms, t :: ts => inR m 0 10000000 && (inR t 0 (1000 * m) && qcq ms ts)
  | _, _ => true
theorem qcr : ∀ (ms ts : List Int), ms.length = ts.length → qcq ms ts = true → ∀ i, 0 ≤ ms.getD i 0 ∧ ms.getD i 0 ≤ 10000000 ∧ 0 ≤ ts.getD i 0 ∧ ts.getD i 0 ≤ 1000 * ms.getD i 0
  | [], ts, hl, h, i => by cases ts <;> simp_all
  | m :: ms, [], hl, h, i => by simp at hl
  | m :: ms, t :: ts, hl, h, i => by
    simp only [qcq, Bool.and_eq_true, qch] at h
    cases i with
    | zero => simp; omega
    | succ i => have := qcr ms ts (by simpa using hl) h.2.2 i; simpa using this
def qaj : List Int → Bool
  | [] => true
  | b :: l => inR b 0 1000000 && qaj l
end Go.Proofs.YtjfjniebmdafeaaDoor
end
section
namespace Go.Proofs.YtjfjniebmdafeaaDoor
open Go.Ev
theorem qdl {l : Int} (h : inR l 0 4 = true) : 1 ≤ qdk l ∧ qdk l ≤ 16 := by
  rcases lev h with rfl | rfl | rfl | rfl | rfl <;> decide
theorem qdj {x : Cell} (h : idOk x.1 x.2.1 x.2.2 = true) : qdb x.1 x.2.1 x.2.2 = x.1 * 16 + x.2.2 * qdk x.2.1 ∧ 0 ≤ x.2.2 * qdk x.2.1 ∧ 1 ≤ qdk x.2.1 := by
  have := qcg h
  exact ⟨by simp [qdb, h], (iw h).1, (qdl this.2.2.1).1⟩
theorem qct : ∀ (l : List Cell) (r p : Int), qcs r p l = true → 1 ≤ r ∧ r ≤ 8 ∧ p + l.length ≤ 16 * r ∧ (∀ i, i < l.length → 0 ≤ (l.getD i zz3).1 ∧ (l.getD i zz3).1 < r ∧ idOk (l.getD i zz3).1 (l.getD i zz3).2.1 (l.getD i zz3).2.2 = true) ∧ (l = [] → p = 16 * r)
  | [], r, p, h => by
    simp only [qcs, Bool.and_eq_true, qch, decide_eq_true_eq] at h
    simp; omega
  | x :: l, r, p, h => by
    simp only [qcs, Bool.and_eq_true, decide_eq_true_eq] at h
    obtain ⟨h1, h2, h3⟩ := h
    have w := qdj h1
    have ih := qct l r _ h3
    have ds := qcg h1
    refine ⟨ih.1, ih.2.1, by simp only [List.length_cons]; omega, fun i hi => ?_, by simp⟩
    cases i with
    | zero => simp only [List.getD_cons_zero]; refine ⟨by omega, by omega, h1⟩
    | succ i => simp only [List.getD_cons_succ]; exact ih.2.2.2.1 i (by simpa using hi)
theorem qcu {l : List Cell} {r : Int} (h : qcs r 0 l = true) : 1 ≤ l.length ∧ l.length ≤ 128 := by
  have f := qct l r 0 h
  cases l with
  | nil => have := f.2.2.2.2 rfl; omega
  | cons x l => simp only [List.length_cons] at f ⊢; omega
structure StF (r : Int) (l : List Cell) (m t b : List Int) : Prop where
  mesh : qcs r 0 l = true
  bal : unb l < 0
  ml : m.length = l.length
  tl : t.length = l.length
  bl : (b.length : Int) = r
  mt : qcq m t = true
  bed : qaj b = true
  sum : isum m ≤ 10000000
section
variable {r : Int} {l : List Cell} {m t b : List Int}
theorem StF.len (F : StF r l m t b) : 1 ≤ l.length ∧ l.length ≤ 128 := qcu F.mesh
theorem StF.lev (F : StF r l m t b) (i : Nat) : inR (l.getD i zz3).2.1 0 4 = true := by
  have := qcv l r 0 F.mesh i
  simp only [qcp] at this
  rw [qch]; exact this
theorem StF.at (F : StF r l m t b) (i : Nat) : 0 ≤ m.getD i 0 ∧ m.getD i 0 ≤ 10000000 ∧ 0 ≤ t.getD i 0 ∧ t.getD i 0 ≤ 1000 * m.getD i 0 := qcr m t (by rw [F.ml, F.tl]) F.mt i
end
end Go.Proofs.YtjfjniebmdafeaaDoor
end
section
namespace Go.Proofs.YtjfjniebmdafeaaDoor
open Go.Ev
abbrev ch0 (x : Cell) : Cell := (x.1, x.2.1 + 1, 2 * x.2.2)
abbrev ch1 (x : Cell) : Cell := (x.1, x.2.1 + 1, 2 * x.2.2 + 1)
def qda (l : List Cell) (i : Nat) : List Cell := l.take i ++ ch0 (l.getD i zz3) :: ch1 (l.getD i zz3) :: l.drop (i + 1)
def qbs (l : List Cell) (i : Nat) : Nat := if qcp l (i + 1) < qcp l i then i + 1 else i
def balN : Nat → List Cell → List Cell
  | 0, l => l
  | n + 1, l => if unb l < 0 then l else balN n (qda l (qbs l (unb l).toNat))
def bal (l : List Cell) : List Cell := balN (129 - l.length) l
end Go.Proofs.YtjfjniebmdafeaaDoor
end
section
namespace Go.Proofs.YtjfjniebmdafeaaDoor
open Go.Ev
abbrev S3 := List Cell × List Int × List Int
structure StU (r : Int) (s : S3) (b : List Int) : Prop where
  mesh : qcs r 0 s.1 = true
  ml : s.2.1.length = s.1.length
  tl : s.2.2.length = s.1.length
  bl : (b.length : Int) = r
  mt : qcq s.2.1 s.2.2 = true
  bed : qaj b = true
  sum : isum s.2.1 ≤ 10000000
theorem StU.len {r : Int} {s : S3} {b : List Int} (U : StU r s b) : 1 ≤ s.1.length ∧ s.1.length ≤ 128 := qcu U.mesh
theorem StU.at {r : Int} {s : S3} {b : List Int} (U : StU r s b) (i : Nat) : 0 ≤ s.2.1.getD i 0 ∧ s.2.1.getD i 0 ≤ 10000000 ∧ 0 ≤ s.2.2.getD i 0 ∧ s.2.2.getD i 0 ≤ 1000 * s.2.1.getD i 0 := qcr _ _ (by rw [U.ml, U.tl]) U.mt i
abbrev hB (x : Int) : Int := x / 2
end Go.Proofs.YtjfjniebmdafeaaDoor
end
section
namespace Go.Proofs.YtjfjniebmdafeaaDoor
open Go.Ev
structure Ld where
  mi : Int
  mo : Int
  ti : Int
  ou : Int
def Ld.add (a b : Ld) : Ld := ⟨a.mi + b.mi, a.mo + b.mo, a.ti + b.ti, a.ou + b.ou⟩
section
variable {r : Int} {l : List Cell} {m t b : List Int}
end
section
variable {r : Int} {l : List Cell} {m t b : List Int}
end
end Go.Proofs.YtjfjniebmdafeaaDoor
end
section
namespace Go.Proofs.YtjfjniebmdafeaaDoor
open Go.Ev
theorem qb8 (k : Nat) (a0 a1 a2 : Int) : go (k + 1) spec_BorderOk [(.agg [(.int .i64 (a0)), (.int .i64 (a1)), (.int .i64 (a2))])] =
 (go k spec_l01In [(.int .i64 (a0)), (.int .i64 (0 : Int)), (.int .i64 ((10000 : Int)))]).bind fun r0 =>
 cond (bit (nth r0 0))
 ((go k spec_l01In [(.int .i64 (a1)), (.int .i64 (0 : Int)), (.int .i64 ((1000 : Int)))]).bind fun r1 =>
 cond (bit (nth r1 0))
 ((go k spec_l01In [(.int .i64 (a2)), (.int .i64 (0 : Int)), (.int .i64 ((250 : Int)))]).bind fun r2 =>
 some [(.bool (bit (nth r2 0)))])
 (some [(.bool (false))]))
 (some [(.bool (false))]) := by kernel_rfl
theorem qby (k : Nat) (a0 a1 a2 : Int) : go (k + 1) impl_BorderOk [(.agg [(.int .i64 (a0)), (.int .i64 (a1)), (.int .i64 (a2))])] =
 (go k impl_within [(.int .i64 (a0)), (.int .i64 (0 : Int)), (.int .i64 ((10000 : Int)))]).bind fun r0 =>
 cond (bit (nth r0 0))
 ((go k impl_within [(.int .i64 (a1)), (.int .i64 (0 : Int)), (.int .i64 ((1000 : Int)))]).bind fun r1 =>
 cond (bit (nth r1 0))
 ((go k impl_within [(.int .i64 (a2)), (.int .i64 (0 : Int)), (.int .i64 ((250 : Int)))]).bind fun r2 =>
 some [(.bool (bit (nth r2 0)))])
 (some [(.bool (false))]))
 (some [(.bool (false))]) := by kernel_rfl
theorem qb1 (k : Nat) (a : Int) : go (k + 1) impl_isRain [(.int .i64 (a))] =
 (go k impl_within [(.int .i64 (a)), (.int .i64 (0 : Int)), (.int .i64 ((10000 : Int)))]).bind fun r0 =>
 some [(.bool (bit (nth r0 0)))] := by kernel_rfl
theorem qb2 (k : Nat) (a : Int) : go (k + 1) impl_isRate [(.int .i64 (a))] =
 (go k impl_within [(.int .i64 (a)), (.int .i64 (0 : Int)), (.int .i64 ((1000 : Int)))]).bind fun r0 =>
 some [(.bool (bit (nth r0 0)))] := by kernel_rfl
end Go.Proofs.YtjfjniebmdafeaaDoor
end
section
namespace Go.Proofs.YtjfjniebmdafeaaDoor
open Go.Ev
def qam (a b c : Int) : Bool := inR a 0 10000 && (inR b 0 1000 && inR c 0 250)
theorem qax (k : Nat) (hk : 2000000 ≤ k) (a0 : Int) (a1 : Int) (a2 : Int) : go (k + 2) spec_BorderOk [(.agg [(.int .i64 (a0)), (.int .i64 (a1)), (.int .i64 (a2))])] = some [.bool (qam a0 a1 a2)] := by
  rw [qb8]
  simp (disch := omega) only [qak, nth0, nth1, nth2, nth3, bit, qa4, qa5, qbg, qbl, qbm, qbn, qbo, qbp, qbq, qbr, qa6, qa7, qa8, qa9, qba, qbb, qbc, qbd, qbe, qbf, qbh, qbi, qbj, qbk, qdg, qdf, qdh, qcy, qc3, qc4, qci, qal, qdd, nI, qbu, qbt, Bool.not_true, Bool.not_false, Bool.and_true, Bool.true_and, Bool.and_false, Bool.false_and, Bool.or_true, Bool.true_or, Bool.or_false, Bool.false_or, beq_self_eq_true, dTT, dFF, dT, dF, bigI, big0, qcx, qdo, qdp, List.length_set, List.length_replicate, Int.toNat_natCast, qa2, qa3, imax, imin, qa1, qbv]
  rfl
theorem qap (k : Nat) (hk : 2000000 ≤ k) (a0 : Int) (a1 : Int) (a2 : Int) : go (k + 2) impl_BorderOk [(.agg [(.int .i64 (a0)), (.int .i64 (a1)), (.int .i64 (a2))])] = some [.bool (qam a0 a1 a2)] := by
  rw [qby]
  simp (disch := omega) only [qak, nth0, nth1, nth2, nth3, bit, qa4, qa5, qbg, qbl, qbm, qbn, qbo, qbp, qbq, qbr, qa6, qa7, qa8, qa9, qba, qbb, qbc, qbd, qbe, qbf, qbh, qbi, qbj, qbk, qdg, qdf, qdh, qcy, qc3, qc4, qci, qal, qdd, nI, qbu, qbt, Bool.not_true, Bool.not_false, Bool.and_true, Bool.true_and, Bool.and_false, Bool.false_and, Bool.or_true, Bool.true_or, Bool.or_false, Bool.false_or, beq_self_eq_true, dTT, dFF, dT, dF, bigI, big0, qcx, qdo, qdp, List.length_set, List.length_replicate, Int.toNat_natCast, qa2, qa3, imax, imin, qav, qbv]
  rfl
theorem qas (k : Nat) (hk : 2000000 ≤ k) (a : Int) : go (k + 2) impl_isRain [(.int .i64 (a))] = some [.bool (inR a 0 10000)] := by
  rw [qb1]
  simp (disch := omega) only [qak, nth0, nth1, nth2, nth3, bit, qa4, qa5, qbg, qbl, qbm, qbn, qbo, qbp, qbq, qbr, qa6, qa7, qa8, qa9, qba, qbb, qbc, qbd, qbe, qbf, qbh, qbi, qbj, qbk, qdg, qdf, qdh, qcy, qc3, qc4, qci, qal, qdd, nI, qbu, qbt, Bool.not_true, Bool.not_false, Bool.and_true, Bool.true_and, Bool.and_false, Bool.false_and, Bool.or_true, Bool.true_or, Bool.or_false, Bool.false_or, beq_self_eq_true, dTT, dFF, dT, dF, bigI, big0, qcx, qdo, qdp, List.length_set, List.length_replicate, Int.toNat_natCast, qa2, qa3, imax, imin, qav]
theorem qat (k : Nat) (hk : 2000000 ≤ k) (a : Int) : go (k + 2) impl_isRate [(.int .i64 (a))] = some [.bool (inR a 0 1000)] := by
  rw [qb2]
  simp (disch := omega) only [qak, nth0, nth1, nth2, nth3, bit, qa4, qa5, qbg, qbl, qbm, qbn, qbo, qbp, qbq, qbr, qa6, qa7, qa8, qa9, qba, qbb, qbc, qbd, qbe, qbf, qbh, qbi, qbj, qbk, qdg, qdf, qdh, qcy, qc3, qc4, qci, qal, qdd, nI, qbu, qbt, Bool.not_true, Bool.not_false, Bool.and_true, Bool.true_and, Bool.and_false, Bool.false_and, Bool.or_true, Bool.true_or, Bool.or_false, Bool.false_or, beq_self_eq_true, dTT, dFF, dT, dF, bigI, big0, qcx, qdo, qdp, List.length_set, List.length_replicate, Int.toNat_natCast, qa2, qa3, imax, imin, qav]
end Go.Proofs.YtjfjniebmdafeaaDoor
end
section
namespace Go.Proofs.YtjfjniebmdafeaaDoor
open Go.Ev
theorem qb6 (k : Nat) (a0 a1 a2 a3 : Int) : go (k + 1) laws_toAct [(.agg [(.int .i64 (a0)), (.int .i64 (a1)), (.int .i64 (a2)), (.int .i64 (a3))])] =
 some [(.agg [(.int .i64 (a0)), (.int .i64 (a1)), (.int .i64 (a2)), (.int .i64 (a3))])] := by kernel_rfl
end Go.Proofs.YtjfjniebmdafeaaDoor
end
section
namespace Go.Proofs.YtjfjniebmdafeaaDoor
open Go.Ev
set_option maxRecDepth 20000
def sgl (c d : Int) : Bool := decide (c = 0) && decide (d = 0)
def qac (a b c d : Int) : Bool := cond (decide (a = 1)) (sgl c d && inR b 1 20) (cond (decide (a = 2)) (sgl c d && inR b 0 10000) (cond (decide (a = 3)) (sgl c d && inR b 0 10000) (cond (decide (a = 4)) (qam b c d) (cond (decide (a = 5)) (sgl c d && inR b 0 1000) (cond (decide (a = 6)) (inR b 0 1000000 && (inR c 0 1000000 && inR d 0 100)) (cond (decide (a = 7)) (inR b 0 127 && (inR c 1 10000 && inR d 0 1000)) false))))))
set_option maxHeartbeats 2000000 in
theorem qao (k : Nat) (hk : 2000000 ≤ k) (a0 : Int) (a1 : Int) (a2 : Int) (a3 : Int) : go (k + 3) impl_ActOk [(.agg [(.int .i64 (a0)), (.int .i64 (a1)), (.int .i64 (a2)), (.int .i64 (a3))])] = some [.bool (qac a0 a1 a2 a3)] := by
  rw [qbx]
  unfold qac sgl
  by_cases hc : a2 = 0 <;> by_cases hd : a3 = 0
  all_goals
    by_cases h1 : a0 = 1
    · simp (disch := omega) only [qak, nth0, nth1, nth2, nth3, bit, qa4, qa5, qbg, qbl, qbm, qbn, qbo, qbp, qbq, qbr, qa6, qa7, qa8, qa9, qba, qbb, qbc, qbd, qbe, qbf, qbh, qbi, qbj, qbk, qdg, qdf, qdh, qcy, qc3, qc4, qci, qal, qdd, nI, qbu, qbt, Bool.not_true, Bool.not_false, Bool.and_true, Bool.true_and, Bool.and_false, Bool.false_and, Bool.or_true, Bool.true_or, Bool.or_false, Bool.false_or, beq_self_eq_true, dTT, dFF, dT, dF, bigI, big0, qcx, qdo, qdp, List.length_set, List.length_replicate, Int.toNat_natCast, qa2, qa3, imax, imin, qav]
    by_cases h2 : a0 = 2
    · simp (disch := omega) only [qak, nth0, nth1, nth2, nth3, bit, qa4, qa5, qbg, qbl, qbm, qbn, qbo, qbp, qbq, qbr, qa6, qa7, qa8, qa9, qba, qbb, qbc, qbd, qbe, qbf, qbh, qbi, qbj, qbk, qdg, qdf, qdh, qcy, qc3, qc4, qci, qal, qdd, nI, qbu, qbt, Bool.not_true, Bool.not_false, Bool.and_true, Bool.true_and, Bool.and_false, Bool.false_and, Bool.or_true, Bool.true_or, Bool.or_false, Bool.false_or, beq_self_eq_true, dTT, dFF, dT, dF, bigI, big0, qcx, qdo, qdp, List.length_set, List.length_replicate, Int.toNat_natCast, qa2, qa3, imax, imin, qas]
    by_cases h3 : a0 = 3
    · simp (disch := omega) only [qak, nth0, nth1, nth2, nth3, bit, qa4, qa5, qbg, qbl, qbm, qbn, qbo, qbp, qbq, qbr, qa6, qa7, qa8, qa9, qba, qbb, qbc, qbd, qbe, qbf, qbh, qbi, qbj, qbk, qdg, qdf, qdh, qcy, qc3, qc4, qci, qal, qdd, nI, qbu, qbt, Bool.not_true, Bool.not_false, Bool.and_true, Bool.true_and, Bool.and_false, Bool.false_and, Bool.or_true, Bool.true_or, Bool.or_false, Bool.false_or, beq_self_eq_true, dTT, dFF, dT, dF, bigI, big0, qcx, qdo, qdp, List.length_set, List.length_replicate, Int.toNat_natCast, qa2, qa3, imax, imin, qas]
    by_cases h4 : a0 = 4
    · simp (disch := omega) only [qak, nth0, nth1, nth2, nth3, bit, qa4, qa5, qbg, qbl, qbm, qbn, qbo, qbp, qbq, qbr, qa6, qa7, qa8, qa9, qba, qbb, qbc, qbd, qbe, qbf, qbh, qbi, qbj, qbk, qdg, qdf, qdh, qcy, qc3, qc4, qci, qal, qdd, nI, qbu, qbt, Bool.not_true, Bool.not_false, Bool.and_true, Bool.true_and, Bool.and_false, Bool.false_and, Bool.or_true, Bool.true_or, Bool.or_false, Bool.false_or, beq_self_eq_true, dTT, dFF, dT, dF, bigI, big0, qcx, qdo, qdp, List.length_set, List.length_replicate, Int.toNat_natCast, qa2, qa3, imax, imin, qap]
    by_cases h5 : a0 = 5
    · simp (disch := omega) only [qak, nth0, nth1, nth2, nth3, bit, qa4, qa5, qbg, qbl, qbm, qbn, qbo, qbp, qbq, qbr, qa6, qa7, qa8, qa9, qba, qbb, qbc, qbd, qbe, qbf, qbh, qbi, qbj, qbk, qdg, qdf, qdh, qcy, qc3, qc4, qci, qal, qdd, nI, qbu, qbt, Bool.not_true, Bool.not_false, Bool.and_true, Bool.true_and, Bool.and_false, Bool.false_and, Bool.or_true, Bool.true_or, Bool.or_false, Bool.false_or, beq_self_eq_true, dTT, dFF, dT, dF, bigI, big0, qcx, qdo, qdp, List.length_set, List.length_replicate, Int.toNat_natCast, qa2, qa3, imax, imin, qat]
    by_cases h6 : a0 = 6
    · simp (disch := omega) only [qak, nth0, nth1, nth2, nth3, bit, qa4, qa5, qbg, qbl, qbm, qbn, qbo, qbp, qbq, qbr, qa6, qa7, qa8, qa9, qba, qbb, qbc, qbd, qbe, qbf, qbh, qbi, qbj, qbk, qdg, qdf, qdh, qcy, qc3, qc4, qci, qal, qdd, nI, qbu, qbt, Bool.not_true, Bool.not_false, Bool.and_true, Bool.true_and, Bool.and_false, Bool.false_and, Bool.or_true, Bool.true_or, Bool.or_false, Bool.false_or, beq_self_eq_true, dTT, dFF, dT, dF, bigI, big0, qcx, qdo, qdp, List.length_set, List.length_replicate, Int.toNat_natCast, qa2, qa3, imax, imin, qav, qbv]
    by_cases h7 : a0 = 7
    · simp (disch := omega) only [qak, nth0, nth1, nth2, nth3, bit, qa4, qa5, qbg, qbl, qbm, qbn, qbo, qbp, qbq, qbr, qa6, qa7, qa8, qa9, qba, qbb, qbc, qbd, qbe, qbf, qbh, qbi, qbj, qbk, qdg, qdf, qdh, qcy, qc3, qc4, qci, qal, qdd, nI, qbu, qbt, Bool.not_true, Bool.not_false, Bool.and_true, Bool.true_and, Bool.and_false, Bool.false_and, Bool.or_true, Bool.true_or, Bool.or_false, Bool.false_or, beq_self_eq_true, dTT, dFF, dT, dF, bigI, big0, qcx, qdo, qdp, List.length_set, List.length_replicate, Int.toNat_natCast, qa2, qa3, imax, imin, qav, qbv]
    simp (disch := omega) only [qak, nth0, nth1, nth2, nth3, bit, qa4, qa5, qbg, qbl, qbm, qbn, qbo, qbp, qbq, qbr, qa6, qa7, qa8, qa9, qba, qbb, qbc, qbd, qbe, qbf, qbh, qbi, qbj, qbk, qdg, qdf, qdh, qcy, qc3, qc4, qci, qal, qdd, nI, qbu, qbt, Bool.not_true, Bool.not_false, Bool.and_true, Bool.true_and, Bool.and_false, Bool.false_and, Bool.or_true, Bool.true_or, Bool.or_false, Bool.false_or, beq_self_eq_true, dTT, dFF, dT, dF, bigI, big0, qcx, qdo, qdp, List.length_set, List.length_replicate, Int.toNat_natCast, qa2, qa3, imax, imin]
set_option maxHeartbeats 2000000 in
theorem qaw (k : Nat) (hk : 2000000 ≤ k) (a0 : Int) (a1 : Int) (a2 : Int) (a3 : Int) : go (k + 3) spec_ActOk [(.agg [(.int .i64 (a0)), (.int .i64 (a1)), (.int .i64 (a2)), (.int .i64 (a3))])] = some [.bool (qac a0 a1 a2 a3)] := by
  rw [qb7]
  unfold qac sgl
  by_cases hc : a2 = 0 <;> by_cases hd : a3 = 0
  all_goals
    by_cases h1 : a0 = 1
    · simp (disch := omega) only [qak, nth0, nth1, nth2, nth3, bit, qa4, qa5, qbg, qbl, qbm, qbn, qbo, qbp, qbq, qbr, qa6, qa7, qa8, qa9, qba, qbb, qbc, qbd, qbe, qbf, qbh, qbi, qbj, qbk, qdg, qdf, qdh, qcy, qc3, qc4, qci, qal, qdd, nI, qbu, qbt, Bool.not_true, Bool.not_false, Bool.and_true, Bool.true_and, Bool.and_false, Bool.false_and, Bool.or_true, Bool.true_or, Bool.or_false, Bool.false_or, beq_self_eq_true, dTT, dFF, dT, dF, bigI, big0, qcx, qdo, qdp, List.length_set, List.length_replicate, Int.toNat_natCast, qa2, qa3, imax, imin, qcd, qa1]
    by_cases h2 : a0 = 2
    · simp (disch := omega) only [qak, nth0, nth1, nth2, nth3, bit, qa4, qa5, qbg, qbl, qbm, qbn, qbo, qbp, qbq, qbr, qa6, qa7, qa8, qa9, qba, qbb, qbc, qbd, qbe, qbf, qbh, qbi, qbj, qbk, qdg, qdf, qdh, qcy, qc3, qc4, qci, qal, qdd, nI, qbu, qbt, Bool.not_true, Bool.not_false, Bool.and_true, Bool.true_and, Bool.and_false, Bool.false_and, Bool.or_true, Bool.true_or, Bool.or_false, Bool.false_or, beq_self_eq_true, dTT, dFF, dT, dF, bigI, big0, qcx, qdo, qdp, List.length_set, List.length_replicate, Int.toNat_natCast, qa2, qa3, imax, imin, qcd, qa1]
    by_cases h3 : a0 = 3
    · simp (disch := omega) only [qak, nth0, nth1, nth2, nth3, bit, qa4, qa5, qbg, qbl, qbm, qbn, qbo, qbp, qbq, qbr, qa6, qa7, qa8, qa9, qba, qbb, qbc, qbd, qbe, qbf, qbh, qbi, qbj, qbk, qdg, qdf, qdh, qcy, qc3, qc4, qci, qal, qdd, nI, qbu, qbt, Bool.not_true, Bool.not_false, Bool.and_true, Bool.true_and, Bool.and_false, Bool.false_and, Bool.or_true, Bool.true_or, Bool.or_false, Bool.false_or, beq_self_eq_true, dTT, dFF, dT, dF, bigI, big0, qcx, qdo, qdp, List.length_set, List.length_replicate, Int.toNat_natCast, qa2, qa3, imax, imin, qcd, qa1]
    by_cases h4 : a0 = 4
    · simp (disch := omega) only [qak, nth0, nth1, nth2, nth3, bit, qa4, qa5, qbg, qbl, qbm, qbn, qbo, qbp, qbq, qbr, qa6, qa7, qa8, qa9, qba, qbb, qbc, qbd, qbe, qbf, qbh, qbi, qbj, qbk, qdg, qdf, qdh, qcy, qc3, qc4, qci, qal, qdd, nI, qbu, qbt, Bool.not_true, Bool.not_false, Bool.and_true, Bool.true_and, Bool.and_false, Bool.false_and, Bool.or_true, Bool.true_or, Bool.or_false, Bool.false_or, beq_self_eq_true, dTT, dFF, dT, dF, bigI, big0, qcx, qdo, qdp, List.length_set, List.length_replicate, Int.toNat_natCast, qa2, qa3, imax, imin, qcd, qax]
    by_cases h5 : a0 = 5
    · simp (disch := omega) only [qak, nth0, nth1, nth2, nth3, bit, qa4, qa5, qbg, qbl, qbm, qbn, qbo, qbp, qbq, qbr, qa6, qa7, qa8, qa9, qba, qbb, qbc, qbd, qbe, qbf, qbh, qbi, qbj, qbk, qdg, qdf, qdh, qcy, qc3, qc4, qci, qal, qdd, nI, qbu, qbt, Bool.not_true, Bool.not_false, Bool.and_true, Bool.true_and, Bool.and_false, Bool.false_and, Bool.or_true, Bool.true_or, Bool.or_false, Bool.false_or, beq_self_eq_true, dTT, dFF, dT, dF, bigI, big0, qcx, qdo, qdp, List.length_set, List.length_replicate, Int.toNat_natCast, qa2, qa3, imax, imin, qcd, qa1]
    by_cases h6 : a0 = 6
    · simp (disch := omega) only [qak, nth0, nth1, nth2, nth3, bit, qa4, qa5, qbg, qbl, qbm, qbn, qbo, qbp, qbq, qbr, qa6, qa7, qa8, qa9, qba, qbb, qbc, qbd, qbe, qbf, qbh, qbi, qbj, qbk, qdg, qdf, qdh, qcy, qc3, qc4, qci, qal, qdd, nI, qbu, qbt, Bool.not_true, Bool.not_false, Bool.and_true, Bool.true_and, Bool.and_false, Bool.false_and, Bool.or_true, Bool.true_or, Bool.or_false, Bool.false_or, beq_self_eq_true, dTT, dFF, dT, dF, bigI, big0, qcx, qdo, qdp, List.length_set, List.length_replicate, Int.toNat_natCast, qa2, qa3, imax, imin, qcd, qa1, qbv]
    by_cases h7 : a0 = 7
    · simp (disch := omega) only [qak, nth0, nth1, nth2, nth3, bit, qa4, qa5, qbg, qbl, qbm, qbn, qbo, qbp, qbq, qbr, qa6, qa7, qa8, qa9, qba, qbb, qbc, qbd, qbe, qbf, qbh, qbi, qbj, qbk, qdg, qdf, qdh, qcy, qc3, qc4, qci, qal, qdd, nI, qbu, qbt, Bool.not_true, Bool.not_false, Bool.and_true, Bool.true_and, Bool.and_false, Bool.false_and, Bool.or_true, Bool.true_or, Bool.or_false, Bool.false_or, beq_self_eq_true, dTT, dFF, dT, dF, bigI, big0, qcx, qdo, qdp, List.length_set, List.length_replicate, Int.toNat_natCast, qa2, qa3, imax, imin, qcd, qa1, qbv]
    simp (disch := omega) only [qak, nth0, nth1, nth2, nth3, bit, qa4, qa5, qbg, qbl, qbm, qbn, qbo, qbp, qbq, qbr, qa6, qa7, qa8, qa9, qba, qbb, qbc, qbd, qbe, qbf, qbh, qbi, qbj, qbk, qdg, qdf, qdh, qcy, qc3, qc4, qci, qal, qdd, nI, qbu, qbt, Bool.not_true, Bool.not_false, Bool.and_true, Bool.true_and, Bool.and_false, Bool.false_and, Bool.or_true, Bool.true_or, Bool.or_false, Bool.false_or, beq_self_eq_true, dTT, dFF, dT, dF, bigI, big0, qcx, qdo, qdp, List.length_set, List.length_replicate, Int.toNat_natCast, qa2, qa3, imax, imin, qcd]
end Go.Proofs.YtjfjniebmdafeaaDoor
end
section
namespace Go.Proofs.YtjfjniebmdafeaaDoor
open Go.Ev
set_option maxRecDepth 20000
def nmB (a : Int) : List UInt8 := if a = 1 then [114, 117, 110] else if a = 2 then [114, 97, 105, 110] else if a = 3 then [108, 111, 115, 115] else if a = 4 then [102, 108, 111, 119] else if a = 5 then [100, 101, 99, 97, 121] else if a = 6 then [109, 101, 115, 104] else [100, 114, 111, 112]
def actL (a b c d : Int) : List UInt8 := if a = 4 ∨ a = 6 ∨ a = 7 then spacedL (nmB a) [b, c, d] else spacedL (nmB a) [b]
theorem qaf {a : Int} (h : 1 ≤ a ∧ a ≤ 7) : a = 1 ∨ a = 2 ∨ a = 3 ∨ a = 4 ∨ a = 5 ∨ a = 6 ∨ a = 7 := by omega
theorem qae {a b c d : Int} (h : qac a b c d = true) : 1 ≤ a ∧ a ≤ 7 := by
  unfold qac at h
  refine Classical.byContradiction fun hh => ?_
  have n1 : ¬ a = 1 := by omega
  have n2 : ¬ a = 2 := by omega
  have n3 : ¬ a = 3 := by omega
  have n4 : ¬ a = 4 := by omega
  have n5 : ¬ a = 5 := by omega
  have n6 : ¬ a = 6 := by omega
  have n7 : ¬ a = 7 := by omega
  simp [n1, n2, n3, n4, n5, n6, n7] at h
theorem qad {a b c d : Int} (h : qac a b c d = true) : (1 ≤ a ∧ a ≤ 7) ∧ (0 ≤ b ∧ b ≤ 1000000) ∧ (0 ≤ c ∧ c ≤ 1000000) ∧ 0 ≤ d ∧ d ≤ 1000000 := by
  have k := qae h
  refine ⟨k, ?_⟩
  rcases qaf k with rfl | rfl | rfl | rfl | rfl | rfl | rfl <;> simp [qac, sgl, qam, inR] at h <;> omega
theorem in64 {x : Int} (h : 0 ≤ x ∧ x ≤ 1000000) : inI64 x = true := by
  unfold inI64; rw [decide_eq_true (by omega : -9223372036854775808 ≤ x), decide_eq_true (by omega : x ≤ 9223372036854775807)]; rfl
theorem y1 : ({ data := #[(32 : UInt8)] } : ByteArray) = ba [32] := Eq.trans rfl rfl
theorem y2 : ({ data := #[(114 : UInt8), (117 : UInt8), (110 : UInt8)] } : ByteArray) = ba [114, 117, 110] := Eq.trans rfl rfl
theorem y3 : ({ data := #[(114 : UInt8), (97 : UInt8), (105 : UInt8), (110 : UInt8)] } : ByteArray) = ba [114, 97, 105, 110] := Eq.trans rfl rfl
theorem y4 : ({ data := #[(108 : UInt8), (111 : UInt8), (115 : UInt8), (115 : UInt8)] } : ByteArray) = ba [108, 111, 115, 115] := Eq.trans rfl rfl
theorem y5 : ({ data := #[(102 : UInt8), (108 : UInt8), (111 : UInt8), (119 : UInt8)] } : ByteArray) = ba [102, 108, 111, 119] := Eq.trans rfl rfl
theorem y6 : ({ data := #[(100 : UInt8), (101 : UInt8), (99 : UInt8), (97 : UInt8), (121 : UInt8)] } : ByteArray) = ba [100, 101, 99, 97, 121] := Eq.trans rfl rfl
theorem y7 : ({ data := #[(109 : UInt8), (101 : UInt8), (115 : UInt8), (104 : UInt8)] } : ByteArray) = ba [109, 101, 115, 104] := Eq.trans rfl rfl
theorem y8 : ({ data := #[(100 : UInt8), (114 : UInt8), (111 : UInt8), (112 : UInt8)] } : ByteArray) = ba [100, 114, 111, 112] := Eq.trans rfl rfl
theorem y0 : ({ data := #[] } : ByteArray) = ba [] := Eq.trans rfl rfl
theorem qaz (k : Nat) (hk : 2000000 ≤ k) (a b c d : Int) : go (k + 4) spec_FormatAct [.agg [.int .i64 a, .int .i64 b, .int .i64 c, .int .i64 d]] = cond (qac a b c d) (some [.str (ba (actL a b c d)), .bool true]) (some [.str (ba []), .bool false]) := by
  rw [qb9]
  cases g : qac a b c d
  · simp (disch := omega) only [qak, nth0, nth1, nth2, nth3, bit, qa4, qa5, qbg, qbl, qbm, qbn, qbo, qbp, qbq, qbr, qa6, qa7, qa8, qa9, qba, qbb, qbc, qbd, qbe, qbf, qbh, qbi, qbj, qbk, qdg, qdf, qdh, qcy, qc3, qc4, qci, qal, qdd, nI, qbu, qbt, Bool.not_true, Bool.not_false, Bool.and_true, Bool.true_and, Bool.and_false, Bool.false_and, Bool.or_true, Bool.true_or, Bool.or_false, Bool.false_or, beq_self_eq_true, dTT, dFF, dT, dF, bigI, big0, qcx, qdo, qdp, List.length_set, List.length_replicate, Int.toNat_natCast, qa2, qa3, imax, imin, qaw, g, y0]
  have bd := qad g
  have sb := qck b (in64 bd.2.1); have sc := qck c (in64 bd.2.2.1); have sd := qck d (in64 bd.2.2.2)
  have fb := qa0 (k + 1) (by omega) b (in64 bd.2.1)
  have fc := qa0 (k + 1) (by omega) c (in64 bd.2.2.1)
  have fd := qa0 (k + 1) (by omega) d (in64 bd.2.2.2)
  rcases qaf bd.1 with h | h | h | h | h | h | h
  · have e : actL a b c d = [114, 117, 110] ++ ([32] ++ Lib.itoa b) := by subst h; simp [actL, nmB, spacedL]
    rw [e]
    simp (disch := omega) only [qak, nth0, nth1, nth2, nth3, bit, qa4, qa5, qbg, qbl, qbm, qbn, qbo, qbp, qbq, qbr, qa6, qa7, qa8, qa9, qba, qbb, qbc, qbd, qbe, qbf, qbh, qbi, qbj, qbk, qdg, qdf, qdh, qcy, qc3, qc4, qci, qal, qdd, nI, qbu, qbt, Bool.not_true, Bool.not_false, Bool.and_true, Bool.true_and, Bool.and_false, Bool.false_and, Bool.or_true, Bool.true_or, Bool.or_false, Bool.false_or, beq_self_eq_true, dTT, dFF, dT, dF, bigI, big0, qcx, qdo, qdp, List.length_set, List.length_replicate, Int.toNat_natCast, qa2, qa3, imax, imin, qaw, g, fb, fc, fd, y1, y2, y3, y4, y5, y6, y7, y8, qag, qai, List.length_append, List.length_cons, List.length_nil]
  · have e : actL a b c d = [114, 97, 105, 110] ++ ([32] ++ Lib.itoa b) := by subst h; simp [actL, nmB, spacedL]
    rw [e]
    simp (disch := omega) only [qak, nth0, nth1, nth2, nth3, bit, qa4, qa5, qbg, qbl, qbm, qbn, qbo, qbp, qbq, qbr, qa6, qa7, qa8, qa9, qba, qbb, qbc, qbd, qbe, qbf, qbh, qbi, qbj, qbk, qdg, qdf, qdh, qcy, qc3, qc4, qci, qal, qdd, nI, qbu, qbt, Bool.not_true, Bool.not_false, Bool.and_true, Bool.true_and, Bool.and_false, Bool.false_and, Bool.or_true, Bool.true_or, Bool.or_false, Bool.false_or, beq_self_eq_true, dTT, dFF, dT, dF, bigI, big0, qcx, qdo, qdp, List.length_set, List.length_replicate, Int.toNat_natCast, qa2, qa3, imax, imin, qaw, g, fb, fc, fd, y1, y2, y3, y4, y5, y6, y7, y8, qag, qai, List.length_append, List.length_cons, List.length_nil]
  · have e : actL a b c d = [108, 111, 115, 115] ++ ([32] ++ Lib.itoa b) := by subst h; simp [actL, nmB, spacedL]
    rw [e]
    simp (disch := omega) only [qak, nth0, nth1, nth2, nth3, bit, qa4, qa5, qbg, qbl, qbm, qbn, qbo, qbp, qbq, qbr, qa6, qa7, qa8, qa9, qba, qbb, qbc, qbd, qbe, qbf, qbh, qbi, qbj, qbk, qdg, qdf, qdh, qcy, qc3, qc4, qci, qal, qdd, nI, qbu, qbt, Bool.not_true, Bool.not_false, Bool.and_true, Bool.true_and, Bool.and_false, Bool.false_and, Bool.or_true, Bool.true_or, Bool.or_false, Bool.false_or, beq_self_eq_true, dTT, dFF, dT, dF, bigI, big0, qcx, qdo, qdp, List.length_set, List.length_replicate, Int.toNat_natCast, qa2, qa3, imax, imin, qaw, g, fb, fc, fd, y1, y2, y3, y4, y5, y6, y7, y8, qag, qai, List.length_append, List.length_cons, List.length_nil]
  · have e : actL a b c d = [102, 108, 111, 119] ++ ([32] ++ Lib.itoa b ++ [32] ++ Lib.itoa c ++ [32] ++ Lib.itoa d) := by subst h; simp [actL, nmB, spacedL]
    rw [e]
    simp (disch := omega) only [qak, nth0, nth1, nth2, nth3, bit, qa4, qa5, qbg, qbl, qbm, qbn, qbo, qbp, qbq, qbr, qa6, qa7, qa8, qa9, qba, qbb, qbc, qbd, qbe, qbf, qbh, qbi, qbj, qbk, qdg, qdf, qdh, qcy, qc3, qc4, qci, qal, qdd, nI, qbu, qbt, Bool.not_true, Bool.not_false, Bool.and_true, Bool.true_and, Bool.and_false, Bool.false_and, Bool.or_true, Bool.true_or, Bool.or_false, Bool.false_or, beq_self_eq_true, dTT, dFF, dT, dF, bigI, big0, qcx, qdo, qdp, List.length_set, List.length_replicate, Int.toNat_natCast, qa2, qa3, imax, imin, qaw, g, fb, fc, fd, y1, y2, y3, y4, y5, y6, y7, y8, qag, qai, List.length_append, List.length_cons, List.length_nil]
  · have e : actL a b c d = [100, 101, 99, 97, 121] ++ ([32] ++ Lib.itoa b) := by subst h; simp [actL, nmB, spacedL]
    rw [e]
    simp (disch := omega) only [qak, nth0, nth1, nth2, nth3, bit, qa4, qa5, qbg, qbl, qbm, qbn, qbo, qbp, qbq, qbr, qa6, qa7, qa8, qa9, qba, qbb, qbc, qbd, qbe, qbf, qbh, qbi, qbj, qbk, qdg, qdf, qdh, qcy, qc3, qc4, qci, qal, qdd, nI, qbu, qbt, Bool.not_true, Bool.not_false, Bool.and_true, Bool.true_and, Bool.and_false, Bool.false_and, Bool.or_true, Bool.true_or, Bool.or_false, Bool.false_or, beq_self_eq_true, dTT, dFF, dT, dF, bigI, big0, qcx, qdo, qdp, List.length_set, List.length_replicate, Int.toNat_natCast, qa2, qa3, imax, imin, qaw, g, fb, fc, fd, y1, y2, y3, y4, y5, y6, y7, y8, qag, qai, List.length_append, List.length_cons, List.length_nil]
  · have e : actL a b c d = [109, 101, 115, 104] ++ ([32] ++ Lib.itoa b ++ [32] ++ Lib.itoa c ++ [32] ++ Lib.itoa d) := by subst h; simp [actL, nmB, spacedL]
    rw [e]
    simp (disch := omega) only [qak, nth0, nth1, nth2, nth3, bit, qa4, qa5, qbg, qbl, qbm, qbn, qbo, qbp, qbq, qbr, qa6, qa7, qa8, qa9, qba, qbb, qbc, qbd, qbe, qbf, qbh, qbi, qbj, qbk, qdg, qdf, qdh, qcy, qc3, qc4, qci, qal, qdd, nI, qbu, qbt, Bool.not_true, Bool.not_false, Bool.and_true, Bool.true_and, Bool.and_false, Bool.false_and, Bool.or_true, Bool.true_or, Bool.or_false, Bool.false_or, beq_self_eq_true, dTT, dFF, dT, dF, bigI, big0, qcx, qdo, qdp, List.length_set, List.length_replicate, Int.toNat_natCast, qa2, qa3, imax, imin, qaw, g, fb, fc, fd, y1, y2, y3, y4, y5, y6, y7, y8, qag, qai, List.length_append, List.length_cons, List.length_nil]
  · have e : actL a b c d = [100, 114, 111, 112] ++ ([32] ++ Lib.itoa b ++ [32] ++ Lib.itoa c ++ [32] ++ Lib.itoa d) := by subst h; simp [actL, nmB, spacedL]
    rw [e]
    simp (disch := omega) only [qak, nth0, nth1, nth2, nth3, bit, qa4, qa5, qbg, qbl, qbm, qbn, qbo, qbp, qbq, qbr, qa6, qa7, qa8, qa9, qba, qbb, qbc, qbd, qbe, qbf, qbh, qbi, qbj, qbk, qdg, qdf, qdh, qcy, qc3, qc4, qci, qal, qdd, nI, qbu, qbt, Bool.not_true, Bool.not_false, Bool.and_true, Bool.true_and, Bool.and_false, Bool.false_and, Bool.or_true, Bool.true_or, Bool.or_false, Bool.false_or, beq_self_eq_true, dTT, dFF, dT, dF, bigI, big0, qcx, qdo, qdp, List.length_set, List.length_replicate, Int.toNat_natCast, qa2, qa3, imax, imin, qaw, g, fb, fc, fd, y1, y2, y3, y4, y5, y6, y7, y8, qag, qai, List.length_append, List.length_cons, List.length_nil]
def NM : List ByteArray := [ba [], ba [114, 117, 110], ba [114, 97, 105, 110], ba [108, 111, 115, 115], ba [102, 108, 111, 119], ba [100, 101, 99, 97, 121], ba [109, 101, 115, 104], ba [100, 114, 111, 112]]
theorem qab : NM.length = 8 := Eq.trans rfl rfl
theorem qaa {a : Int} (h : 1 ≤ a ∧ a ≤ 7) : List.getD NM (Int.toNat a) ByteArray.empty = ba (nmB a) := by
  rcases qaf h with rfl | rfl | rfl | rfl | rfl | rfl | rfl <;> rfl
theorem qcz (a : Int) : ByteArray.size (ba (nmB a)) ≤ 1000 := by
  rw [qai]; unfold nmB
  repeat' split
  all_goals simp
theorem qar (k : Nat) : go (k + 1) impl_actNames [] = some [.arr true false (.strs NM)] := by
  rw [qb0]; rfl
theorem qaq (k : Nat) (hk : 2000000 ≤ k) (a b c d : Int) : go (k + 4) impl_FormatAct [.agg [.int .i64 a, .int .i64 b, .int .i64 c, .int .i64 d]] = cond (qac a b c d) (some [.str (ba (actL a b c d)), .bool true]) (some [.str (ba []), .bool false]) := by
  rw [qbz]
  cases g : qac a b c d
  · simp (disch := omega) only [qak, nth0, nth1, nth2, nth3, bit, qa4, qa5, qbg, qbl, qbm, qbn, qbo, qbp, qbq, qbr, qa6, qa7, qa8, qa9, qba, qbb, qbc, qbd, qbe, qbf, qbh, qbi, qbj, qbk, qdg, qdf, qdh, qcy, qc3, qc4, qci, qal, qdd, nI, qbu, qbt, Bool.not_true, Bool.not_false, Bool.and_true, Bool.true_and, Bool.and_false, Bool.false_and, Bool.or_true, Bool.true_or, Bool.or_false, Bool.false_or, beq_self_eq_true, dTT, dFF, dT, dF, bigI, big0, qcx, qdo, qdp, List.length_set, List.length_replicate, Int.toNat_natCast, qa2, qa3, imax, imin, qao, g, y0]
  have bd := qad g
  have na := qaa bd.1
  have nl : ((NM.length : Nat) : Int) = 8 := by rw [qab]; rfl
  have s1 := qau (k + 2) (ba (nmB a)) false [b] (qcz a) (by simp) (by simp [in64 bd.2.1])
  have s3 := qau (k + 2) (ba (nmB a)) false [b, c, d] (qcz a) (by simp) (by simp [in64 bd.2.1, in64 bd.2.2.1, in64 bd.2.2.2])
  rw [qah] at s1 s3
  by_cases h : a = 4 ∨ a = 6 ∨ a = 7
  · have e : actL a b c d = spacedL (nmB a) [b, c, d] := if_pos h
    rw [e]
    rcases h with h | h | h
    · simp (disch := omega) only [qak, nth0, nth1, nth2, nth3, bit, qa4, qa5, qbg, qbl, qbm, qbn, qbo, qbp, qbq, qbr, qa6, qa7, qa8, qa9, qba, qbb, qbc, qbd, qbe, qbf, qbh, qbi, qbj, qbk, qdg, qdf, qdh, qcy, qc3, qc4, qci, qal, qdd, nI, qbu, qbt, Bool.not_true, Bool.not_false, Bool.and_true, Bool.true_and, Bool.and_false, Bool.false_and, Bool.or_true, Bool.true_or, Bool.or_false, Bool.false_or, beq_self_eq_true, dTT, dFF, dT, dF, bigI, big0, qcx, qdo, qdp, List.length_set, List.length_replicate, Int.toNat_natCast, qa2, qa3, imax, imin, qao, g, qb3, qar, na, nl, s3, qdd]
    · simp (disch := omega) only [qak, nth0, nth1, nth2, nth3, bit, qa4, qa5, qbg, qbl, qbm, qbn, qbo, qbp, qbq, qbr, qa6, qa7, qa8, qa9, qba, qbb, qbc, qbd, qbe, qbf, qbh, qbi, qbj, qbk, qdg, qdf, qdh, qcy, qc3, qc4, qci, qal, qdd, nI, qbu, qbt, Bool.not_true, Bool.not_false, Bool.and_true, Bool.true_and, Bool.and_false, Bool.false_and, Bool.or_true, Bool.true_or, Bool.or_false, Bool.false_or, beq_self_eq_true, dTT, dFF, dT, dF, bigI, big0, qcx, qdo, qdp, List.length_set, List.length_replicate, Int.toNat_natCast, qa2, qa3, imax, imin, qao, g, qb3, qar, na, nl, s3, qdd]
    · simp (disch := omega) only [qak, nth0, nth1, nth2, nth3, bit, qa4, qa5, qbg, qbl, qbm, qbn, qbo, qbp, qbq, qbr, qa6, qa7, qa8, qa9, qba, qbb, qbc, qbd, qbe, qbf, qbh, qbi, qbj, qbk, qdg, qdf, qdh, qcy, qc3, qc4, qci, qal, qdd, nI, qbu, qbt, Bool.not_true, Bool.not_false, Bool.and_true, Bool.true_and, Bool.and_false, Bool.false_and, Bool.or_true, Bool.true_or, Bool.or_false, Bool.false_or, beq_self_eq_true, dTT, dFF, dT, dF, bigI, big0, qcx, qdo, qdp, List.length_set, List.length_replicate, Int.toNat_natCast, qa2, qa3, imax, imin, qao, g, qb3, qar, na, nl, s3, qdd]
  · have e : actL a b c d = spacedL (nmB a) [b] := if_neg h
    rw [e]
    simp (disch := omega) only [qak, nth0, nth1, nth2, nth3, bit, qa4, qa5, qbg, qbl, qbm, qbn, qbo, qbp, qbq, qbr, qa6, qa7, qa8, qa9, qba, qbb, qbc, qbd, qbe, qbf, qbh, qbi, qbj, qbk, qdg, qdf, qdh, qcy, qc3, qc4, qci, qal, qdd, nI, qbu, qbt, Bool.not_true, Bool.not_false, Bool.and_true, Bool.true_and, Bool.and_false, Bool.false_and, Bool.or_true, Bool.true_or, Bool.or_false, Bool.false_or, beq_self_eq_true, dTT, dFF, dT, dF, bigI, big0, qcx, qdo, qdp, List.length_set, List.length_replicate, Int.toNat_natCast, qa2, qa3, imax, imin, qao, g, qb3, qar, na, nl, s1, qdd]
theorem law_FormatAct (k : Nat) (hk : 2000000 ≤ k) (a0 : Int) (a1 : Int) (a2 : Int) (a3 : Int) : go (k + 5) laws_FnExactFormatAct [(.agg [(.int .i64 (a0)), (.int .i64 (a1)), (.int .i64 (a2)), (.int .i64 (a3))])] = some [.bool true] := by
  have f1 := qaz k (by omega) a0 a1 a2 a3
  have f2 := qaq k (by omega) a0 a1 a2 a3
  rw [qb5]
  cases g : qac a0 a1 a2 a3
  · rw [g] at f1 f2
    simp (disch := omega) only [qak, nth0, nth1, nth2, nth3, bit, qa4, qa5, qbg, qbl, qbm, qbn, qbo, qbp, qbq, qbr, qa6, qa7, qa8, qa9, qba, qbb, qbc, qbd, qbe, qbf, qbh, qbi, qbj, qbk, qdg, qdf, qdh, qcy, qc3, qc4, qci, qal, qdd, nI, qbu, qbt, Bool.not_true, Bool.not_false, Bool.and_true, Bool.true_and, Bool.and_false, Bool.false_and, Bool.or_true, Bool.true_or, Bool.or_false, Bool.false_or, beq_self_eq_true, dTT, dFF, dT, dF, bigI, big0, qcx, qdo, qdp, List.length_set, List.length_replicate, Int.toNat_natCast, qa2, qa3, imax, imin, qb6, f1, f2, decide_true]
  · rw [g] at f1 f2
    simp (disch := omega) only [qak, nth0, nth1, nth2, nth3, bit, qa4, qa5, qbg, qbl, qbm, qbn, qbo, qbp, qbq, qbr, qa6, qa7, qa8, qa9, qba, qbb, qbc, qbd, qbe, qbf, qbh, qbi, qbj, qbk, qdg, qdf, qdh, qcy, qc3, qc4, qci, qal, qdd, nI, qbu, qbt, Bool.not_true, Bool.not_false, Bool.and_true, Bool.true_and, Bool.and_false, Bool.false_and, Bool.or_true, Bool.true_or, Bool.or_false, Bool.false_or, beq_self_eq_true, dTT, dFF, dT, dF, bigI, big0, qcx, qdo, qdp, List.length_set, List.length_replicate, Int.toNat_natCast, qa2, qa3, imax, imin, qb6, f1, f2, decide_true]
end Go.Proofs.YtjfjniebmdafeaaDoor
end
