/- What the program's functions compute, and plain facts of it (part 1). No condition beyond those that each theorem states. -/
import Derived.Test.YtjfjniebmdafeaaGreatDoorXA
import Derived.Shelf.Strings.Builder1
import Derived.Shelf.LaysM
import Derived.Shelf.Strconv.Itoa3
import Derived.Test.YtjfjniebmdafeaaGreatDoorProg
import Derived.Test.YtjfjniebmdafeaaGreatDoorSB
import Derived.WalkKit
import Derived.BigCall
import Derived.KernelRfl
import Derived.ProofKit
import Derived.Shelf.Strings.BuilderF
import Derived.Shelf.Strings.BuilderK
import Derived.Deep.QuietTactic
import Derived.BigQuiet
import Derived.Shelf.Strings.Fields
import Derived.Shelf.Strings.OnBuilder
import Derived.Shelf.LaysC
import Derived.Shelf.Strconv.AtoiAll
import Derived.Test.YtjfjniebmdafeaaGreatDoorSC
import Derived.Shelf.Strings.Split
import Derived.Test.YtjfjniebmdafeaaGreatDoorRB
import Derived.Lib.AtoiTie
set_option linter.unusedVariables false
set_option linter.unusedSimpArgs false
section
namespace Go.Proofs.YtjfjniebmdafeaaGreatDoor
open Go.Ev
abbrev L3:=List (Int×Int×Int)
abbrev L4:=List (Int×Int×Int×Int)
abbrev LI:=List Int
abbrev FU:=List (Nat×Nat)
def wC (o:Bool)(d:D):D:=.agg [.int .i64 (D.toInt (D.cell 0 d)),.arr o (D.nil (D.cell 1 d)) (.r3 (D.r3 (D.cell 1 d))),.arr o (D.nil (D.cell 2 d)) (.ints .i64 (D.ints (D.cell 2 d))),.arr o (D.nil (D.cell 3 d)) (.ints .i64 (D.ints (D.cell 3 d))),.arr o (D.nil (D.cell 4 d)) (.ints .i64 (D.ints (D.cell 4 d))),.int .i64 (D.toInt (D.cell 5 d)),.int .i64 (D.toInt (D.cell 6 d)),.int .i64 (D.toInt (D.cell 7 d)),.int .i64 (D.toInt (D.cell 8 d)),.int .i64 (D.toInt (D.cell 9 d)),.int .i64 (D.toInt (D.cell 10 d)),.int .i64 (D.toInt (D.cell 11 d)),.int .i64 (D.toInt (D.cell 12 d)),.int .i64 (D.toInt (D.cell 13 d)),.int .i64 (D.toInt (D.cell 14 d)),.int .i64 (D.toInt (D.cell 15 d)),.int .i64 (D.toInt (D.cell 16 d)),.int .i64 (D.toInt (D.cell 17 d)),.int .i64 (D.toInt (D.cell 18 d)),.int .i64 (D.toInt (D.cell 19 d)),.int .i64 (D.toInt (D.cell 20 d))]
theorem wCe (o:Bool)(d:D):wC o d=.agg [.int .i64 (D.toInt (D.cell 0 d)),.arr o (D.nil (D.cell 1 d)) (.r3 (D.r3 (D.cell 1 d))),.arr o (D.nil (D.cell 2 d)) (.ints .i64 (D.ints (D.cell 2 d))),.arr o (D.nil (D.cell 3 d)) (.ints .i64 (D.ints (D.cell 3 d))),.arr o (D.nil (D.cell 4 d)) (.ints .i64 (D.ints (D.cell 4 d))),.int .i64 (D.toInt (D.cell 5 d)),.int .i64 (D.toInt (D.cell 6 d)),.int .i64 (D.toInt (D.cell 7 d)),.int .i64 (D.toInt (D.cell 8 d)),.int .i64 (D.toInt (D.cell 9 d)),.int .i64 (D.toInt (D.cell 10 d)),.int .i64 (D.toInt (D.cell 11 d)),.int .i64 (D.toInt (D.cell 12 d)),.int .i64 (D.toInt (D.cell 13 d)),.int .i64 (D.toInt (D.cell 14 d)),.int .i64 (D.toInt (D.cell 15 d)),.int .i64 (D.toInt (D.cell 16 d)),.int .i64 (D.toInt (D.cell 17 d)),.int .i64 (D.toInt (D.cell 18 d)),.int .i64 (D.toInt (D.cell 19 d)),.int .i64 (D.toInt (D.cell 20 d))]:=Eq.trans rfl rfl
def wA {α:Type}(f:Bool→L3→Bool→LI→Bool→LI→Bool→LI→Int→Int→Int→Int→Int→Int→Int→Int→Int→Int→Int→Int→Int→Int→Int→Int→Int→α)(d:D):α:=f (D.nil (D.cell 1 d)) (D.r3 (D.cell 1 d)) (D.nil (D.cell 2 d)) (D.ints (D.cell 2 d)) (D.nil (D.cell 3 d)) (D.ints (D.cell 3 d)) (D.nil (D.cell 4 d)) (D.ints (D.cell 4 d)) (D.toInt (D.cell 0 d)) (D.toInt (D.cell 5 d)) (D.toInt (D.cell 6 d)) (D.toInt (D.cell 7 d)) (D.toInt (D.cell 8 d)) (D.toInt (D.cell 9 d)) (D.toInt (D.cell 10 d)) (D.toInt (D.cell 11 d)) (D.toInt (D.cell 12 d)) (D.toInt (D.cell 13 d)) (D.toInt (D.cell 14 d)) (D.toInt (D.cell 15 d)) (D.toInt (D.cell 16 d)) (D.toInt (D.cell 17 d)) (D.toInt (D.cell 18 d)) (D.toInt (D.cell 19 d)) (D.toInt (D.cell 20 d))
theorem wAe {α:Type}(f:Bool→L3→Bool→LI→Bool→LI→Bool→LI→Int→Int→Int→Int→Int→Int→Int→Int→Int→Int→Int→Int→Int→Int→Int→Int→Int→α)(d:D):wA f d=f (D.nil (D.cell 1 d)) (D.r3 (D.cell 1 d)) (D.nil (D.cell 2 d)) (D.ints (D.cell 2 d)) (D.nil (D.cell 3 d)) (D.ints (D.cell 3 d)) (D.nil (D.cell 4 d)) (D.ints (D.cell 4 d)) (D.toInt (D.cell 0 d)) (D.toInt (D.cell 5 d)) (D.toInt (D.cell 6 d)) (D.toInt (D.cell 7 d)) (D.toInt (D.cell 8 d)) (D.toInt (D.cell 9 d)) (D.toInt (D.cell 10 d)) (D.toInt (D.cell 11 d)) (D.toInt (D.cell 12 d)) (D.toInt (D.cell 13 d)) (D.toInt (D.cell 14 d)) (D.toInt (D.cell 15 d)) (D.toInt (D.cell 16 d)) (D.toInt (D.cell 17 d)) (D.toInt (D.cell 18 d)) (D.toInt (D.cell 19 d)) (D.toInt (D.cell 20 d)):=Eq.trans rfl rfl
abbrev wV (o:Bool)(a:Int)(z1:Bool)(l1:L3)(z2:Bool)(l2:LI)(z3:Bool)(l3:LI)(z4:Bool)(l4:LI)(x5 x6 x7 x8 x9 x10 x11 x12 x13 x14 x15 x16 x17 x18 x19 x20:Int):D:=.agg [.int .i64 a,.arr o z1 (.r3 l1),.arr o z2 (.ints .i64 l2),.arr o z3 (.ints .i64 l3),.arr o z4 (.ints .i64 l4),.int .i64 x5,.int .i64 x6,.int .i64 x7,.int .i64 x8,.int .i64 x9,.int .i64 x10,.int .i64 x11,.int .i64 x12,.int .i64 x13,.int .i64 x14,.int .i64 x15,.int .i64 x16,.int .i64 x17,.int .i64 x18,.int .i64 x19,.int .i64 x20]
abbrev wB (o:Bool)(j:Nat)(a:Int)(x5 x6 x7 x8 x9 x10 x11 x12 x13 x14 x15 x16 x17 x18 x19 x20:Int):Ent:=.box o [.int .i64 a,.sl j none,.sl (j+1) none,.sl (j+2) none,.sl (j+3) none,.int .i64 x5,.int .i64 x6,.int .i64 x7,.int .i64 x8,.int .i64 x9,.int .i64 x10,.int .i64 x11,.int .i64 x12,.int .i64 x13,.int .i64 x14,.int .i64 x15,.int .i64 x16,.int .i64 x17,.int .i64 x18,.int .i64 x19,.int .i64 x20]
def sC (o:Bool)(d:D):D:=.agg [.int .i64 (D.toInt (D.cell 0 d)),.arr o (D.nil (D.cell 1 d)) (.r3 (D.r3 (D.cell 1 d))),.arr o (D.nil (D.cell 2 d)) (.ints .i64 (D.ints (D.cell 2 d))),.arr o (D.nil (D.cell 3 d)) (.ints .i64 (D.ints (D.cell 3 d))),.arr o (D.nil (D.cell 4 d)) (.ints .i64 (D.ints (D.cell 4 d)))]
theorem sCe (o:Bool)(d:D):sC o d=.agg [.int .i64 (D.toInt (D.cell 0 d)),.arr o (D.nil (D.cell 1 d)) (.r3 (D.r3 (D.cell 1 d))),.arr o (D.nil (D.cell 2 d)) (.ints .i64 (D.ints (D.cell 2 d))),.arr o (D.nil (D.cell 3 d)) (.ints .i64 (D.ints (D.cell 3 d))),.arr o (D.nil (D.cell 4 d)) (.ints .i64 (D.ints (D.cell 4 d)))]:=Eq.trans rfl rfl
def sA {α:Type}(f:Bool→L3→Bool→LI→Bool→LI→Bool→LI→Int→α)(d:D):α:=f (D.nil (D.cell 1 d)) (D.r3 (D.cell 1 d)) (D.nil (D.cell 2 d)) (D.ints (D.cell 2 d)) (D.nil (D.cell 3 d)) (D.ints (D.cell 3 d)) (D.nil (D.cell 4 d)) (D.ints (D.cell 4 d)) (D.toInt (D.cell 0 d))
theorem sAe {α:Type}(f:Bool→L3→Bool→LI→Bool→LI→Bool→LI→Int→α)(d:D):sA f d=f (D.nil (D.cell 1 d)) (D.r3 (D.cell 1 d)) (D.nil (D.cell 2 d)) (D.ints (D.cell 2 d)) (D.nil (D.cell 3 d)) (D.ints (D.cell 3 d)) (D.nil (D.cell 4 d)) (D.ints (D.cell 4 d)) (D.toInt (D.cell 0 d)):=Eq.trans rfl rfl
abbrev sV (o:Bool)(a:Int)(z1:Bool)(l1:L3)(z2:Bool)(l2:LI)(z3:Bool)(l3:LI)(z4:Bool)(l4:LI):D:=.agg [.int .i64 a,.arr o z1 (.r3 l1),.arr o z2 (.ints .i64 l2),.arr o z3 (.ints .i64 l3),.arr o z4 (.ints .i64 l4)]
abbrev sB (o:Bool)(j:Nat)(a:Int):Ent:=.box o [.int .i64 a,.sl j none,.sl (j+1) none,.sl (j+2) none,.sl (j+3) none]
end Go.Proofs.YtjfjniebmdafeaaGreatDoor
end
section
namespace Go.Proofs.YtjfjniebmdafeaaGreatDoor
open Go.Ev
set_option maxRecDepth 20000
def qyx (x0:ByteArray)(x1:Bool)(x2:Int)(z3:Bool)(l4:L3)(z5:Bool)(l6:LI)(z7:Bool)(l8:LI)(z9:Bool)(l10:LI)(x11 x12 x13 x14 x15 x16 x17 x18 x19 x20 x21 x22 x23 x24 x25 x26 x27:Int)(z28:Bool)(l29:List ByteArray)(z30:Bool)(l31:L3)(z32:Bool)(l33:LI)(z34:Bool)(l35:LI)(z36:Bool)(l37:LI)(x38 x39 x40 x41 x42 x43 x44 x45 x46 x47 x48 x49 x50 x51 x52 x53 x54:Int)(z55:Bool)(l56:LI)(z57:Bool)(l58:List ByteArray):St:=⟨fill 74 [(3,.ptr 4 0 0),(5,.str x0),(7,.sl 5 none),(8,.bool x1),(9,.ptr 10 0 0),(10,.sl 11 none),(11,.sl 12 none),(12,.int .i64 x2)],[],[.arr true z3 (.r3 l4),.arr true z5 (.ints .i64 l6),.arr true z7 (.ints .i64 l8),.arr true z9 (.ints .i64 l10),wB true 0 x11 x12 x13 x14 x15 x16 x17 x18 x19 x20 x21 x22 x23 x24 x25 x26 x27,.arr true z28 (.strs l29),.arr true z30 (.r3 l31),.arr true z32 (.ints .i64 l33),.arr true z34 (.ints .i64 l35),.arr true z36 (.ints .i64 l37),wB true 6 x38 x39 x40 x41 x42 x43 x44 x45 x46 x47 x48 x49 x50 x51 x52 x53 x54,.arr true z55 (.ints .i64 l56),.arr true z57 (.strs l58)]⟩
theorem qli (k:Nat)(az:Bool)(a:LI):go (k+1) laws_FnScripts [.arr false az (.ints IntKind.u8 a)]=
 (go k laws_big [.arr false az (.ints IntKind.u8 a)]).bind fun r0=>
 cond (bit (nth r0 0))
 (some [.bool true])
 ((go k spec_DrawActs [.arr false az (.ints IntKind.u8 a)]).bind fun r1=>
 (go k spec_ScriptText [.arr false (D.nil (nth r1 1)) (.r4 (D.r4 (nth r1 1)))]).bind fun r2=>
 (go k impl_RunScript [wC false (nth r1 0),.str (D.toStr (nth r2 0))]).bind fun r3=>
 (go k spec_RunActs [wC false (nth r1 0),.arr false (D.nil (nth r1 1)) (.r4 (D.r4 (nth r1 1)))]).bind fun r4=>
 lp k laws_FnScripts [] [] 9 k (wA (wA (qyx (D.toStr (nth r2 0)) (bit (nth r3 1)) 0) (nth r1 0) (D.nil (nth r3 0)) (D.strs (nth r3 0))) (nth r4 0) (D.nil (nth r4 1)) (D.ints (nth r4 1)) false [])):=by kernel_rfl
theorem qrc (k n:Nat)(fu:FU)(x0:ByteArray)(x1:Bool)(x2:Int)(z3:Bool)(l4:L3)(z5:Bool)(l6:LI)(z7:Bool)(l8:LI)(z9:Bool)(l10:LI)(x11 x12 x13 x14 x15 x16 x17 x18 x19 x20 x21 x22 x23 x24 x25 x26 x27:Int)(z28:Bool)(l29:List ByteArray)(z30:Bool)(l31:L3)(z32:Bool)(l33:LI)(z34:Bool)(l35:LI)(z36:Bool)(l37:LI)(x38 x39 x40 x41 x42 x43 x44 x45 x46 x47 x48 x49 x50 x51 x52 x53 x54:Int)(z55:Bool)(l56:LI)(z57:Bool)(l58:List ByteArray):lp k laws_FnScripts [] fu 9 (n+1) (qyx x0 x1 x2 z3 l4 z5 l6 z7 l8 z9 l10 x11 x12 x13 x14 x15 x16 x17 x18 x19 x20 x21 x22 x23 x24 x25 x26 x27 z28 l29 z30 l31 z32 l33 z34 l35 z36 l37 x38 x39 x40 x41 x42 x43 x44 x45 x46 x47 x48 x49 x50 x51 x52 x53 x54 z55 l56 z57 l58)=
 cond (decide (x2<nI (List.length l56)))
 (cond (decide (0≤x2)&&decide (x2<nI (List.length l56)))
 ((go k spec_FormatInt [.int .i64 (List.getD l56 (Int.toNat x2) 0)]).bind fun r0=>
 cond (decide (List.length (l58++[D.toStr (nth r0 0)])≤bigLen))
 (lp k laws_FnScripts [] fu 9 n (qyx x0 x1 (IntKind.wrap .i64 (x2+1)) z3 l4 z5 l6 z7 l8 z9 l10 x11 x12 x13 x14 x15 x16 x17 x18 x19 x20 x21 x22 x23 x24 x25 x26 x27 z28 l29 z30 l31 z32 l33 z34 l35 z36 l37 x38 x39 x40 x41 x42 x43 x44 x45 x46 x47 x48 x49 x50 x51 x52 x53 x54 z55 l56 (z57&&decide (List.length (l58++[D.toStr (nth r0 0)])=0)) (l58++[D.toStr (nth r0 0)])))
 none)
 none)
 (cond (decide (ByteArray.size x0+ByteArray.size { data:= #[(110:UInt8),(111:UInt8),(116:UInt8),(104:UInt8),(105:UInt8),(110:UInt8),(103:UInt8)] } ≤4611686018427387904))
 ((go k impl_RunScript [wV false x11 z3 l4 z5 l6 z7 l8 z9 l10 x12 x13 x14 x15 x16 x17 x18 x19 x20 x21 x22 x23 x24 x25 x26 x27,.str (x0++ { data:= #[(110:UInt8),(111:UInt8),(116:UInt8),(104:UInt8),(105:UInt8),(110:UInt8),(103:UInt8)] })]).bind fun r1=>
 cond x1
 (cond (!bit (nth r1 1))
 ((go k spec_FormatWorld [wV false x38 z30 l31 z32 l33 z34 l35 z36 l37 x39 x40 x41 x42 x43 x44 x45 x46 x47 x48 x49 x50 x51 x52 x53 x54]).bind fun r2=>
 cond (decide (List.length (l58++D.strs (nth r2 0))≤bigLen))
 ((go k laws_sameTexts [.arr false z28 (.strs l29),.arr false (z57&&decide (List.length (l58++D.strs (nth r2 0))=0)) (.strs (l58++D.strs (nth r2 0)))]).bind fun r3=>
 some [.bool (bit (nth r3 0))])
 none)
 (some [.bool false]))
 (some [.bool false]))
 none):=by kernel_rfl
def qyy (x0:Int)(z1:Bool)(l2:List ByteArray)(z3:Bool)(l4:List ByteArray):St:=⟨fill 26 [(0,.sl 0 none),(1,.sl 1 none),(5,.int .i64 x0)],[],[.arr false z1 (.strs l2),.arr false z3 (.strs l4)]⟩
theorem qlk (k:Nat)(az:Bool)(a:List ByteArray)(bz:Bool)(b:List ByteArray):go (k+1) laws_sameTexts [.arr false az (.strs a),.arr false bz (.strs b)]=
 cond (!decide (nI (List.length a)=nI (List.length b)))
 (some [.bool false])
 (lp k laws_sameTexts [] [] 4 k (qyy 0 az a bz b)):=by kernel_rfl
theorem qrd (k n:Nat)(fu:FU)(x0:Int)(z1:Bool)(l2:List ByteArray)(z3:Bool)(l4:List ByteArray):lp k laws_sameTexts [] fu 4 (n+1) (qyy x0 z1 l2 z3 l4)=
 cond (decide (x0<nI (List.length l2)))
 (cond (decide (0≤x0)&&decide (x0<nI (List.length l2)))
 (cond (decide (0≤x0)&&decide (x0<nI (List.length l4)))
 (cond (!decide (List.getD l2 (Int.toNat x0) ByteArray.empty=List.getD l4 (Int.toNat x0) ByteArray.empty))
 (some [.bool false])
 (lp k laws_sameTexts [] fu 4 n (qyy (IntKind.wrap .i64 (x0+1)) z1 l2 z3 l4)))
 none)
 none)
 (some [.bool true]):=by kernel_rfl
theorem qlj (k:Nat)(az:Bool)(a:LI):go (k+1) laws_big [.arr false az (.ints IntKind.u8 a)]=
 some [.bool (decide (1048576<nI (List.length a)))]:=by kernel_rfl

end Go.Proofs.YtjfjniebmdafeaaGreatDoor
end
section
namespace Go.Proofs.YtjfjniebmdafeaaGreatDoor
open Go.Ev
set_option maxRecDepth 20000
def qyg (x0 x1:Int)(z2:Bool)(l3:L3)(z4:Bool)(l5:LI)(z6:Bool)(l7:LI)(z8:Bool)(l9:LI)(x10 x11 x12 x13 x14 x15 x16 x17 x18 x19 x20 x21 x22 x23 x24 x25 x26:Int)(z27:Bool)(l28:List ByteArray)(z29:Bool)(l30:LI):St:=⟨fill 83 [(13,.ptr 4 0 0),(15,.sl 5 none),(67,.sl 6 none),(68,.int .i64 x0),(69,.int .i64 x1)],[],[.arr true z2 (.r3 l3),.arr true z4 (.ints .i64 l5),.arr true z6 (.ints .i64 l7),.arr true z8 (.ints .i64 l9),wB true 0 x10 x11 x12 x13 x14 x15 x16 x17 x18 x19 x20 x21 x22 x23 x24 x25 x26,.arr true z27 (.strs l28),.arr true z29 (.ints .i64 l30)]⟩
def qyh (x0 x1:Int)(z2:Bool)(l3:L3)(z4:Bool)(l5:LI)(z6:Bool)(l7:LI)(z8:Bool)(l9:LI)(x10 x11 x12 x13 x14 x15 x16 x17 x18 x19 x20 x21 x22 x23 x24 x25 x26:Int)(z27:Bool)(l28:L4)(z29:Bool)(l30:List ByteArray):St:=⟨fill 83 [(2,.ptr 4 0 0),(6,.sl 5 none),(28,.sl 6 none),(29,.int .i64 x0),(30,.int .i64 x1)],[],[.arr false z2 (.r3 l3),.arr false z4 (.ints .i64 l5),.arr false z6 (.ints .i64 l7),.arr false z8 (.ints .i64 l9),wB true 0 x10 x11 x12 x13 x14 x15 x16 x17 x18 x19 x20 x21 x22 x23 x24 x25 x26,.arr true z27 (.r4 l28),.arr true z29 (.strs l30)]⟩
theorem qj1 (k:Nat)(a0:Int)(a1z:Bool)(a1:L3)(a2z:Bool)(a2:LI)(a3z:Bool)(a3:LI)(a4z:Bool)(a4:LI)(a5 a6 a7 a8 a9 a10 a11 a12 a13 a14 a15 a16 a17 a18 a19 a20:Int)(b:ByteArray):go (k+1) impl_RunScript [wV false a0 a1z a1 a2z a2 a3z a3 a4z a4 a5 a6 a7 a8 a9 a10 a11 a12 a13 a14 a15 a16 a17 a18 a19 a20,.str b]=
 cond (decide (20000<nI (ByteArray.size b)))
 (some [.arr true true (.strs []),.bool false])
 ((go k impl_WorldOk [wV false a0 a1z a1 a2z a2 a3z a3 a4z a4 a5 a6 a7 a8 a9 a10 a11 a12 a13 a14 a15 a16 a17 a18 a19 a20]).bind fun r0=>
 cond (!bit (nth r0 0))
 (some [.arr true true (.strs []),.bool false])
 ((go k strings_Split [.str b,.str ({ data:= #[(10:UInt8)] })]).bind fun r1=>
 lp k impl_RunScript [] [] 5 k (qyh (nI (List.length (D.strs (nth r1 0)))) 0 a1z a1 a2z a2 a3z a3 a4z a4 a0 a5 a6 a7 a8 a9 a10 a11 a12 a13 a14 a15 a16 a17 a18 a19 a20 false [] (D.nil (nth r1 0)) (D.strs (nth r1 0))))):=by kernel_rfl
theorem qqv (k n:Nat)(fu:FU)(x0 x1:Int)(z2:Bool)(l3:L3)(z4:Bool)(l5:LI)(z6:Bool)(l7:LI)(z8:Bool)(l9:LI)(x10 x11 x12 x13 x14 x15 x16 x17 x18 x19 x20 x21 x22 x23 x24 x25 x26:Int)(z27:Bool)(l28:List ByteArray)(z29:Bool)(l30:LI):lp k impl_RunScript [] fu 19 (n+1) (qyg x0 x1 z2 l3 z4 l5 z6 l7 z8 l9 x10 x11 x12 x13 x14 x15 x16 x17 x18 x19 x20 x21 x22 x23 x24 x25 x26 z27 l28 z29 l30)=
 cond (decide (x1<x0))
 (cond (decide (0≤x1)&&decide (x1<nI (List.length l30)))
 ((go k impl_FormatInt [.int .i64 (List.getD l30 (Int.toNat x1) 0)]).bind fun r0=>
 cond (decide (List.length (l28++[D.toStr (nth r0 0)])≤bigLen))
 (lp k impl_RunScript [] fu 19 n (qyg x0 (IntKind.wrap .i64 (x1+1)) z2 l3 z4 l5 z6 l7 z8 l9 x10 x11 x12 x13 x14 x15 x16 x17 x18 x19 x20 x21 x22 x23 x24 x25 x26 (z27&&decide (List.length (l28++[D.toStr (nth r0 0)])=0)) (l28++[D.toStr (nth r0 0)]) z29 l30))
 none)
 none)
 ((go k impl_FormatWorld [wV false x10 z2 l3 z4 l5 z6 l7 z8 l9 x11 x12 x13 x14 x15 x16 x17 x18 x19 x20 x21 x22 x23 x24 x25 x26]).bind fun r1=>
 cond (decide (List.length (l28++D.strs (nth r1 0))≤bigLen))
 (some [.arr true (z27&&decide (List.length (l28++D.strs (nth r1 0))=0)) (.strs (l28++D.strs (nth r1 0))),.bool true])
 none):=by kernel_rfl
theorem qqw (k n:Nat)(fu:FU)(x0 x1:Int)(z2:Bool)(l3:L3)(z4:Bool)(l5:LI)(z6:Bool)(l7:LI)(z8:Bool)(l9:LI)(x10 x11 x12 x13 x14 x15 x16 x17 x18 x19 x20 x21 x22 x23 x24 x25 x26:Int)(z27:Bool)(l28:L4)(z29:Bool)(l30:List ByteArray):lp k impl_RunScript [] fu 5 (n+1) (qyh x0 x1 z2 l3 z4 l5 z6 l7 z8 l9 x10 x11 x12 x13 x14 x15 x16 x17 x18 x19 x20 x21 x22 x23 x24 x25 x26 z27 l28 z29 l30)=
 cond (decide (x1<x0))
 (cond (decide (0≤x1)&&decide (x1<nI (List.length l30)))
 ((go k impl_SplitFields [.str (List.getD l30 (Int.toNat x1) ByteArray.empty)]).bind fun r0=>
 cond (bit (nth r0 1))
 (cond (decide (nI (List.length (D.strs (nth r0 0)))=0))
 (lp k impl_RunScript [] fu 5 n (qyh x0 (IntKind.wrap .i64 (x1+1)) z2 l3 z4 l5 z6 l7 z8 l9 x10 x11 x12 x13 x14 x15 x16 x17 x18 x19 x20 x21 x22 x23 x24 x25 x26 z27 l28 z29 l30))
 ((go k impl_ParseAct [.str (List.getD l30 (Int.toNat x1) ByteArray.empty)]).bind fun r1=>
 cond (!bit (nth r1 1))
 (some [.arr true true (.strs []),.bool false])
 (cond (decide (List.length (l28++[(D.toInt (D.cell 0 (nth r1 0)),D.toInt (D.cell 1 (nth r1 0)),D.toInt (D.cell 2 (nth r1 0)),D.toInt (D.cell 3 (nth r1 0)))])≤bigLen))
 (lp k impl_RunScript [] fu 5 n (qyh x0 (IntKind.wrap .i64 (x1+1)) z2 l3 z4 l5 z6 l7 z8 l9 x10 x11 x12 x13 x14 x15 x16 x17 x18 x19 x20 x21 x22 x23 x24 x25 x26 (z27&&decide (List.length (l28++[(D.toInt (D.cell 0 (nth r1 0)),D.toInt (D.cell 1 (nth r1 0)),D.toInt (D.cell 2 (nth r1 0)),D.toInt (D.cell 3 (nth r1 0)))])=0)) (l28++[(D.toInt (D.cell 0 (nth r1 0)),D.toInt (D.cell 1 (nth r1 0)),D.toInt (D.cell 2 (nth r1 0)),D.toInt (D.cell 3 (nth r1 0)))]) z29 l30))
 none)))
 ((go k impl_ParseAct [.str (List.getD l30 (Int.toNat x1) ByteArray.empty)]).bind fun r2=>
 cond (!bit (nth r2 1))
 (some [.arr true true (.strs []),.bool false])
 (cond (decide (List.length (l28++[(D.toInt (D.cell 0 (nth r2 0)),D.toInt (D.cell 1 (nth r2 0)),D.toInt (D.cell 2 (nth r2 0)),D.toInt (D.cell 3 (nth r2 0)))])≤bigLen))
 (lp k impl_RunScript [] fu 5 n (qyh x0 (IntKind.wrap .i64 (x1+1)) z2 l3 z4 l5 z6 l7 z8 l9 x10 x11 x12 x13 x14 x15 x16 x17 x18 x19 x20 x21 x22 x23 x24 x25 x26 (z27&&decide (List.length (l28++[(D.toInt (D.cell 0 (nth r2 0)),D.toInt (D.cell 1 (nth r2 0)),D.toInt (D.cell 2 (nth r2 0)),D.toInt (D.cell 3 (nth r2 0)))])=0)) (l28++[(D.toInt (D.cell 0 (nth r2 0)),D.toInt (D.cell 1 (nth r2 0)),D.toInt (D.cell 2 (nth r2 0)),D.toInt (D.cell 3 (nth r2 0)))]) z29 l30))
 none)))
 none)
 (cond (decide (30<nI (List.length l28)))
 (some [.arr true true (.strs []),.bool false])
 ((go k impl_RunActs [wV false x10 z2 l3 z4 l5 z6 l7 z8 l9 x11 x12 x13 x14 x15 x16 x17 x18 x19 x20 x21 x22 x23 x24 x25 x26,.arr false z27 (.r4 l28)]).bind fun r3=>
 lp k impl_RunScript [] fu 19 k (wA (qyg (nI (List.length (D.ints (nth r3 1)))) 0) (nth r3 0) false [] (D.nil (nth r3 1)) (D.ints (nth r3 1))))):=by kernel_rfl
end Go.Proofs.YtjfjniebmdafeaaGreatDoor
end
section
namespace Go.Proofs.YtjfjniebmdafeaaGreatDoor
open Go.Ev
set_option maxRecDepth 20000
def qy9 (x0:Int)(z1:Bool)(l2:L3)(x3:Int)(z4:Bool)(l5:LI):St:=⟨fill 51 [(1,.ptr 1 0 0),(3,.sl 2 none),(4,.int .i64 x0)],[],[.arr false z1 (.r3 l2),.box true [.int .i64 x3,.sl 0 none],.arr true z4 (.ints IntKind.u8 l5)]⟩
theorem ql5 (k:Nat)(a0:Int)(a1z:Bool)(a1:L3):go (k+1) spec_FormatMesh [.agg [.int .i64 a0,.arr false a1z (.r3 a1)]]=
 lp k spec_FormatMesh [] [] 3 k (qy9 0 a1z a1 a0 false []):=by kernel_rfl
theorem qro (k n:Nat)(fu:FU)(x0:Int)(z1:Bool)(l2:L3)(x3:Int)(z4:Bool)(l5:LI):lp k spec_FormatMesh [] fu 3 (n+1) (qy9 x0 z1 l2 x3 z4 l5)=
 cond (decide (x0<nI (List.length l2)))
 ((go k spec_MeshOk [.agg [.int .i64 x3,.arr false z1 (.r3 l2)]]).bind fun r0=>
 cond (bit (nth r0 0))
 (cond (decide (0<x0))
 (cond (decide (0≤x0)&&decide (x0<nI (List.length l2)))
 (cond (decide (0≤IntKind.wrap .i64 (x0 - 1))&&decide (IntKind.wrap .i64 (x0 - 1)<nI (List.length l2)))
 (cond (!decide (Prod.fst (List.getD l2 (Int.toNat x0) zz3)=Prod.fst (List.getD l2 (Int.toNat (IntKind.wrap .i64 (x0 - 1))) zz3)))
 (cond (decide (List.length (l5++[124])≤bigLen))
 (cond (decide (0≤x0)&&decide (x0<nI (List.length l2)))
 (cond (decide (List.length (l5++[124]++[IntKind.wrap IntKind.u8 (IntKind.wrap .i64 (48+Prod.fst (Prod.snd (List.getD l2 (Int.toNat x0) zz3))))])≤bigLen))
 (lp k spec_FormatMesh [] fu 3 n (qy9 (IntKind.wrap .i64 (x0+1)) z1 l2 x3 (z4&&decide (List.length (l5++[124])=0)&&decide (List.length (l5++[124]++[IntKind.wrap IntKind.u8 (IntKind.wrap .i64 (48+Prod.fst (Prod.snd (List.getD l2 (Int.toNat x0) zz3))))])=0)) (l5++[124]++[IntKind.wrap IntKind.u8 (IntKind.wrap .i64 (48+Prod.fst (Prod.snd (List.getD l2 (Int.toNat x0) zz3))))])))
 none)
 none)
 none)
 (cond (decide (0≤x0)&&decide (x0<nI (List.length l2)))
 (cond (decide (List.length (l5++[IntKind.wrap IntKind.u8 (IntKind.wrap .i64 (48+Prod.fst (Prod.snd (List.getD l2 (Int.toNat x0) zz3))))])≤bigLen))
 (lp k spec_FormatMesh [] fu 3 n (qy9 (IntKind.wrap .i64 (x0+1)) z1 l2 x3 (z4&&decide (List.length (l5++[IntKind.wrap IntKind.u8 (IntKind.wrap .i64 (48+Prod.fst (Prod.snd (List.getD l2 (Int.toNat x0) zz3))))])=0)) (l5++[IntKind.wrap IntKind.u8 (IntKind.wrap .i64 (48+Prod.fst (Prod.snd (List.getD l2 (Int.toNat x0) zz3))))])))
 none)
 none))
 none)
 none)
 (cond (decide (0≤x0)&&decide (x0<nI (List.length l2)))
 (cond (decide (List.length (l5++[IntKind.wrap IntKind.u8 (IntKind.wrap .i64 (48+Prod.fst (Prod.snd (List.getD l2 (Int.toNat x0) zz3))))])≤bigLen))
 (lp k spec_FormatMesh [] fu 3 n (qy9 (IntKind.wrap .i64 (x0+1)) z1 l2 x3 (z4&&decide (List.length (l5++[IntKind.wrap IntKind.u8 (IntKind.wrap .i64 (48+Prod.fst (Prod.snd (List.getD l2 (Int.toNat x0) zz3))))])=0)) (l5++[IntKind.wrap IntKind.u8 (IntKind.wrap .i64 (48+Prod.fst (Prod.snd (List.getD l2 (Int.toNat x0) zz3))))])))
 none)
 none))
 (some [.str (strL l5)]))
 (some [.str (strL l5)]):=by kernel_rfl
def qy5 (x0 x1:Int)(z2:Bool)(l3:L3)(z4:Bool)(l5:LI)(z6:Bool)(l7:LI)(z8:Bool)(l9:LI)(x10:Int):St:=⟨fill 58 [(1,.ptr 4 0 0),(3,.int .i64 x0),(4,.int .i64 x1)],[],[.arr false z2 (.r3 l3),.arr false z4 (.ints .i64 l5),.arr false z6 (.ints .i64 l7),.arr false z8 (.ints .i64 l9),sB true 0 x10]⟩
def qy6 (x0 x1:Int)(z2:Bool)(l3:L3)(z4:Bool)(l5:LI)(z6:Bool)(l7:LI)(z8:Bool)(l9:LI)(x10:Int):St:=⟨fill 58 [(1,.ptr 4 0 0),(3,.int .i64 x0),(5,.int .i64 x1)],[],[.arr false z2 (.r3 l3),.arr false z4 (.ints .i64 l5),.arr false z6 (.ints .i64 l7),.arr false z8 (.ints .i64 l9),sB true 0 x10]⟩
theorem qly (k:Nat)(a0:Int)(a1z:Bool)(a1:L3)(a2z:Bool)(a2:LI)(a3z:Bool)(a3:LI)(a4z:Bool)(a4:LI):go (k+1) spec_DigestOf [sV false a0 a1z a1 a2z a2 a3z a3 a4z a4]=
 (go k spec_StateOk [sV false a0 a1z a1 a2z a2 a3z a3 a4z a4]).bind fun r0=>
 cond (!bit (nth r0 0))
 (some [.int .i64 ((-1:Int))])
 (lp k spec_DigestOf [] [] 5 k (qy5 1 0 a1z a1 a2z a2 a3z a3 a4z a4 a0)):=by kernel_rfl
theorem qrk (k n:Nat)(fu:FU)(x0 x1:Int)(z2:Bool)(l3:L3)(z4:Bool)(l5:LI)(z6:Bool)(l7:LI)(z8:Bool)(l9:LI)(x10:Int):lp k spec_DigestOf [] fu 5 (n+1) (qy5 x0 x1 z2 l3 z4 l5 z6 l7 z8 l9 x10)=
 cond (decide (x1<nI (List.length l5)))
 (cond (decide (0≤x1)&&decide (x1<nI (List.length l3)))
 (cond (decide (0≤x1)&&decide (x1<nI (List.length l5)))
 (cond (decide (0≤x1)&&decide (x1<nI (List.length l7)))
 (lp k spec_DigestOf [] fu 5 n (qy5 (Int.tmod (IntKind.wrap .i64 (IntKind.wrap .i64 (IntKind.wrap .i64 (IntKind.wrap .i64 (IntKind.wrap .i64 (IntKind.wrap .i64 (x0*31)+Prod.fst (Prod.snd (List.getD l3 (Int.toNat x1) zz3)))*31)+List.getD l5 (Int.toNat x1) 0)*31)+List.getD l7 (Int.toNat x1) 0)) 1000003) (IntKind.wrap .i64 (x1+1)) z2 l3 z4 l5 z6 l7 z8 l9 x10))
 none)
 none)
 none)
 (lp k spec_DigestOf [] fu 9 k (qy6 x0 0 z2 l3 z4 l5 z6 l7 z8 l9 x10)):=by kernel_rfl
theorem qrl (k n:Nat)(fu:FU)(x0 x1:Int)(z2:Bool)(l3:L3)(z4:Bool)(l5:LI)(z6:Bool)(l7:LI)(z8:Bool)(l9:LI)(x10:Int):lp k spec_DigestOf [] fu 9 (n+1) (qy6 x0 x1 z2 l3 z4 l5 z6 l7 z8 l9 x10)=
 cond (decide (x1<nI (List.length l9)))
 (cond (decide (0≤x1)&&decide (x1<nI (List.length l9)))
 (lp k spec_DigestOf [] fu 9 n (qy6 (Int.tmod (IntKind.wrap .i64 (IntKind.wrap .i64 (x0*31)+List.getD l9 (Int.toNat x1) 0)) 1000003) (IntKind.wrap .i64 (x1+1)) z2 l3 z4 l5 z6 l7 z8 l9 x10))
 none)
 (some [.int .i64 x0]):=by kernel_rfl
def qx8 (x0 x1 x2:Int)(z3:Bool)(l4:LI):St:=⟨fill 55 [(3,.int .i64 x0),(42,.sl 0 none),(43,.int .i64 x1),(44,.int .i64 x2)],[],[.arr false z3 (.ints .i64 l4)]⟩
def qx9 (x0 x1 x2:Int)(z3:Bool)(l4:L3)(z5:Bool)(l6:LI)(z7:Bool)(l8:LI)(z9:Bool)(l10:LI)(x11:Int):St:=⟨fill 55 [(1,.ptr 4 0 0),(3,.int .i64 x0),(13,.sl 0 none),(14,.int .i64 x1),(15,.int .i64 x2)],[],[.arr false z3 (.r3 l4),.arr false z5 (.ints .i64 l6),.arr false z7 (.ints .i64 l8),.arr false z9 (.ints .i64 l10),sB true 0 x11]⟩
theorem qi6 (k:Nat)(a0:Int)(a1z:Bool)(a1:L3)(a2z:Bool)(a2:LI)(a3z:Bool)(a3:LI)(a4z:Bool)(a4:LI):go (k+1) impl_DigestOf [sV false a0 a1z a1 a2z a2 a3z a3 a4z a4]=
 (go k impl_StateOk [sV false a0 a1z a1 a2z a2 a3z a3 a4z a4]).bind fun r0=>
 cond (!bit (nth r0 0))
 (some [.int .i64 ((-1:Int))])
 (lp k impl_DigestOf [] [] 5 k (qx9 1 (nI (List.length a1)) 0 a1z a1 a2z a2 a3z a3 a4z a4 a0)):=by kernel_rfl
theorem qqn (k n:Nat)(fu:FU)(x0 x1 x2:Int)(z3:Bool)(l4:LI):lp k impl_DigestOf [] fu 10 (n+1) (qx8 x0 x1 x2 z3 l4)=
 cond (decide (x2<x1))
 (cond (decide (0≤x2)&&decide (x2<nI (List.length l4)))
 (lp k impl_DigestOf [] fu 10 n (qx8 (Int.tmod (IntKind.wrap .i64 (IntKind.wrap .i64 (x0*31)+List.getD l4 (Int.toNat x2) 0)) 1000003) x1 (IntKind.wrap .i64 (x2+1)) z3 l4))
 none)
 (some [.int .i64 x0]):=by kernel_rfl
theorem qqo (k n:Nat)(fu:FU)(x0 x1 x2:Int)(z3:Bool)(l4:L3)(z5:Bool)(l6:LI)(z7:Bool)(l8:LI)(z9:Bool)(l10:LI)(x11:Int):lp k impl_DigestOf [] fu 5 (n+1) (qx9 x0 x1 x2 z3 l4 z5 l6 z7 l8 z9 l10 x11)=
 cond (decide (x2<x1))
 (cond (decide (0≤x2)&&decide (x2<nI (List.length l4)))
 (cond (decide (0≤x2)&&decide (x2<nI (List.length l6)))
 (cond (decide (0≤x2)&&decide (x2<nI (List.length l8)))
 (lp k impl_DigestOf [] fu 5 n (qx9 (Int.tmod (IntKind.wrap .i64 (IntKind.wrap .i64 (IntKind.wrap .i64 (IntKind.wrap .i64 (IntKind.wrap .i64 (IntKind.wrap .i64 (x0*31)+Prod.fst (Prod.snd (List.getD l4 (Int.toNat x2) zz3)))*31)+List.getD l6 (Int.toNat x2) 0)*31)+List.getD l8 (Int.toNat x2) 0)) 1000003) x1 (IntKind.wrap .i64 (x2+1)) z3 l4 z5 l6 z7 l8 z9 l10 x11))
 none)
 none)
 none)
 (lp k impl_DigestOf [] fu 10 k (qx8 x0 (nI (List.length l10)) 0 z9 l10)):=by kernel_rfl
theorem ql6 (k:Nat)(a0:Int)(a1z:Bool)(a1:L3)(a2z:Bool)(a2:LI)(a3z:Bool)(a3:LI)(a4z:Bool)(a4:LI)(a5 a6 a7 a8 a9 a10 a11 a12 a13 a14 a15 a16 a17 a18 a19 a20:Int):go (k+1) spec_FormatWorld [wV false a0 a1z a1 a2z a2 a3z a3 a4z a4 a5 a6 a7 a8 a9 a10 a11 a12 a13 a14 a15 a16 a17 a18 a19 a20]=
 (go k spec_WorldOk [wV false a0 a1z a1 a2z a2 a3z a3 a4z a4 a5 a6 a7 a8 a9 a10 a11 a12 a13 a14 a15 a16 a17 a18 a19 a20]).bind fun r0=>
 cond (!bit (nth r0 0))
 (some [.arr true false (.strs [])])
 ((go k spec_FormatInt [.int .i64 a14]).bind fun r1=>
 cond (decide (ByteArray.size { data:= #[(115:UInt8),(116:UInt8),(101:UInt8),(112:UInt8),(32:UInt8)] } +ByteArray.size (D.toStr (nth r1 0))≤4611686018427387904))
 ((go k spec_FormatMesh [.agg [.int .i64 a0,.arr false a1z (.r3 a1)]]).bind fun r2=>
 cond (decide (ByteArray.size { data:= #[(109:UInt8),(101:UInt8),(115:UInt8),(104:UInt8),(32:UInt8)] } +ByteArray.size (D.toStr (nth r2 0))≤4611686018427387904))
 ((go k spec_l07Sum [.arr false a2z (.ints .i64 a2)]).bind fun r3=>
 (go k spec_FormatInt [.int .i64 (D.toInt (nth r3 0))]).bind fun r4=>
 cond (decide (ByteArray.size { data:= #[(109:UInt8),(97:UInt8),(115:UInt8),(115:UInt8),(32:UInt8)] } +ByteArray.size (D.toStr (nth r4 0))≤4611686018427387904))
 ((go k spec_l07Sum [.arr false a3z (.ints .i64 a3)]).bind fun r5=>
 (go k spec_FormatInt [.int .i64 (D.toInt (nth r5 0))]).bind fun r6=>
 cond (decide (ByteArray.size { data:= #[(116:UInt8),(114:UInt8),(97:UInt8),(99:UInt8),(101:UInt8),(114:UInt8),(32:UInt8)] } +ByteArray.size (D.toStr (nth r6 0))≤4611686018427387904))
 ((go k spec_FormatInt [.int .i64 a15]).bind fun r7=>
 cond (decide (ByteArray.size { data:= #[(105:UInt8),(110:UInt8),(32:UInt8)] } +ByteArray.size (D.toStr (nth r7 0))≤4611686018427387904))
 ((go k spec_FormatInt [.int .i64 a16]).bind fun r8=>
 cond (decide (ByteArray.size { data:= #[(111:UInt8),(117:UInt8),(116:UInt8),(32:UInt8)] } +ByteArray.size (D.toStr (nth r8 0))≤4611686018427387904))
 ((go k spec_DigestOf [sV false a0 a1z a1 a2z a2 a3z a3 a4z a4]).bind fun r9=>
 (go k spec_FormatInt [.int .i64 (D.toInt (nth r9 0))]).bind fun r10=>
 cond (decide (ByteArray.size { data:= #[(100:UInt8),(105:UInt8),(103:UInt8),(101:UInt8),(115:UInt8),(116:UInt8),(32:UInt8)] } +ByteArray.size (D.toStr (nth r10 0))≤4611686018427387904))
 (some [.arr true false (.strs ([{ data:= #[(115:UInt8),(116:UInt8),(101:UInt8),(112:UInt8),(32:UInt8)] } ++D.toStr (nth r1 0),{ data:= #[(109:UInt8),(101:UInt8),(115:UInt8),(104:UInt8),(32:UInt8)] } ++D.toStr (nth r2 0),{ data:= #[(109:UInt8),(97:UInt8),(115:UInt8),(115:UInt8),(32:UInt8)] } ++D.toStr (nth r4 0),{ data:= #[(116:UInt8),(114:UInt8),(97:UInt8),(99:UInt8),(101:UInt8),(114:UInt8),(32:UInt8)] } ++D.toStr (nth r6 0),{ data:= #[(105:UInt8),(110:UInt8),(32:UInt8)] } ++D.toStr (nth r7 0),{ data:= #[(111:UInt8),(117:UInt8),(116:UInt8),(32:UInt8)] } ++D.toStr (nth r8 0),{ data:= #[(100:UInt8),(105:UInt8),(103:UInt8),(101:UInt8),(115:UInt8),(116:UInt8),(32:UInt8)] } ++D.toStr (nth r10 0)]))])
 none)
 none)
 none)
 none)
 none)
 none)
 none):=by kernel_rfl
theorem qjc (k:Nat)(a0:Int)(a1z:Bool)(a1:L3)(a2z:Bool)(a2:LI)(a3z:Bool)(a3:LI)(a4z:Bool)(a4:LI)(a5 a6 a7 a8 a9 a10 a11 a12 a13 a14 a15 a16 a17 a18 a19 a20:Int):go (k+1) impl_FormatWorld [wV false a0 a1z a1 a2z a2 a3z a3 a4z a4 a5 a6 a7 a8 a9 a10 a11 a12 a13 a14 a15 a16 a17 a18 a19 a20]=
 (go k impl_WorldOk [wV false a0 a1z a1 a2z a2 a3z a3 a4z a4 a5 a6 a7 a8 a9 a10 a11 a12 a13 a14 a15 a16 a17 a18 a19 a20]).bind fun r0=>
 cond (!bit (nth r0 0))
 (some [.arr true true (.strs [])])
 ((go k impl_spaced [.str ({ data:= #[(115:UInt8),(116:UInt8),(101:UInt8),(112:UInt8)] }),.arr false false (.ints .i64 ([a14]))]).bind fun r1=>
 (go k impl_FormatMesh [.agg [.int .i64 a0,.arr false a1z (.r3 a1)]]).bind fun r2=>
 cond (decide (ByteArray.size { data:= #[(109:UInt8),(101:UInt8),(115:UInt8),(104:UInt8),(32:UInt8)] } +ByteArray.size (D.toStr (nth r2 0))≤4611686018427387904))
 ((go k impl_sum [.arr false a2z (.ints .i64 a2)]).bind fun r3=>
 (go k impl_spaced [.str ({ data:= #[(109:UInt8),(97:UInt8),(115:UInt8),(115:UInt8)] }),.arr false false (.ints .i64 ([D.toInt (nth r3 0)]))]).bind fun r4=>
 (go k impl_sum [.arr false a3z (.ints .i64 a3)]).bind fun r5=>
 (go k impl_spaced [.str ({ data:= #[(116:UInt8),(114:UInt8),(97:UInt8),(99:UInt8),(101:UInt8),(114:UInt8)] }),.arr false false (.ints .i64 ([D.toInt (nth r5 0)]))]).bind fun r6=>
 (go k impl_spaced [.str ({ data:= #[(105:UInt8),(110:UInt8)] }),.arr false false (.ints .i64 ([a15]))]).bind fun r7=>
 (go k impl_spaced [.str ({ data:= #[(111:UInt8),(117:UInt8),(116:UInt8)] }),.arr false false (.ints .i64 ([a16]))]).bind fun r8=>
 (go k impl_DigestOf [sV false a0 a1z a1 a2z a2 a3z a3 a4z a4]).bind fun r9=>
 (go k impl_spaced [.str ({ data:= #[(100:UInt8),(105:UInt8),(103:UInt8),(101:UInt8),(115:UInt8),(116:UInt8)] }),.arr false false (.ints .i64 ([D.toInt (nth r9 0)]))]).bind fun r10=>
 some [.arr true false (.strs ([D.toStr (nth r1 0),{ data:= #[(109:UInt8),(101:UInt8),(115:UInt8),(104:UInt8),(32:UInt8)] } ++D.toStr (nth r2 0),D.toStr (nth r4 0),D.toStr (nth r6 0),D.toStr (nth r7 0),D.toStr (nth r8 0),D.toStr (nth r10 0)]))])
 none):=by kernel_rfl
end Go.Proofs.YtjfjniebmdafeaaGreatDoor
end
section
namespace Go.Proofs.YtjfjniebmdafeaaGreatDoor
open Go.Ev
set_option maxRecDepth 20000
theorem ql3 (k:Nat)(a0 a1 a2 a3:Int):go (k+1) spec_FormatAct [.agg [.int .i64 a0,.int .i64 a1,.int .i64 a2,.int .i64 a3]]=
 (go k spec_ActOk [.agg [.int .i64 a0,.int .i64 a1,.int .i64 a2,.int .i64 a3]]).bind fun r0=>
 cond (!bit (nth r0 0))
 (some [.str ({ data:= #[] }),.bool false])
 ((go k spec_FormatInt [.int .i64 a1]).bind fun r1=>
 cond (decide (ByteArray.size { data:= #[(32:UInt8)] } +ByteArray.size (D.toStr (nth r1 0))≤4611686018427387904))
 (cond (decide (ByteArray.size ({ data:= #[(32:UInt8)] } ++D.toStr (nth r1 0))+ByteArray.size { data:= #[(32:UInt8)] } ≤4611686018427387904))
 ((go k spec_FormatInt [.int .i64 a2]).bind fun r2=>
 cond (decide (ByteArray.size ({ data:= #[(32:UInt8)] } ++D.toStr (nth r1 0)++ { data:= #[(32:UInt8)] })+ByteArray.size (D.toStr (nth r2 0))≤4611686018427387904))
 (cond (decide (ByteArray.size ({ data:= #[(32:UInt8)] } ++D.toStr (nth r1 0)++ { data:= #[(32:UInt8)] } ++D.toStr (nth r2 0))+ByteArray.size { data:= #[(32:UInt8)] } ≤4611686018427387904))
 ((go k spec_FormatInt [.int .i64 a3]).bind fun r3=>
 cond (decide (ByteArray.size ({ data:= #[(32:UInt8)] } ++D.toStr (nth r1 0)++ { data:= #[(32:UInt8)] } ++D.toStr (nth r2 0)++ { data:= #[(32:UInt8)] })+ByteArray.size (D.toStr (nth r3 0))≤4611686018427387904))
 (cond (decide (a0=1))
 (cond (decide (ByteArray.size { data:= #[(114:UInt8),(117:UInt8),(110:UInt8)] } +ByteArray.size ({ data:= #[(32:UInt8)] } ++D.toStr (nth r1 0))≤4611686018427387904))
 (some [.str ({ data:= #[(114:UInt8),(117:UInt8),(110:UInt8)] } ++({ data:= #[(32:UInt8)] } ++D.toStr (nth r1 0))),.bool true])
 none)
 (cond (decide (a0=2))
 (cond (decide (ByteArray.size { data:= #[(114:UInt8),(97:UInt8),(105:UInt8),(110:UInt8)] } +ByteArray.size ({ data:= #[(32:UInt8)] } ++D.toStr (nth r1 0))≤4611686018427387904))
 (some [.str ({ data:= #[(114:UInt8),(97:UInt8),(105:UInt8),(110:UInt8)] } ++({ data:= #[(32:UInt8)] } ++D.toStr (nth r1 0))),.bool true])
 none)
 (cond (decide (a0=3))
 (cond (decide (ByteArray.size { data:= #[(108:UInt8),(111:UInt8),(115:UInt8),(115:UInt8)] } +ByteArray.size ({ data:= #[(32:UInt8)] } ++D.toStr (nth r1 0))≤4611686018427387904))
 (some [.str ({ data:= #[(108:UInt8),(111:UInt8),(115:UInt8),(115:UInt8)] } ++({ data:= #[(32:UInt8)] } ++D.toStr (nth r1 0))),.bool true])
 none)
 (cond (decide (a0=5))
 (cond (decide (ByteArray.size { data:= #[(100:UInt8),(101:UInt8),(99:UInt8),(97:UInt8),(121:UInt8)] } +ByteArray.size ({ data:= #[(32:UInt8)] } ++D.toStr (nth r1 0))≤4611686018427387904))
 (some [.str ({ data:= #[(100:UInt8),(101:UInt8),(99:UInt8),(97:UInt8),(121:UInt8)] } ++({ data:= #[(32:UInt8)] } ++D.toStr (nth r1 0))),.bool true])
 none)
 (cond (decide (a0=4))
 (cond (decide (ByteArray.size { data:= #[(102:UInt8),(108:UInt8),(111:UInt8),(119:UInt8)] } +ByteArray.size ({ data:= #[(32:UInt8)] } ++D.toStr (nth r1 0)++ { data:= #[(32:UInt8)] } ++D.toStr (nth r2 0)++ { data:= #[(32:UInt8)] } ++D.toStr (nth r3 0))≤4611686018427387904))
 (some [.str ({ data:= #[(102:UInt8),(108:UInt8),(111:UInt8),(119:UInt8)] } ++({ data:= #[(32:UInt8)] } ++D.toStr (nth r1 0)++ { data:= #[(32:UInt8)] } ++D.toStr (nth r2 0)++ { data:= #[(32:UInt8)] } ++D.toStr (nth r3 0))),.bool true])
 none)
 (cond (decide (a0=6))
 (cond (decide (ByteArray.size { data:= #[(109:UInt8),(101:UInt8),(115:UInt8),(104:UInt8)] } +ByteArray.size ({ data:= #[(32:UInt8)] } ++D.toStr (nth r1 0)++ { data:= #[(32:UInt8)] } ++D.toStr (nth r2 0)++ { data:= #[(32:UInt8)] } ++D.toStr (nth r3 0))≤4611686018427387904))
 (some [.str ({ data:= #[(109:UInt8),(101:UInt8),(115:UInt8),(104:UInt8)] } ++({ data:= #[(32:UInt8)] } ++D.toStr (nth r1 0)++ { data:= #[(32:UInt8)] } ++D.toStr (nth r2 0)++ { data:= #[(32:UInt8)] } ++D.toStr (nth r3 0))),.bool true])
 none)
 (cond (decide (ByteArray.size { data:= #[(100:UInt8),(114:UInt8),(111:UInt8),(112:UInt8)] } +ByteArray.size ({ data:= #[(32:UInt8)] } ++D.toStr (nth r1 0)++ { data:= #[(32:UInt8)] } ++D.toStr (nth r2 0)++ { data:= #[(32:UInt8)] } ++D.toStr (nth r3 0))≤4611686018427387904))
 (some [.str ({ data:= #[(100:UInt8),(114:UInt8),(111:UInt8),(112:UInt8)] } ++({ data:= #[(32:UInt8)] } ++D.toStr (nth r1 0)++ { data:= #[(32:UInt8)] } ++D.toStr (nth r2 0)++ { data:= #[(32:UInt8)] } ++D.toStr (nth r3 0))),.bool true])
 none)))))))
 none)
 none)
 none)
 none)
 none):=by kernel_rfl
theorem qja (k:Nat)(a0 a1 a2 a3:Int):go (k+1) impl_FormatAct [.agg [.int .i64 a0,.int .i64 a1,.int .i64 a2,.int .i64 a3]]=
 (go k impl_ActOk [.agg [.int .i64 a0,.int .i64 a1,.int .i64 a2,.int .i64 a3]]).bind fun r0=>
 cond (!bit (nth r0 0))
 (some [.str ({ data:= #[] }),.bool false])
 ((go k impl_isSingle [.int .i64 a0]).bind fun r1=>
 cond (bit (nth r1 0))
 ((go k impl_actNames []).bind fun r2=>
 cond (decide (0≤a0)&&decide (a0<nI (List.length (D.strs (nth r2 0)))))
 ((go k impl_spaced [.str (List.getD (D.strs (nth r2 0)) (Int.toNat a0) ByteArray.empty),.arr false false (.ints .i64 ([a1]))]).bind fun r3=>
 some [.str (D.toStr (nth r3 0)),.bool true])
 none)
 ((go k impl_actNames []).bind fun r4=>
 cond (decide (0≤a0)&&decide (a0<nI (List.length (D.strs (nth r4 0)))))
 ((go k impl_spaced [.str (List.getD (D.strs (nth r4 0)) (Int.toNat a0) ByteArray.empty),.arr false false (.ints .i64 ([a1,a2,a3]))]).bind fun r5=>
 some [.str (D.toStr (nth r5 0)),.bool true])
 none)):=by kernel_rfl
theorem qld (k:Nat)(a:Int):go (k+1) impl_isSingle [.int .i64 a]=
 cond (!decide (a=4))
 (cond (!decide (a=6))
 (some [.bool (!decide (a=7))])
 (some [.bool false]))
 (some [.bool false]):=by kernel_rfl
theorem qk0 (k:Nat):go (k+1) impl_actNames []=
 some [.arr true false (.strs ([{ data:= #[] },{ data:= #[(114:UInt8),(117:UInt8),(110:UInt8)] },{ data:= #[(114:UInt8),(97:UInt8),(105:UInt8),(110:UInt8)] },{ data:= #[(108:UInt8),(111:UInt8),(115:UInt8),(115:UInt8)] },{ data:= #[(102:UInt8),(108:UInt8),(111:UInt8),(119:UInt8)] },{ data:= #[(100:UInt8),(101:UInt8),(99:UInt8),(97:UInt8),(121:UInt8)] },{ data:= #[(109:UInt8),(101:UInt8),(115:UInt8),(104:UInt8)] },{ data:= #[(100:UInt8),(114:UInt8),(111:UInt8),(112:UInt8)] }]))]:=by kernel_rfl
def qze (x0:Int)(z1:Bool)(l2:L4)(z3:Bool)(l4:LI):St:=⟨fill 36 [(0,.sl 0 none),(4,.sl 1 none),(5,.int .i64 x0)],[],[.arr false z1 (.r4 l2),.arr true z3 (.ints IntKind.u8 l4)]⟩
theorem qmj (k:Nat)(az:Bool)(a:L4):go (k+1) spec_ScriptText [.arr false az (.r4 a)]=
 lp k spec_ScriptText [] [] 3 k (qze 0 az a false []):=by kernel_rfl
theorem qrt (k n:Nat)(fu:FU)(x0:Int)(z1:Bool)(l2:L4)(z3:Bool)(l4:LI):lp k spec_ScriptText [] fu 3 (n+1) (qze x0 z1 l2 z3 l4)=
 cond (decide (x0<nI (List.length l2)))
 (cond (decide (0≤x0)&&decide (x0<nI (List.length l2)))
 ((go k spec_FormatAct [.agg [.int .i64 (Prod.fst (List.getD l2 (Int.toNat x0) zz4)),.int .i64 (Prod.fst (Prod.snd (List.getD l2 (Int.toNat x0) zz4))),.int .i64 (Prod.fst (Prod.snd (Prod.snd (List.getD l2 (Int.toNat x0) zz4)))),.int .i64 (Prod.snd (Prod.snd (Prod.snd (List.getD l2 (Int.toNat x0) zz4))))]]).bind fun r0=>
 cond (!bit (nth r0 1))
 (some [.str ({ data:= #[] }),.bool false])
 (cond (decide (30<nI (List.length l2)))
 (some [.str ({ data:= #[] }),.bool false])
 (cond (decide (ByteArray.size (D.toStr (nth r0 0))+ByteArray.size { data:= #[(10:UInt8)] } ≤4611686018427387904))
 (cond (decide (List.length l4+ByteArray.size (D.toStr (nth r0 0)++ { data:= #[(10:UInt8)] })≤bigLen))
 (lp k spec_ScriptText [] fu 3 n (qze (IntKind.wrap .i64 (x0+1)) z1 l2 (z3&&decide (ByteArray.size (D.toStr (nth r0 0)++ { data:= #[(10:UInt8)] })=0)) (l4++bytesL (D.toStr (nth r0 0)++ { data:= #[(10:UInt8)] }))))
 none)
 none)))
 none)
 (some [.str (strL l4),.bool true]):=by kernel_rfl

end Go.Proofs.YtjfjniebmdafeaaGreatDoor
end
section
namespace Go.Proofs.YtjfjniebmdafeaaGreatDoor
open Go.Ev
set_option maxRecDepth 20000
def qy8 (x0:Int)(x1:Bool)(x2:ByteArray):St:=⟨fill 30 [(0,.int .i64 x0),(3,.bool x1),(4,.str x2)],[],[]⟩
theorem ql4 (k:Nat)(a:Int):go (k+1) spec_FormatInt [.int .i64 a]=
 cond (decide (a=0))
 (some [.str ({ data:= #[(48:UInt8)] })])
 (lp k spec_FormatInt [] [] 5 k (qy8 a (decide (a<0)) ({ data:= #[] }))):=by kernel_rfl
theorem qrn (k n:Nat)(fu:FU)(x0:Int)(x1:Bool)(x2:ByteArray):lp k spec_FormatInt [] fu 5 (n+1) (qy8 x0 x1 x2)=
 cond (!decide (x0=0))
 (cond (decide (Int.tmod x0 10<0))
 ((go k spec_l01Figure [.int .i64 (IntKind.wrap .i64 (0 - Int.tmod x0 10))]).bind fun r0=>
 cond (decide (ByteArray.size (strL [D.toInt (nth r0 0)])+ByteArray.size x2≤4611686018427387904))
 (lp k spec_FormatInt [] fu 5 n (qy8 (IntKind.wrap .i64 (Int.tdiv x0 10)) x1 (strL [D.toInt (nth r0 0)]++x2)))
 none)
 ((go k spec_l01Figure [.int .i64 (Int.tmod x0 10)]).bind fun r1=>
 cond (decide (ByteArray.size (strL [D.toInt (nth r1 0)])+ByteArray.size x2≤4611686018427387904))
 (lp k spec_FormatInt [] fu 5 n (qy8 (IntKind.wrap .i64 (Int.tdiv x0 10)) x1 (strL [D.toInt (nth r1 0)]++x2)))
 none))
 (cond x1
 (cond (decide (ByteArray.size { data:= #[(45:UInt8)] } +ByteArray.size x2≤4611686018427387904))
 (some [.str ({ data:= #[(45:UInt8)] } ++x2)])
 none)
 (some [.str x2])):=by kernel_rfl
theorem qmt (k:Nat)(a:Int):go (k+1) spec_l01Figure [.int .i64 a]=
 cond (decide (a<10))
 (some [.int IntKind.u8 (IntKind.wrap IntKind.u8 (IntKind.wrap .i64 (48+a)))])
 (some [.int IntKind.u8 (IntKind.wrap IntKind.u8 (IntKind.wrap .i64 (IntKind.wrap .i64 (97+a) - 10)))]):=by kernel_rfl
theorem qjb (k:Nat)(a:Int):go (k+1) impl_FormatInt [.int .i64 a]=
 (go k strconv_Itoa [.int .i64 a]).bind fun r0=>
 some [.str (D.toStr (nth r0 0))]:=by kernel_rfl
end Go.Proofs.YtjfjniebmdafeaaGreatDoor
end
section
namespace Go.Proofs
open Go.Shelf
def Tryz.lays166_ren:Go.Shelf.Ren:=⟨fun | 166=>72 | 240=>119 | 276=>159 | n=>n,fun | 0=>0 | 3=>3 | 4=>4 | 5=>5 | 9=>9 | 20=>20 | 37=>22 | 70=>115 | 72=>117 | 75=>119 | 80=>122 | 164=>183 | n=>n,fun | n=>n⟩
theorem Tryz.lays166:Go.Proofs.Lays.n166 Tryz.prog Tryz.lays166_ren:= {
  mixed:=by kernel_rfl
  f166:=Tryz.func72.trans (congrArg some (by kernel_rfl))
  f240:=Tryz.func119.trans (congrArg some (by kernel_rfl))
  f276:=Tryz.func159.trans (congrArg some (by kernel_rfl))
  t0:=Tryz.underlying0
  a0:=Tryz.isAgg0
  z0:=Tryz.sizeOf0
  v0:=Tryz.zeroValue0
  t3:=Tryz.underlying3
  a3:=Tryz.isAgg3
  z3:=Tryz.sizeOf3
  v3:=Tryz.zeroValue3
  t4:=Tryz.underlying4
  a4:=Tryz.isAgg4
  z4:=Tryz.sizeOf4
  v4:=Tryz.zeroValue4
  t9:=Tryz.underlying9
  a9:=Tryz.isAgg9
  z9:=Tryz.sizeOf9
  v9:=Tryz.zeroValue9
  t20:=Tryz.underlying20
  a20:=Tryz.isAgg20
  z20:=Tryz.sizeOf20
  v20:=Tryz.zeroValue20
  t37:=Tryz.underlying22
  a37:=Tryz.isAgg22
  z37:=Tryz.sizeOf22
  v37:=Tryz.zeroValue22
  t70:=Tryz.underlying115
  a70:=Tryz.isAgg115
  z70:=Tryz.sizeOf115
  v70:=Tryz.zeroValue115
  t72:=Tryz.underlying117
  a72:=Tryz.isAgg117
  z72:=Tryz.sizeOf117
  v72:=Tryz.zeroValue117
  t75:=Tryz.underlying119
  a75:=Tryz.isAgg119
  z75:=Tryz.sizeOf119
  v75:=Tryz.zeroValue119
  t164:=Tryz.underlying183
  a164:=Tryz.isAgg183
  z164:=Tryz.sizeOf183
  v164:=Tryz.zeroValue183 }
theorem Tryz.Builder_Extra_166:Builder.Extra Tryz.prog Tryz.lays166_ren:= {
  sizeBuilder:=by kernel_rfl
  liesBuilder:=by kernel_rfl
  t5:=Tryz.underlying5
  a5:=Tryz.isAgg5
  z5:=Tryz.sizeOf5
  v5:=Tryz.zeroValue5
  infoByte:=by kernel_rfl
  cellsByte:=by kernel_rfl
  sizeByte:=by kernel_rfl
  neB5:=by decide }
open Go.RowKit in
theorem Tryz.Builder_WriteString (B b:Nat)(bs:List Value)(s:ByteArray)(w:World)(h:Lib.IsBuilder 117 5 B b bs w)(hlen:bs.length+s.size≤140737488355328)(hBw:B≤w.heap.size):
    Calls Tryz.prog 72 #[.pointer (some ⟨b,0,none⟩),.string s] w fun e w' =>e=.returned (.tuple #[.int .i64 s.size,.nilIface])∧(Lib.BuilderAt 117 5 B b (.pointer (some ⟨b,0,none⟩)) (bs++Lib.strCells s) w' ∧Below B w w'):=Any.Builder_WriteString Tryz.lays166 Tryz.Builder_Extra_166 B b bs s w h hlen hBw
def Tryz.lays169_ren:Go.Shelf.Ren:=⟨fun | 169=>73 | n=>n,fun | 70=>115 | 9=>9 | 0=>0 | 72=>117 | 37=>22 | 127=>158 | 3=>3 | 5=>5 | n=>n,fun | n=>n⟩
theorem Tryz.lays169:Go.Proofs.Lays.n169 Tryz.prog Tryz.lays169_ren:= {
  mixed:=by kernel_rfl
  f169:=Tryz.func73.trans (congrArg some (by kernel_rfl))
  t0:=Tryz.underlying0
  a0:=Tryz.isAgg0
  z0:=Tryz.sizeOf0
  v0:=Tryz.zeroValue0
  t3:=Tryz.underlying3
  a3:=Tryz.isAgg3
  z3:=Tryz.sizeOf3
  v3:=Tryz.zeroValue3
  t9:=Tryz.underlying9
  a9:=Tryz.isAgg9
  z9:=Tryz.sizeOf9
  v9:=Tryz.zeroValue9
  t37:=Tryz.underlying22
  a37:=Tryz.isAgg22
  z37:=Tryz.sizeOf22
  v37:=Tryz.zeroValue22
  t70:=Tryz.underlying115
  a70:=Tryz.isAgg115
  z70:=Tryz.sizeOf115
  v70:=Tryz.zeroValue115
  t72:=Tryz.underlying117
  a72:=Tryz.isAgg117
  z72:=Tryz.sizeOf117
  v72:=Tryz.zeroValue117
  t127:=Tryz.underlying158
  a127:=Tryz.isAgg158
  z127:=Tryz.sizeOf158
  v127:=Tryz.zeroValue158 }
theorem Tryz.Builder_Extra_169:Builder.Extra Tryz.prog Tryz.lays169_ren:= {
  sizeBuilder:=by kernel_rfl
  liesBuilder:=by kernel_rfl
  t5:=Tryz.underlying5
  a5:=Tryz.isAgg5
  z5:=Tryz.sizeOf5
  v5:=Tryz.zeroValue5
  infoByte:=by kernel_rfl
  cellsByte:=by kernel_rfl
  sizeByte:=by kernel_rfl
  neB5:=by decide }
open Go.RowKit in
theorem Tryz.Builder_String_any (B b:Nat)(l:List UInt8)(w:World)(h:Lib.IsBuilder 117 5 B b (Lib.byteCells l) w)(hBw:B≤w.heap.size):
    Calls Tryz.prog 73 #[.pointer (some ⟨b,0,none⟩)] w fun e w' =>e=.returned (.string ⟨l.toArray⟩)∧Below B w w' :=Any.Builder_String_any Tryz.lays169 Tryz.Builder_Extra_169 B b l w h hBw
def Tryz.laysM171_ren:Go.Shelf.Ren:=⟨fun | 171=>80 | 243=>128 | 246=>162 | 283=>194 | 284=>195 | 285=>196 | 286=>197 | 129=>223 | 317=>222 | 318=>224 | 319=>225 | 320=>226 | 337=>243 | 338=>244 | n=>n,fun | 3=>3 | 9=>9 | 2=>2 | 4=>4 | 171=>213 | 0=>0 | 53=>214 | 37=>22 | 5=>5 | 173=>217 | 212=>244 | 51=>196 | 20=>20 | 213=>245 | 46=>178 | 232=>277 | 233=>278 | n=>n,fun | 17=>3 | 18=>8 | 19=>9 | n=>n⟩
theorem Tryz.laysM171:Go.Proofs.LaysM.n171 Tryz.prog Tryz.laysM171_ren:= {
  mixed:=by kernel_rfl
  f129:=Tryz.func223.trans (congrArg some (by kernel_rfl))
  f171:=Tryz.func80.trans (congrArg some (by kernel_rfl))
  f243:=Tryz.func128.trans (congrArg some (by kernel_rfl))
  f246:=Tryz.func162.trans (congrArg some (by kernel_rfl))
  f283:=Tryz.func194.trans (congrArg some (by kernel_rfl))
  f284:=Tryz.func195.trans (congrArg some (by kernel_rfl))
  f285:=Tryz.func196.trans (congrArg some (by kernel_rfl))
  f286:=Tryz.func197.trans (congrArg some (by kernel_rfl))
  f317:=Tryz.func222.trans (congrArg some (by kernel_rfl))
  f318:=Tryz.func224.trans (congrArg some (by kernel_rfl))
  f319:=Tryz.func225.trans (congrArg some (by kernel_rfl))
  f320:=Tryz.func226.trans (congrArg some (by kernel_rfl))
  f337:=Tryz.func243.trans (congrArg some (by kernel_rfl))
  f338:=Tryz.func244.trans (congrArg some (by kernel_rfl))
  t0:=Tryz.underlying0
  a0:=Tryz.isAgg0
  z0:=Tryz.sizeOf0
  v0:=Tryz.zeroValue0
  t2:=Tryz.underlying2
  a2:=Tryz.isAgg2
  z2:=Tryz.sizeOf2
  v2:=Tryz.zeroValue2
  t3:=Tryz.underlying3
  a3:=Tryz.isAgg3
  z3:=Tryz.sizeOf3
  v3:=Tryz.zeroValue3
  t4:=Tryz.underlying4
  a4:=Tryz.isAgg4
  z4:=Tryz.sizeOf4
  v4:=Tryz.zeroValue4
  t5:=Tryz.underlying5
  a5:=Tryz.isAgg5
  z5:=Tryz.sizeOf5
  v5:=Tryz.zeroValue5
  t9:=Tryz.underlying9
  a9:=Tryz.isAgg9
  z9:=Tryz.sizeOf9
  v9:=Tryz.zeroValue9
  t20:=Tryz.underlying20
  a20:=Tryz.isAgg20
  z20:=Tryz.sizeOf20
  v20:=Tryz.zeroValue20
  t37:=Tryz.underlying22
  a37:=Tryz.isAgg22
  z37:=Tryz.sizeOf22
  v37:=Tryz.zeroValue22
  t46:=Tryz.underlying178
  a46:=Tryz.isAgg178
  z46:=Tryz.sizeOf178
  v46:=Tryz.zeroValue178
  t51:=Tryz.underlying196
  a51:=Tryz.isAgg196
  z51:=Tryz.sizeOf196
  v51:=Tryz.zeroValue196
  t53:=Tryz.underlying214
  a53:=Tryz.isAgg214
  z53:=Tryz.sizeOf214
  v53:=Tryz.zeroValue214
  t171:=Tryz.underlying213
  a171:=Tryz.isAgg213
  z171:=Tryz.sizeOf213
  v171:=Tryz.zeroValue213
  t173:=Tryz.underlying217
  a173:=Tryz.isAgg217
  z173:=Tryz.sizeOf217
  v173:=Tryz.zeroValue217
  t212:=Tryz.underlying244
  a212:=Tryz.isAgg244
  z212:=Tryz.sizeOf244
  v212:=Tryz.zeroValue244
  t213:=Tryz.underlying245
  a213:=Tryz.isAgg245
  z213:=Tryz.sizeOf245
  t232:=Tryz.underlying277
  a232:=Tryz.isAgg277
  z232:=Tryz.sizeOf277
  v232:=Tryz.zeroValue277
  t233:=Tryz.underlying278
  a233:=Tryz.isAgg278
  z233:=Tryz.sizeOf278
  v233:=Tryz.zeroValue278
  g17:=by kernel_rfl
  g18:=by kernel_rfl
  g19:=by kernel_rfl
  i0:=by kernel_rfl
  i2:=by kernel_rfl
  i3:=by kernel_rfl
  i4:=by kernel_rfl
  i5:=by kernel_rfl
  i9:=by kernel_rfl
  i20:=by kernel_rfl
  i37:=by kernel_rfl
  i46:=by kernel_rfl
  i51:=by kernel_rfl
  i53:=by kernel_rfl
  i171:=by kernel_rfl
  i173:=by kernel_rfl
  i212:=by kernel_rfl
  i232:=by kernel_rfl
  i233:=by kernel_rfl
  m17:=by kernel_rfl
  m18:=by kernel_rfl
  m19:=by kernel_rfl }
end Go.Proofs
end
section
namespace Go.Proofs.YtjfjniebmdafeaaGreatDoor
open Go.RowKit Go.Lib Go.Ev Go.Shelf Go.Sort
theorem q1s {w:World}(h:Kept w){nm:String}(hn:Tryz.prog.globalNamed nm=some 3):Lib.TabIs Tryz.prog w nm .u64 Lib.pow10Tab:=by
  obtain ⟨c,t,z,e,hc⟩:=h _ (List.Mem.head _)
  obtain rfl:c=_:=hc
  unfold Lib.TabIs World.var?
  rw [hn]
  simp only [Option.bind_some]
  rw [e]
theorem qqi {w w' :World}(h:Kept w)(b:Below w.heap.size w w'):Kept w' :=
  h.frame (M:=fun _ _=>False) (fr_of_below b) (fun _ _ _ h=>h)
theorem qpy (n:Int)(hn:inI64 n=true)(w:World)(hk:Kept w):Calls Tryz.prog 80 #[.int .i64 n] w fun e w' =>e=.returned (.string ⟨(Lib.itoa n).toArray⟩)∧Below w.heap.size w w' :=by
  unfold inI64 at hn
  simp only [Bool.and_eq_true,decide_eq_true_eq] at hn
  refine (Any.strconv_Itoa Tryz.laysM171 n hn.1 hn.2 w (q1s hk (by kernel_rfl))).mono ?_
  rintro e w' ⟨rfl,k,os,rfl⟩
  exact ⟨rfl,(below_drewN w w.heap.size k).trans (below_grow (w.drewN k) os)⟩
theorem qop (n:Int)(hn:inI64 n=true)(w:World)(hk:Kept w):Calls Tryz.prog 40 #[.int .i64 n] w fun e w' =>e=.returned (.string ⟨(Lib.itoa n).toArray⟩)∧Below w.heap.size w w' :=by
  have c:=qpy n hn w hk
  generalize (⟨(Lib.itoa n).toArray⟩:ByteArray)=s at c ⊢
  go_enter Tryz.func40,Tryz.ntmps40
  go_wp2_with (go_at_call 80; refine c.mono ?_; rintro e w' ⟨rfl,hb⟩)
  go_ret
  exact ⟨rfl,hb⟩
theorem qwf {B:Nat}{e:TypeId}{k:Nat}{v:Value}{n:Nat}{xs:List Value}{w w' :World}(h:w.ownsRow B e k v n xs)(hb:RowKit.Below w.heap.size w w'):w'.ownsRow B e k v n xs:=by
  obtain ⟨h1,h2⟩:=h
  refine ⟨h1,h2.imp (fun h=>h) ?_⟩
  rintro ⟨g,cap,cur,h3,h4,h5,h6⟩
  exact ⟨g,cap,cur,h3,h4,(hb.block g ((Array.getElem?_eq_some_iff.1 h5).1)).trans h5,h6⟩
theorem qb3 {T e:TypeId}{B b:Nat}{p:Value}{bs:List Value}{w w' :World}(h:BuilderAt T e B b p bs w)(hb:RowKit.Below w.heap.size w w'):BuilderAt T e B b p bs w' :=by
  have lt:=h.lt
  obtain ⟨hB,v,h1,h2,h3⟩:=h
  exact ⟨hB,v,(hb.block b lt).trans h1,qwf h2 hb,h3⟩
theorem qvk: ∀ (k u:Nat),u<10 ^ (k+1)→Lib.nDigits u≤k+1
  | 0,u,h=>by rw [Lib.nDigits,dif_pos (by simpa using h)]; exact Nat.le_refl 1
  | k+1,u,h=>by
    rw [Lib.nDigits]
    split
    · omega
    · have:=qvk k (u / 10) (by rw [Nat.pow_succ] at h; omega)
      omega
theorem qp3 (x:Int)(h:inI64 x=true):(Lib.itoa x).length≤20:=by
  unfold inI64 at h
  simp only [Bool.and_eq_true,decide_eq_true_eq] at h
  unfold Lib.itoa
  split
  · rw [List.length_cons,Lib.decDigits_length]
    have:=qvk 18 x.natAbs (by omega)
    omega
  · rw [Lib.decDigits_length]
    have:=qvk 18 x.toNat (by omega)
    omega
theorem qog (xs:List Int)(h: ∀ x∈xs,inI64 x=true):(xs.flatMap fun n=>32::Lib.itoa n).length≤21*xs.length:=by
  induction xs with
  | nil=>simp
  | cons x l ih=>
    have a:=qp3 x (h x List.mem_cons_self)
    have b:=ih fun y hy=>h y (List.mem_cons_of_mem _ hy)
    simp only [List.flatMap_cons,List.length_append,List.length_cons] at b ⊢
    omega
theorem qx5 (word:ByteArray)(xs:List Int)(k:Nat)(hl:xs.length≤1000)(h: ∀ x∈xs,inI64 x=true):(Lib.byteCells (spacedL word.data.toList (xs.take k))).length≤word.size+21000:=by
  have a:=qog (xs.take k) fun x hx=>h x (List.mem_of_mem_take hx)
  have b:(xs.take k).length≤xs.length:=by rw [List.length_take]; omega
  rw [Lib.byteCells_length,spacedL,List.length_append,Array.length_toList]
  have:word.data.size=word.size:=rfl
  omega
theorem qx6 (word:ByteArray)(xs:List Int)(k:Nat)(x:Int)(h:xs[k]? =some x):Lib.byteCells (spacedL word.data.toList (xs.take (k+1)))=Lib.byteCells (spacedL word.data.toList (xs.take k))++Lib.byteCells (32::Lib.itoa x):=by
  obtain ⟨hk,hx⟩:=List.getElem?_eq_some_iff.1 h
  rw [List.take_succ_eq_append_getElem hk,hx,← Lib.byteCells_append]
  simp [spacedL]
theorem q0m (word:ByteArray)(xs:List Int)(b:Addr)(c:Nat)(w:World)(hk:Kept w)(hw:word.size≤1000)(hl:xs.length≤1000)(hx: ∀ x∈xs,inI64 x=true)(hc: ∀ i x,xs[i]? =some x→w.cell? (b.add i)=some (.int .i64 x)):
    Calls Tryz.prog 30 #[.string word,.slice (some b) xs.length c] w fun e w' =>e=.returned (.string ⟨(spacedL word.data.toList xs).toArray⟩)∧Below w.heap.size w w' :=by
  have h0:Lib.IsBuilder 117 5 w.heap.size w.heap.size [] (w.alloc (.cells #[.pointer none,.slice none 0 0] 117)):=Lib.fresh_isBuilder 117 5 w
  have b0:Below w.heap.size w (w.alloc (.cells #[.pointer none,.slice none 0 0] 117)):=(Below.refl _ w).alloc (Nat.le_refl _) _
  go_enter Tryz.func30,Tryz.ntmps30
  go_wp2_with (go_at_call 72; refine (Tryz.Builder_WriteString w.heap.size w.heap.size [] word _ h0 (by simp; omega) b0.size).mono ?_)
  rintro e W1 ⟨rfl,h1,b1⟩
  have h1' :BuilderAt 117 5 w.heap.size w.heap.size (.pointer (some ⟨w.heap.size,0,none⟩)) (Lib.byteCells (spacedL word.data.toList (xs.take 0))) W1:=by
    rw [List.nil_append,strCells_eq] at h1
    simpa [spacedL] using h1
  have b1' :=b0.trans b1
  clear h0 b0 h1 b1
  go_wp2
  go_loopw [13] (fun i wr=> ∃ k:Nat,k≤xs.length∧i=.int .i64 k∧BuilderAt 117 5 w.heap.size w.heap.size (.pointer (some ⟨w.heap.size,0,none⟩)) (Lib.byteCells (spacedL word.data.toList (xs.take k))) wr∧RowKit.Below w.heap.size w wr) (fun i _=>xs.length - (RowKit.intOf i).toNat)
  case atStart=>exact ⟨0,Nat.zero_le _,rfl,h1',b1'⟩
  case round=>
    obtain ⟨k,hkl,rfl,hB,hnx⟩:=hrel
    clear h1' b1'
    have hR:=qx5 word xs k hl hx
    by_cases hlt:k<xs.length
    · obtain ⟨x,ex⟩: ∃ x,xs[k]? =some x:=⟨_,List.getElem?_eq_getElem hlt⟩
      have e0:wr.cell? (b.add k)=some (.int .i64 x):=(hnx.cell (World.block_lt_of_cell? _ _ (hc k x ex))).trans (hc k x ex)
      have cF:=qop x (hx x (List.mem_of_getElem? ex)) wr (qqi hk hnx)
      have hS:=qx6 word xs k x ex
      have hsz:=qp3 x (hx x (List.mem_of_getElem? ex))
      go_wp2_with (go_at_call 40; refine cF.mono ?_)
      rintro e W2 ⟨rfl,b2⟩
      have hB2:=qb3 hB b2
      have b2' :=hnx.trans (b2.mono hnx.size)
      clear cF e0 hB hnx b2
      go_wp2_with (go_at_call 72; refine (Tryz.Builder_WriteString w.heap.size w.heap.size _ _ _ (Or.inr hB2) ?_ b2'.size).mono ?_)
      · rw [ByteArray.size_append]
        have s1:({ data:=(Lib.itoa x).toArray } :ByteArray).size=(Lib.itoa x).length:=List.size_toArray ..
        have s2:({ data:= #[32] } :ByteArray).size=1:=rfl
        omega
      rintro e W3 ⟨rfl,h3,b3⟩
      go_wp2
      go_roundw
      case rel=>exact ⟨k+1,by omega,by go_num,hS ▸ h3,b2'.trans b3⟩
      case measure=>simp [RowKit.intOf]; omega
    · go_wp2_with (go_at_call 73; refine (Tryz.Builder_String_any w.heap.size w.heap.size (spacedL word.data.toList (xs.take k)) _ (Or.inr hB) hnx.size).mono ?_)
      rintro e W2 ⟨rfl,b2⟩
      go_wp2
      go_ret
      refine ⟨?_,hnx.trans b2⟩
      rw [List.take_of_length_le (by omega)]; rfl
theorem q0l (word:ByteArray)(c:Nat)(w:World)(hk:Kept w)(hw:word.size≤1000):
    Calls Tryz.prog 30 #[.string word,.slice none 0 c] w fun e w' =>e=.returned (.string ⟨(spacedL word.data.toList []).toArray⟩)∧Below w.heap.size w w' :=by
  have h0:Lib.IsBuilder 117 5 w.heap.size w.heap.size [] (w.alloc (.cells #[.pointer none,.slice none 0 0] 117)):=Lib.fresh_isBuilder 117 5 w
  have b0:Below w.heap.size w (w.alloc (.cells #[.pointer none,.slice none 0 0] 117)):=(Below.refl _ w).alloc (Nat.le_refl _) _
  go_enter Tryz.func30,Tryz.ntmps30
  go_wp2_with (go_at_call 72; refine (Tryz.Builder_WriteString w.heap.size w.heap.size [] word _ h0 (by simp; omega) b0.size).mono ?_)
  rintro e W1 ⟨rfl,h1,b1⟩
  have h1' :BuilderAt 117 5 w.heap.size w.heap.size (.pointer (some ⟨w.heap.size,0,none⟩)) (Lib.byteCells (spacedL word.data.toList [])) W1:=by
    rw [List.nil_append,strCells_eq] at h1
    simpa [spacedL] using h1
  have b1' :=b0.trans b1
  clear h0 b0 h1 b1
  go_wp2
  go_loopw [13] (fun i wr=> ∃ k:Nat,k≤0∧i=.int .i64 k∧BuilderAt 117 5 w.heap.size w.heap.size (.pointer (some ⟨w.heap.size,0,none⟩)) (Lib.byteCells (spacedL word.data.toList [])) wr∧RowKit.Below w.heap.size w wr) (fun i _=>0 - (RowKit.intOf i).toNat)
  case atStart=>exact ⟨0,Nat.zero_le _,rfl,h1',b1'⟩
  case round=>
    obtain ⟨k,hkl,rfl,hB,hnx⟩:=hrel
    clear h1' b1'
    obtain rfl:k=0:=by omega
    go_wp2_with (go_at_call 73; refine (Tryz.Builder_String_any w.heap.size w.heap.size (spacedL word.data.toList []) _ (Or.inr hB) hnx.size).mono ?_)
    rintro e W2 ⟨rfl,b2⟩
    go_wp2
    go_ret
    refine ⟨?_,hnx.trans b2⟩
    rfl
end Go.Proofs.YtjfjniebmdafeaaGreatDoor
end
section
namespace Go.Proofs.YtjfjniebmdafeaaGreatDoor
open Go.Ev
def qzf (x0:Int)(z1:Bool)(l2:L3)(z3:Bool)(l4:LI)(z5:Bool)(l6:LI)(z7:Bool)(l8:LI)(x9:Int):St:=⟨fill 84 [(1,.ptr 4 0 0),(3,.int .i64 x0)],[],[.arr false z1 (.r3 l2),.arr false z3 (.ints .i64 l4),.arr false z5 (.ints .i64 l6),.arr false z7 (.ints .i64 l8),sB true 0 x9]⟩
def qzg (x0:Int)(z1:Bool)(l2:L3)(z3:Bool)(l4:LI)(z5:Bool)(l6:LI)(z7:Bool)(l8:LI)(x9:Int):St:=⟨fill 84 [(1,.ptr 4 0 0),(4,.int .i64 x0)],[],[.arr false z1 (.r3 l2),.arr false z3 (.ints .i64 l4),.arr false z5 (.ints .i64 l6),.arr false z7 (.ints .i64 l8),sB true 0 x9]⟩
theorem qmn (k:Nat)(a0:Int)(a1z:Bool)(a1:L3)(a2z:Bool)(a2:LI)(a3z:Bool)(a3:LI)(a4z:Bool)(a4:LI):go (k+1) spec_StateOk [sV false a0 a1z a1 a2z a2 a3z a3 a4z a4]=
 (go k spec_IsBalanced [.agg [.int .i64 a0,.arr false a1z (.r3 a1)]]).bind fun r0=>
 cond (!bit (nth r0 0))
 (some [.bool false])
 (cond (!decide (nI (List.length a2)=nI (List.length a1)))
 (some [.bool false])
 (cond (!decide (nI (List.length a3)=nI (List.length a2)))
 (some [.bool false])
 (cond (!decide (nI (List.length a4)=a0))
 (some [.bool false])
 (lp k spec_StateOk [] [] 4 k (qzf 0 a1z a1 a2z a2 a3z a3 a4z a4 a0))))):=by kernel_rfl
theorem qru (k n:Nat)(fu:FU)(x0:Int)(z1:Bool)(l2:L3)(z3:Bool)(l4:LI)(z5:Bool)(l6:LI)(z7:Bool)(l8:LI)(x9:Int):lp k spec_StateOk [] fu 4 (n+1) (qzf x0 z1 l2 z3 l4 z5 l6 z7 l8 x9)=
 cond (decide (x0<nI (List.length l4)))
 (cond (decide (0≤x0)&&decide (x0<nI (List.length l4)))
 ((go k spec_l01In [.int .i64 (List.getD l4 (Int.toNat x0) 0),.int .i64 0,.int .i64 10000000]).bind fun r0=>
 cond (!bit (nth r0 0))
 (some [.bool false])
 (cond (decide (0≤x0)&&decide (x0<nI (List.length l6)))
 (cond (decide (0≤x0)&&decide (x0<nI (List.length l4)))
 ((go k spec_l01In [.int .i64 (List.getD l6 (Int.toNat x0) 0),.int .i64 0,.int .i64 (IntKind.wrap .i64 (1000*List.getD l4 (Int.toNat x0) 0))]).bind fun r1=>
 cond (!bit (nth r1 0))
 (some [.bool false])
 (lp k spec_StateOk [] fu 4 n (qzf (IntKind.wrap .i64 (x0+1)) z1 l2 z3 l4 z5 l6 z7 l8 x9)))
 none)
 none))
 none)
 (lp k spec_StateOk [] fu 9 k (qzg 0 z1 l2 z3 l4 z5 l6 z7 l8 x9)):=by kernel_rfl
theorem qrv (k n:Nat)(fu:FU)(x0:Int)(z1:Bool)(l2:L3)(z3:Bool)(l4:LI)(z5:Bool)(l6:LI)(z7:Bool)(l8:LI)(x9:Int):lp k spec_StateOk [] fu 9 (n+1) (qzg x0 z1 l2 z3 l4 z5 l6 z7 l8 x9)=
 cond (decide (x0<nI (List.length l8)))
 (cond (decide (0≤x0)&&decide (x0<nI (List.length l8)))
 ((go k spec_l01In [.int .i64 (List.getD l8 (Int.toNat x0) 0),.int .i64 0,.int .i64 1000000]).bind fun r0=>
 cond (!bit (nth r0 0))
 (some [.bool false])
 (lp k spec_StateOk [] fu 9 n (qzg (IntKind.wrap .i64 (x0+1)) z1 l2 z3 l4 z5 l6 z7 l8 x9)))
 none)
 ((go k spec_l07Sum [.arr false z3 (.ints .i64 l4)]).bind fun r1=>
 some [.bool (decide (D.toInt (nth r1 0)≤10000000))]):=by kernel_rfl
theorem qj8 (k:Nat)(a0:Int)(a1z:Bool)(a1:L3)(a2z:Bool)(a2:LI)(a3z:Bool)(a3:LI)(a4z:Bool)(a4:LI):go (k+1) impl_StateOk [sV false a0 a1z a1 a2z a2 a3z a3 a4z a4]=
 (go k impl_IsBalanced [.agg [.int .i64 a0,.arr false a1z (.r3 a1)]]).bind fun r0=>
 cond (bit (nth r0 0))
 ((go k impl_State_hasCells [sV false a0 a1z a1 a2z a2 a3z a3 a4z a4]).bind fun r1=>
 some [.bool (bit (nth r1 0))])
 (some [.bool false]):=by kernel_rfl
def qym (x0 x1:Int)(z2:Bool)(l3:L3)(z4:Bool)(l5:LI)(z6:Bool)(l7:LI)(z8:Bool)(l9:LI)(x10:Int):St:=⟨fill 63 [(1,.ptr 4 0 0),(37,.sl 1 none),(38,.int .i64 x0),(39,.int .i64 x1)],[],[.arr false z2 (.r3 l3),.arr false z4 (.ints .i64 l5),.arr false z6 (.ints .i64 l7),.arr false z8 (.ints .i64 l9),sB true 0 x10]⟩
theorem qkf (k:Nat)(a0:Int)(a1z:Bool)(a1:L3)(a2z:Bool)(a2:LI)(a3z:Bool)(a3:LI)(a4z:Bool)(a4:LI):go (k+1) impl_State_hasCells [sV false a0 a1z a1 a2z a2 a3z a3 a4z a4]=
 cond (!decide (nI (List.length a2)=nI (List.length a1)))
 (some [.bool false])
 (cond (!decide (nI (List.length a3)=nI (List.length a1)))
 (some [.bool false])
 (cond (!decide (nI (List.length a4)=a0))
 (some [.bool false])
 ((go k slices_ContainsFunc_int_int [.arr false a4z (.ints .i64 a4),.fn impl_State_hasCells_1 []]).bind fun r0=>
 cond (bit (nth r0 0))
 (some [.bool false])
 (lp k impl_State_hasCells [] [] 5 k (qym (nI (List.length a2)) 0 a1z a1 a2z a2 a3z a3 a4z a4 a0))))):=by kernel_rfl
theorem qq1 (k n:Nat)(fu:FU)(x0 x1:Int)(z2:Bool)(l3:L3)(z4:Bool)(l5:LI)(z6:Bool)(l7:LI)(z8:Bool)(l9:LI)(x10:Int):lp k impl_State_hasCells [] fu 5 (n+1) (qym x0 x1 z2 l3 z4 l5 z6 l7 z8 l9 x10)=
 cond (decide (x1<x0))
 (cond (decide (0≤x1)&&decide (x1<nI (List.length l5)))
 ((go k impl_within [.int .i64 (List.getD l5 (Int.toNat x1) 0),.int .i64 0,.int .i64 10000000]).bind fun r0=>
 cond (!bit (nth r0 0))
 (some [.bool false])
 (cond (decide (0≤x1)&&decide (x1<nI (List.length l7)))
 ((go k impl_within [.int .i64 (List.getD l7 (Int.toNat x1) 0),.int .i64 0,.int .i64 (IntKind.wrap .i64 (1000*List.getD l5 (Int.toNat x1) 0))]).bind fun r1=>
 cond (!bit (nth r1 0))
 (some [.bool false])
 (lp k impl_State_hasCells [] fu 5 n (qym x0 (IntKind.wrap .i64 (x1+1)) z2 l3 z4 l5 z6 l7 z8 l9 x10)))
 none))
 none)
 ((go k impl_sum [.arr false z4 (.ints .i64 l5)]).bind fun r2=>
 some [.bool (decide (D.toInt (nth r2 0)≤10000000))]):=by kernel_rfl
theorem qkg (k:Nat)(a:Int):go (k+1) impl_State_hasCells_1 [.int .i64 a]=
 (go k impl_isBed [.int .i64 a]).bind fun r0=>
 some [.bool (!bit (nth r0 0))]:=by kernel_rfl
theorem qk8 (k:Nat)(a:Int):go (k+1) impl_isBed [.int .i64 a]=
 (go k impl_within [.int .i64 a,.int .i64 0,.int .i64 1000000]).bind fun r0=>
 some [.bool (bit (nth r0 0))]:=by kernel_rfl
def qzm (x0 x1:Int)(z2:Bool)(l3:LI):St:=⟨fill 18 [(0,.sl 0 none),(3,.int .i64 x0),(4,.int .i64 x1)],[],[.arr false z2 (.ints .i64 l3)]⟩
theorem qm9 (k:Nat)(az:Bool)(a:LI):go (k+1) spec_l07Sum [.arr false az (.ints .i64 a)]=
 lp k spec_l07Sum [] [] 3 k (qzm 0 0 az a):=by kernel_rfl
theorem qr1 (k n:Nat)(fu:FU)(x0 x1:Int)(z2:Bool)(l3:LI):lp k spec_l07Sum [] fu 3 (n+1) (qzm x0 x1 z2 l3)=
 cond (decide (x1<nI (List.length l3)))
 (cond (decide (0≤x1)&&decide (x1<nI (List.length l3)))
 (lp k spec_l07Sum [] fu 3 n (qzm (IntKind.wrap .i64 (x0+List.getD l3 (Int.toNat x1) 0)) (IntKind.wrap .i64 (x1+1)) z2 l3))
 none)
 (some [.int .i64 x0]):=by kernel_rfl
def qyw (x0 x1 x2:Int)(z3:Bool)(l4:LI):St:=⟨fill 17 [(3,.int .i64 x0),(6,.sl 0 none),(7,.int .i64 x1),(8,.int .i64 x2)],[],[.arr false z3 (.ints .i64 l4)]⟩
theorem qlf (k:Nat)(az:Bool)(a:LI):go (k+1) impl_sum [.arr false az (.ints .i64 a)]=
 lp k impl_sum [] [] 3 k (qyw 0 (nI (List.length a)) 0 az a):=by kernel_rfl
theorem qrb (k n:Nat)(fu:FU)(x0 x1 x2:Int)(z3:Bool)(l4:LI):lp k impl_sum [] fu 3 (n+1) (qyw x0 x1 x2 z3 l4)=
 cond (decide (x2<x1))
 (cond (decide (0≤x2)&&decide (x2<nI (List.length l4)))
 (lp k impl_sum [] fu 3 n (qyw (IntKind.wrap .i64 (x0+List.getD l4 (Int.toNat x2) 0)) x1 (IntKind.wrap .i64 (x2+1)) z3 l4))
 none)
 (some [.int .i64 x0]):=by kernel_rfl
def qy1 (x0 x1:Int)(z2:Bool)(l3:LI):St:=⟨fill 19 [(0,.sl 0 none),(1,.fn impl_State_hasCells_1 []),(7,.int .i64 x0),(8,.int .i64 x1)],[],[.arr false z2 (.ints .i64 l3)]⟩
theorem qlr (k:Nat)(v0:Bool)(v1:LI):go (k+1) slices_IndexFunc_int_int [.arr false v0 (.ints .i64 v1),.fn impl_State_hasCells_1 []]=
 lp k slices_IndexFunc_int_int [] [] 2 k (qy1 (nI (List.length v1)) 0 v0 v1):=by kernel_rfl
theorem qrg (k n:Nat)(fu:FU)(x0 x1:Int)(z2:Bool)(l3:LI):lp k slices_IndexFunc_int_int [] fu 2 (n+1) (qy1 x0 x1 z2 l3)=
 cond (decide (x1<x0))
 (cond (decide (0≤x1)&&decide (x1<nI (List.length l3)))
 ((go k impl_State_hasCells_1 [.int .i64 (List.getD l3 (Int.toNat x1) 0)]).bind fun r0=>
 cond (bit (nth r0 0))
 (some [.int .i64 x1])
 (lp k slices_IndexFunc_int_int [] fu 2 n (qy1 x0 (IntKind.wrap .i64 (x1+1)) z2 l3)))
 none)
 (some [.int .i64 ((-1:Int))]):=by kernel_rfl
theorem qlo (k:Nat)(v0:Bool)(v1:LI):go (k+1) slices_ContainsFunc_int_int [.arr false v0 (.ints .i64 v1),.fn impl_State_hasCells_1 []]=
 (go k slices_IndexFunc_int_int [.arr false v0 (.ints .i64 v1),.fn impl_State_hasCells_1 []]).bind fun r0=>
 some [.bool (decide (0≤D.toInt (nth r0 0)))]:=by kernel_rfl
theorem qmw (k:Nat)(a0:Int)(a1z:Bool)(a1:L3):go (k+1) spec_l04Copy [.agg [.int .i64 a0,.arr false a1z (.r3 a1)]]=
 cond (decide (List.length ([]++a1)≤bigLen))
 (some [.agg [.int .i64 a0,.arr true (false&&decide (List.length ([]++a1)=0)) (.r3 ([]++a1))]])
 none:=by kernel_rfl
theorem qm7 (k:Nat)(a0:Int)(a1z:Bool)(a1:L3)(a2z:Bool)(a2:LI)(a3z:Bool)(a3:LI)(a4z:Bool)(a4:LI):go (k+1) spec_l07Copy [sV false a0 a1z a1 a2z a2 a3z a3 a4z a4]=
 (go k spec_l04Copy [.agg [.int .i64 a0,.arr false a1z (.r3 a1)]]).bind fun r0=>
 cond (decide (List.length ([]++a2)≤bigLen))
 (cond (decide (List.length ([]++a3)≤bigLen))
 (cond (decide (List.length ([]++a4)≤bigLen))
 (some [.agg [.int .i64 (D.toInt (D.cell 0 (nth r0 0))),.arr true (D.nil (D.cell 1 (nth r0 0))) (.r3 (D.r3 (D.cell 1 (nth r0 0)))),.arr true (false&&decide (List.length ([]++a2)=0)) (.ints .i64 ([]++a2)),.arr true (false&&decide (List.length ([]++a3)=0)) (.ints .i64 ([]++a3)),.arr true (false&&decide (List.length ([]++a4)=0)) (.ints .i64 ([]++a4))]])
 none)
 none)
 none:=by kernel_rfl
theorem qk2 (k:Nat)(a0:Int)(a1z:Bool)(a1:L3):go (k+1) impl_copyMesh [.agg [.int .i64 a0,.arr false a1z (.r3 a1)]]=
 (go k slices_Clone_impl_Id_impl_Id [.arr false a1z (.r3 a1)]).bind fun r0=>
 some [.agg [.int .i64 a0,.arr true (D.nil (nth r0 0)) (.r3 (D.r3 (nth r0 0)))]]:=by kernel_rfl
theorem qk3 (k:Nat)(a0:Int)(a1z:Bool)(a1:L3)(a2z:Bool)(a2:LI)(a3z:Bool)(a3:LI)(a4z:Bool)(a4:LI):go (k+1) impl_copyState [sV false a0 a1z a1 a2z a2 a3z a3 a4z a4]=
 (go k impl_copyMesh [.agg [.int .i64 a0,.arr false a1z (.r3 a1)]]).bind fun r0=>
 (go k slices_Clone_int_int [.arr false a2z (.ints .i64 a2)]).bind fun r1=>
 (go k slices_Clone_int_int [.arr false a3z (.ints .i64 a3)]).bind fun r2=>
 (go k slices_Clone_int_int [.arr false a4z (.ints .i64 a4)]).bind fun r3=>
 some [.agg [.int .i64 (D.toInt (D.cell 0 (nth r0 0))),.arr true (D.nil (D.cell 1 (nth r0 0))) (.r3 (D.r3 (D.cell 1 (nth r0 0)))),.arr true (D.nil (nth r1 0)) (.ints .i64 (D.ints (nth r1 0))),.arr true (D.nil (nth r2 0)) (.ints .i64 (D.ints (nth r2 0))),.arr true (D.nil (nth r3 0)) (.ints .i64 (D.ints (nth r3 0)))]]:=by kernel_rfl
theorem qlm (k:Nat)(az:Bool)(a:LI):go (k+1) slices_Clone_int_int [.arr false az (.ints .i64 a)]=
 cond az
 (some [.arr true true (.ints .i64 [])])
 (cond (decide (List.length ([]++a)≤bigLen))
 (some [.arr true (false&&decide (List.length ([]++a)=0)) (.ints .i64 ([]++a))])
 none):=by kernel_rfl
theorem qll (k:Nat)(az:Bool)(a:L3):go (k+1) slices_Clone_impl_Id_impl_Id [.arr false az (.r3 a)]=
 cond az
 (some [.arr true true (.r3 [])])
 (cond (decide (List.length ([]++a)≤bigLen))
 (some [.arr true (false&&decide (List.length ([]++a)=0)) (.r3 ([]++a))])
 none):=by kernel_rfl
theorem qkt (k:Nat)(a0:Int)(a1z:Bool)(a1:L3)(a2z:Bool)(a2:LI)(a3z:Bool)(a3:LI)(a4z:Bool)(a4:LI):go (k+1) impl_TotalMass [sV false a0 a1z a1 a2z a2 a3z a3 a4z a4]=
 (go k impl_StateOk [sV false a0 a1z a1 a2z a2 a3z a3 a4z a4]).bind fun r0=>
 cond (!bit (nth r0 0))
 (some [.int .i64 0])
 ((go k impl_sum [.arr false a2z (.ints .i64 a2)]).bind fun r1=>
 some [.int .i64 (D.toInt (nth r1 0))]):=by kernel_rfl

end Go.Proofs.YtjfjniebmdafeaaGreatDoor
end
section
namespace Go.Proofs.YtjfjniebmdafeaaGreatDoor
open Go.Ev
theorem qmu (k:Nat)(a b c:Int):go (k+1) spec_l01In [.int .i64 a,.int .i64 b,.int .i64 c]=
 cond (decide (b≤a))
 (some [.bool (decide (a≤c))])
 (some [.bool false]):=by kernel_rfl
theorem qlg (k:Nat)(a b c:Int):go (k+1) impl_within [.int .i64 a,.int .i64 b,.int .i64 c]=
 cond (decide (b≤a))
 (some [.bool (decide (a≤c))])
 (some [.bool false]):=by kernel_rfl
theorem qk9 (k:Nat)(a:Int):go (k+1) impl_isLevel [.int .i64 a]=
 (go k impl_within [.int .i64 a,.int .i64 0,.int .i64 4]).bind fun r0=>
 some [.bool (bit (nth r0 0))]:=by kernel_rfl
theorem ql7 (k:Nat)(a0 a1 a2:Int):go (k+1) spec_IdOk [.agg [.int .i64 a0,.int .i64 a1,.int .i64 a2]]=
 (go k spec_l01In [.int .i64 a0,.int .i64 0,.int .i64 7]).bind fun r0=>
 cond (bit (nth r0 0))
 ((go k spec_l01In [.int .i64 a1,.int .i64 0,.int .i64 4]).bind fun r1=>
 cond (bit (nth r1 0))
 (cond (decide (0≤a2))
 (cond (decide (0≤IntKind.wrap IntKind.u64 a1))
 (some [.bool (decide (a2<IntKind.wrap .i64 (1*2 ^ shiftN .i64 (IntKind.wrap IntKind.u64 a1))))])
 none)
 (some [.bool false]))
 (some [.bool false]))
 (some [.bool false]):=by kernel_rfl
theorem qjd (k:Nat)(a0 a1 a2:Int):go (k+1) impl_IdOk [.agg [.int .i64 a0,.int .i64 a1,.int .i64 a2]]=
 (go k impl_within [.int .i64 a0,.int .i64 0,.int .i64 7]).bind fun r0=>
 cond (bit (nth r0 0))
 ((go k impl_isLevel [.int .i64 a1]).bind fun r1=>
 cond (bit (nth r1 0))
 (cond (decide (0≤a1))
 ((go k impl_within [.int .i64 a2,.int .i64 0,.int .i64 (IntKind.wrap .i64 (IntKind.wrap .i64 (1*2 ^ shiftN .i64 a1) - 1))]).bind fun r2=>
 some [.bool (bit (nth r2 0))])
 none)
 (some [.bool false]))
 (some [.bool false]):=by kernel_rfl
theorem qmo (k:Nat)(a:Int):go (k+1) spec_WidthOf [.int .i64 a]=
 (go k spec_l01In [.int .i64 a,.int .i64 0,.int .i64 4]).bind fun r0=>
 cond (!bit (nth r0 0))
 (some [.int .i64 0])
 (cond (decide (0≤IntKind.wrap IntKind.u64 a))
 (some [.int .i64 (Int.fdiv 16 (2 ^ shiftN .i64 (IntKind.wrap IntKind.u64 a)))])
 none):=by kernel_rfl
theorem qku (k:Nat)(a:Int):go (k+1) impl_WidthOf [.int .i64 a]=
 (go k impl_isLevel [.int .i64 a]).bind fun r0=>
 cond (!bit (nth r0 0))
 (some [.int .i64 0])
 (cond (decide (0≤a))
 (some [.int .i64 (Int.fdiv 16 (2 ^ shiftN .i64 a))])
 none):=by kernel_rfl
theorem qmm (k:Nat)(a0 a1 a2:Int):go (k+1) spec_StartOf [.agg [.int .i64 a0,.int .i64 a1,.int .i64 a2]]=
 (go k spec_IdOk [.agg [.int .i64 a0,.int .i64 a1,.int .i64 a2]]).bind fun r0=>
 cond (!bit (nth r0 0))
 (some [.int .i64 ((-1:Int))])
 ((go k spec_WidthOf [.int .i64 a1]).bind fun r1=>
 some [.int .i64 (IntKind.wrap .i64 (IntKind.wrap .i64 (a0*16)+IntKind.wrap .i64 (a2*D.toInt (nth r1 0))))]):=by kernel_rfl
theorem qj6 (k:Nat)(a0 a1 a2:Int):go (k+1) impl_StartOf [.agg [.int .i64 a0,.int .i64 a1,.int .i64 a2]]=
 (go k impl_IdOk [.agg [.int .i64 a0,.int .i64 a1,.int .i64 a2]]).bind fun r0=>
 cond (!bit (nth r0 0))
 (some [.int .i64 ((-1:Int))])
 ((go k impl_WidthOf [.int .i64 a1]).bind fun r1=>
 some [.int .i64 (IntKind.wrap .i64 (IntKind.wrap .i64 (a0*16)+IntKind.wrap .i64 (a2*D.toInt (nth r1 0))))]):=by kernel_rfl
theorem qmx (k:Nat)(a0 a1 a2:Int):go (k+1) spec_l04End [.agg [.int .i64 a0,.int .i64 a1,.int .i64 a2]]=
 (go k spec_StartOf [.agg [.int .i64 a0,.int .i64 a1,.int .i64 a2]]).bind fun r0=>
 (go k spec_WidthOf [.int .i64 a1]).bind fun r1=>
 some [.int .i64 (IntKind.wrap .i64 (D.toInt (nth r0 0)+D.toInt (nth r1 0)))]:=by kernel_rfl
theorem qk5 (k:Nat)(a0 a1 a2:Int):go (k+1) impl_endOf [.agg [.int .i64 a0,.int .i64 a1,.int .i64 a2]]=
 (go k impl_StartOf [.agg [.int .i64 a0,.int .i64 a1,.int .i64 a2]]).bind fun r0=>
 (go k impl_WidthOf [.int .i64 a1]).bind fun r1=>
 some [.int .i64 (IntKind.wrap .i64 (D.toInt (nth r0 0)+D.toInt (nth r1 0)))]:=by kernel_rfl
def qzc (x0 x1:Int)(z2:Bool)(l3:L3)(x4:Int):St:=⟨fill 45 [(1,.ptr 1 0 0),(3,.int .i64 x0),(4,.int .i64 x1)],[],[.arr false z2 (.r3 l3),.box true [.int .i64 x4,.sl 0 none]]⟩
theorem qmf (k:Nat)(a0:Int)(a1z:Bool)(a1:L3):go (k+1) spec_MeshOk [.agg [.int .i64 a0,.arr false a1z (.r3 a1)]]=
 lp k spec_MeshOk [] [] 3 k (qzc 0 0 a1z a1 a0):=by kernel_rfl
theorem qrr (k n:Nat)(fu:FU)(x0 x1:Int)(z2:Bool)(l3:L3)(x4:Int):lp k spec_MeshOk [] fu 3 (n+1) (qzc x0 x1 z2 l3 x4)=
 cond (decide (x1<nI (List.length l3)))
 (cond (decide (0≤x1)&&decide (x1<nI (List.length l3)))
 ((go k spec_IdOk [.agg [.int .i64 (Prod.fst (List.getD l3 (Int.toNat x1) zz3)),.int .i64 (Prod.fst (Prod.snd (List.getD l3 (Int.toNat x1) zz3))),.int .i64 (Prod.snd (Prod.snd (List.getD l3 (Int.toNat x1) zz3)))]]).bind fun r0=>
 cond (!bit (nth r0 0))
 (some [.bool false])
 (cond (decide (0≤x1)&&decide (x1<nI (List.length l3)))
 ((go k spec_StartOf [.agg [.int .i64 (Prod.fst (List.getD l3 (Int.toNat x1) zz3)),.int .i64 (Prod.fst (Prod.snd (List.getD l3 (Int.toNat x1) zz3))),.int .i64 (Prod.snd (Prod.snd (List.getD l3 (Int.toNat x1) zz3)))]]).bind fun r1=>
 cond (!decide (D.toInt (nth r1 0)=x0))
 (some [.bool false])
 (cond (decide (0≤x1)&&decide (x1<nI (List.length l3)))
 ((go k spec_l04End [.agg [.int .i64 (Prod.fst (List.getD l3 (Int.toNat x1) zz3)),.int .i64 (Prod.fst (Prod.snd (List.getD l3 (Int.toNat x1) zz3))),.int .i64 (Prod.snd (Prod.snd (List.getD l3 (Int.toNat x1) zz3)))]]).bind fun r2=>
 lp k spec_MeshOk [] fu 3 n (qzc (D.toInt (nth r2 0)) (IntKind.wrap .i64 (x1+1)) z2 l3 x4))
 none))
 none))
 none)
 ((go k spec_l01In [.int .i64 x4,.int .i64 1,.int .i64 8]).bind fun r3=>
 cond (bit (nth r3 0))
 (some [.bool (decide (x0=IntKind.wrap .i64 (x4*16)))])
 (some [.bool false])):=by kernel_rfl
def qya (x0 x1 x2:Int)(z3:Bool)(l4:L3)(x5:Int):St:=⟨fill 35 [(1,.ptr 1 0 0),(3,.int .i64 x0),(7,.sl 0 none),(8,.int .i64 x1),(9,.int .i64 x2)],[],[.arr false z3 (.r3 l4),.box true [.int .i64 x5,.sl 0 none]]⟩
theorem qjm (k:Nat)(a0:Int)(a1z:Bool)(a1:L3):go (k+1) impl_MeshOk [.agg [.int .i64 a0,.arr false a1z (.r3 a1)]]=
 lp k impl_MeshOk [] [] 3 k (qya 0 (nI (List.length a1)) 0 a1z a1 a0):=by kernel_rfl
theorem qqp (k n:Nat)(fu:FU)(x0 x1 x2:Int)(z3:Bool)(l4:L3)(x5:Int):lp k impl_MeshOk [] fu 3 (n+1) (qya x0 x1 x2 z3 l4 x5)=
 cond (decide (x2<x1))
 (cond (decide (0≤x2)&&decide (x2<nI (List.length l4)))
 ((go k impl_IdOk [.agg [.int .i64 (Prod.fst (List.getD l4 (Int.toNat x2) zz3)),.int .i64 (Prod.fst (Prod.snd (List.getD l4 (Int.toNat x2) zz3))),.int .i64 (Prod.snd (Prod.snd (List.getD l4 (Int.toNat x2) zz3)))]]).bind fun r0=>
 cond (!bit (nth r0 0))
 (some [.bool false])
 ((go k impl_StartOf [.agg [.int .i64 (Prod.fst (List.getD l4 (Int.toNat x2) zz3)),.int .i64 (Prod.fst (Prod.snd (List.getD l4 (Int.toNat x2) zz3))),.int .i64 (Prod.snd (Prod.snd (List.getD l4 (Int.toNat x2) zz3)))]]).bind fun r1=>
 cond (!decide (D.toInt (nth r1 0)=x0))
 (some [.bool false])
 ((go k impl_endOf [.agg [.int .i64 (Prod.fst (List.getD l4 (Int.toNat x2) zz3)),.int .i64 (Prod.fst (Prod.snd (List.getD l4 (Int.toNat x2) zz3))),.int .i64 (Prod.snd (Prod.snd (List.getD l4 (Int.toNat x2) zz3)))]]).bind fun r2=>
 lp k impl_MeshOk [] fu 3 n (qya (D.toInt (nth r2 0)) x1 (IntKind.wrap .i64 (x2+1)) z3 l4 x5))))
 none)
 ((go k impl_within [.int .i64 x5,.int .i64 1,.int .i64 8]).bind fun r3=>
 cond (bit (nth r3 0))
 (some [.bool (decide (x0=IntKind.wrap .i64 (x5*16)))])
 (some [.bool false])):=by kernel_rfl
theorem qm1 (k:Nat)(a0:Int)(a1z:Bool)(a1:L3)(b:Int):go (k+1) spec_l05Face [.agg [.int .i64 a0,.arr false a1z (.r3 a1)],.int .i64 b]=
 cond (decide (0≤b)&&decide (b<nI (List.length a1)))
 (cond (decide (0≤IntKind.wrap .i64 (b+1))&&decide (IntKind.wrap .i64 (b+1)<nI (List.length a1)))
 (some [.int .i64 (if Prod.fst (Prod.snd (List.getD a1 (Int.toNat (IntKind.wrap .i64 (b+1))) zz3))>Prod.fst (Prod.snd (List.getD a1 (Int.toNat b) zz3)) then Prod.fst (Prod.snd (List.getD a1 (Int.toNat (IntKind.wrap .i64 (b+1))) zz3)) else Prod.fst (Prod.snd (List.getD a1 (Int.toNat b) zz3)))])
 none)
 none:=by kernel_rfl
theorem qjq (k:Nat)(a0:Int)(a1z:Bool)(a1:L3)(b:Int):go (k+1) impl_Mesh_faceLevel [.agg [.int .i64 a0,.arr false a1z (.r3 a1)],.int .i64 b]=
 cond (decide (0≤b)&&decide (b<nI (List.length a1)))
 (cond (decide (0≤IntKind.wrap .i64 (b+1))&&decide (IntKind.wrap .i64 (b+1)<nI (List.length a1)))
 (some [.int .i64 (if Prod.fst (Prod.snd (List.getD a1 (Int.toNat (IntKind.wrap .i64 (b+1))) zz3))>Prod.fst (Prod.snd (List.getD a1 (Int.toNat b) zz3)) then Prod.fst (Prod.snd (List.getD a1 (Int.toNat (IntKind.wrap .i64 (b+1))) zz3)) else Prod.fst (Prod.snd (List.getD a1 (Int.toNat b) zz3)))])
 none)
 none:=by kernel_rfl
theorem ql8 (k:Nat)(a b:Int):go (k+1) spec_IsActive [.int .i64 a,.int .i64 b]=
 (go k spec_WidthOf [.int .i64 b]).bind fun r0=>
 cond (decide (0≤a))
 (cond (decide (0<D.toInt (nth r0 0)))
 (cond (!decide (D.toInt (nth r0 0)=0))
 (some [.bool (decide (Int.tmod a (D.toInt (nth r0 0))=0))])
 none)
 (some [.bool false]))
 (some [.bool false]):=by kernel_rfl
theorem qjf (k:Nat)(a b:Int):go (k+1) impl_IsActive [.int .i64 a,.int .i64 b]=
 (go k impl_isLevel [.int .i64 b]).bind fun r0=>
 cond (bit (nth r0 0))
 (cond (decide (0≤a))
 ((go k impl_WidthOf [.int .i64 b]).bind fun r1=>
 cond (!decide (D.toInt (nth r1 0)=0))
 (some [.bool (decide (Int.tmod a (D.toInt (nth r1 0))=0))])
 none)
 (some [.bool false]))
 (some [.bool false]):=by kernel_rfl
def qzj (x0:Int)(z1:Bool)(l2:L3)(x3:Int):St:=⟨fill 34 [(1,.ptr 1 0 0),(3,.int .i64 x0)],[],[.arr false z1 (.r3 l2),.box true [.int .i64 x3,.sl 0 none]]⟩
theorem qm2 (k:Nat)(a0:Int)(a1z:Bool)(a1:L3):go (k+1) spec_l05First [.agg [.int .i64 a0,.arr false a1z (.r3 a1)]]=
 lp k spec_l05First [] [] 2 k (qzj 0 a1z a1 a0):=by kernel_rfl
theorem qry (k n:Nat)(fu:FU)(x0:Int)(z1:Bool)(l2:L3)(x3:Int):lp k spec_l05First [] fu 2 (n+1) (qzj x0 z1 l2 x3)=
 cond (decide (IntKind.wrap .i64 (x0+1)<nI (List.length l2)))
 (cond (decide (0≤x0)&&decide (x0<nI (List.length l2)))
 (cond (decide (0≤IntKind.wrap .i64 (x0+1))&&decide (IntKind.wrap .i64 (x0+1)<nI (List.length l2)))
 (cond (decide (1<IntKind.wrap .i64 (Prod.fst (Prod.snd (List.getD l2 (Int.toNat x0) zz3)) - Prod.fst (Prod.snd (List.getD l2 (Int.toNat (IntKind.wrap .i64 (x0+1))) zz3)))))
 (some [.int .i64 x0])
 (cond (decide (IntKind.wrap .i64 (Prod.fst (Prod.snd (List.getD l2 (Int.toNat x0) zz3)) - Prod.fst (Prod.snd (List.getD l2 (Int.toNat (IntKind.wrap .i64 (x0+1))) zz3)))<(-1:Int)))
 (some [.int .i64 x0])
 (lp k spec_l05First [] fu 2 n (qzj (IntKind.wrap .i64 (x0+1)) z1 l2 x3))))
 none)
 none)
 (some [.int .i64 ((-1:Int))]):=by kernel_rfl
def qyd (x0 x1:Int)(z2:Bool)(l3:L3)(x4:Int):St:=⟨fill 29 [(1,.ptr 1 0 0),(7,.int .i64 x0),(8,.int .i64 x1)],[],[.arr false z2 (.r3 l3),.box true [.int .i64 x4,.sl 0 none]]⟩
theorem qjw (k:Nat)(a0:Int)(a1z:Bool)(a1:L3):go (k+1) impl_Mesh_unbalanced [.agg [.int .i64 a0,.arr false a1z (.r3 a1)]]=
 lp k impl_Mesh_unbalanced [] [] 2 k (qyd (IntKind.wrap .i64 (nI (List.length a1) - 1)) 0 a1z a1 a0):=by kernel_rfl
theorem qqt (k n:Nat)(fu:FU)(x0 x1:Int)(z2:Bool)(l3:L3)(x4:Int):lp k impl_Mesh_unbalanced [] fu 2 (n+1) (qyd x0 x1 z2 l3 x4)=
 cond (decide (x1<x0))
 (cond (decide (0≤x1)&&decide (x1<nI (List.length l3)))
 (cond (decide (0≤IntKind.wrap .i64 (x1+1))&&decide (IntKind.wrap .i64 (x1+1)<nI (List.length l3)))
 ((go k impl_absolute [.int .i64 (IntKind.wrap .i64 (Prod.fst (Prod.snd (List.getD l3 (Int.toNat x1) zz3)) - Prod.fst (Prod.snd (List.getD l3 (Int.toNat (IntKind.wrap .i64 (x1+1))) zz3))))]).bind fun r0=>
 cond (decide (1<D.toInt (nth r0 0)))
 (some [.int .i64 x1])
 (lp k impl_Mesh_unbalanced [] fu 2 n (qyd x0 (IntKind.wrap .i64 (x1+1)) z2 l3 x4)))
 none)
 none)
 (some [.int .i64 ((-1:Int))]):=by kernel_rfl
theorem qkz (k:Nat)(a:Int):go (k+1) impl_absolute [.int .i64 a]=
 some [.int .i64 (if IntKind.wrap .i64 (0 - a)>a then IntKind.wrap .i64 (0 - a) else a)]:=by kernel_rfl
theorem ql9 (k:Nat)(a0:Int)(a1z:Bool)(a1:L3):go (k+1) spec_IsBalanced [.agg [.int .i64 a0,.arr false a1z (.r3 a1)]]=
 (go k spec_MeshOk [.agg [.int .i64 a0,.arr false a1z (.r3 a1)]]).bind fun r0=>
 cond (bit (nth r0 0))
 ((go k spec_l05First [.agg [.int .i64 a0,.arr false a1z (.r3 a1)]]).bind fun r1=>
 some [.bool (decide (D.toInt (nth r1 0)<0))])
 (some [.bool false]):=by kernel_rfl
theorem qjg (k:Nat)(a0:Int)(a1z:Bool)(a1:L3):go (k+1) impl_IsBalanced [.agg [.int .i64 a0,.arr false a1z (.r3 a1)]]=
 (go k impl_MeshOk [.agg [.int .i64 a0,.arr false a1z (.r3 a1)]]).bind fun r0=>
 cond (bit (nth r0 0))
 ((go k impl_Mesh_unbalanced [.agg [.int .i64 a0,.arr false a1z (.r3 a1)]]).bind fun r1=>
 some [.bool (decide (D.toInt (nth r1 0)<0))])
 (some [.bool false]):=by kernel_rfl
theorem qjr (k:Nat)(a0:Int)(a1z:Bool)(a1:L3)(b:Int):go (k+1) impl_Mesh_has [.agg [.int .i64 a0,.arr false a1z (.r3 a1)],.int .i64 b]=
 (go k impl_within [.int .i64 b,.int .i64 0,.int .i64 (IntKind.wrap .i64 (nI (List.length a1) - 1))]).bind fun r0=>
 some [.bool (bit (nth r0 0))]:=by kernel_rfl

end Go.Proofs.YtjfjniebmdafeaaGreatDoor
end
section
namespace Go.Proofs.YtjfjniebmdafeaaGreatDoor
open Go.Ev
theorem q26 {x:Int}(h: -9223372036854775808≤x)(h' :x≤9223372036854775807):IntKind.wrap .i64 x=x:=by rw [IntKind.wrap_i64]; omega
theorem q27 {x:Int}(h:0≤x)(h' :x≤9223372036854775807):IntKind.wrap .u64 x=x:=by rw [IntKind.wrap_u64]; omega
theorem q25 {x:Int}(h:0≤x)(h' :x≤255):IntKind.wrap .u8 x=x:=by rw [IntKind.wrap_u8]; omega
theorem nth0 (d0:D)(l:List D):nth (d0::l) 0=d0:=Eq.trans rfl rfl
theorem nth1 (d0 d1:D)(l:List D):nth (d0::d1::l) 1=d1:=Eq.trans rfl rfl
theorem nth2 (d0 d1 d2:D)(l:List D):nth (d0::d1::d2::l) 2=d2:=Eq.trans rfl rfl
theorem nth3 (d0 d1 d2 d3:D)(l:List D):nth (d0::d1::d2::d3::l) 3=d3:=Eq.trans rfl rfl
theorem qhg (d0:D)(l:List D):(D.agg (d0::l)).cell 0=d0:=Eq.trans rfl rfl
theorem qhh (d0 d1:D)(l:List D):(D.agg (d0::d1::l)).cell 1=d1:=Eq.trans rfl rfl
theorem qhs (d0 d1 d2:D)(l:List D):(D.agg (d0::d1::d2::l)).cell 2=d2:=Eq.trans rfl rfl
theorem qhx (d0 d1 d2 d3:D)(l:List D):(D.agg (d0::d1::d2::d3::l)).cell 3=d3:=Eq.trans rfl rfl
theorem qhy (d0 d1 d2 d3 d4:D)(l:List D):(D.agg (d0::d1::d2::d3::d4::l)).cell 4=d4:=Eq.trans rfl rfl
theorem qhz (d0 d1 d2 d3 d4 d5:D)(l:List D):(D.agg (d0::d1::d2::d3::d4::d5::l)).cell 5=d5:=Eq.trans rfl rfl
theorem qh0 (d0 d1 d2 d3 d4 d5 d6:D)(l:List D):(D.agg (d0::d1::d2::d3::d4::d5::d6::l)).cell 6=d6:=Eq.trans rfl rfl
theorem qh1 (d0 d1 d2 d3 d4 d5 d6 d7:D)(l:List D):(D.agg (d0::d1::d2::d3::d4::d5::d6::d7::l)).cell 7=d7:=Eq.trans rfl rfl
theorem qh2 (d0 d1 d2 d3 d4 d5 d6 d7 d8:D)(l:List D):(D.agg (d0::d1::d2::d3::d4::d5::d6::d7::d8::l)).cell 8=d8:=Eq.trans rfl rfl
theorem qh3 (d0 d1 d2 d3 d4 d5 d6 d7 d8 d9:D)(l:List D):(D.agg (d0::d1::d2::d3::d4::d5::d6::d7::d8::d9::l)).cell 9=d9:=Eq.trans rfl rfl
theorem qhi (d0 d1 d2 d3 d4 d5 d6 d7 d8 d9 d10:D)(l:List D):(D.agg (d0::d1::d2::d3::d4::d5::d6::d7::d8::d9::d10::l)).cell 10=d10:=Eq.trans rfl rfl
theorem qhj (d0 d1 d2 d3 d4 d5 d6 d7 d8 d9 d10 d11:D)(l:List D):(D.agg (d0::d1::d2::d3::d4::d5::d6::d7::d8::d9::d10::d11::l)).cell 11=d11:=Eq.trans rfl rfl
theorem qhk (d0 d1 d2 d3 d4 d5 d6 d7 d8 d9 d10 d11 d12:D)(l:List D):(D.agg (d0::d1::d2::d3::d4::d5::d6::d7::d8::d9::d10::d11::d12::l)).cell 12=d12:=Eq.trans rfl rfl
theorem qhl (d0 d1 d2 d3 d4 d5 d6 d7 d8 d9 d10 d11 d12 d13:D)(l:List D):(D.agg (d0::d1::d2::d3::d4::d5::d6::d7::d8::d9::d10::d11::d12::d13::l)).cell 13=d13:=Eq.trans rfl rfl
theorem qhm (d0 d1 d2 d3 d4 d5 d6 d7 d8 d9 d10 d11 d12 d13 d14:D)(l:List D):(D.agg (d0::d1::d2::d3::d4::d5::d6::d7::d8::d9::d10::d11::d12::d13::d14::l)).cell 14=d14:=Eq.trans rfl rfl
theorem qhn (d0 d1 d2 d3 d4 d5 d6 d7 d8 d9 d10 d11 d12 d13 d14 d15:D)(l:List D):(D.agg (d0::d1::d2::d3::d4::d5::d6::d7::d8::d9::d10::d11::d12::d13::d14::d15::l)).cell 15=d15:=Eq.trans rfl rfl
theorem qho (d0 d1 d2 d3 d4 d5 d6 d7 d8 d9 d10 d11 d12 d13 d14 d15 d16:D)(l:List D):(D.agg (d0::d1::d2::d3::d4::d5::d6::d7::d8::d9::d10::d11::d12::d13::d14::d15::d16::l)).cell 16=d16:=Eq.trans rfl rfl
theorem qhp (d0 d1 d2 d3 d4 d5 d6 d7 d8 d9 d10 d11 d12 d13 d14 d15 d16 d17:D)(l:List D):(D.agg (d0::d1::d2::d3::d4::d5::d6::d7::d8::d9::d10::d11::d12::d13::d14::d15::d16::d17::l)).cell 17=d17:=Eq.trans rfl rfl
theorem qhq (d0 d1 d2 d3 d4 d5 d6 d7 d8 d9 d10 d11 d12 d13 d14 d15 d16 d17 d18:D)(l:List D):(D.agg (d0::d1::d2::d3::d4::d5::d6::d7::d8::d9::d10::d11::d12::d13::d14::d15::d16::d17::d18::l)).cell 18=d18:=Eq.trans rfl rfl
theorem qhr (d0 d1 d2 d3 d4 d5 d6 d7 d8 d9 d10 d11 d12 d13 d14 d15 d16 d17 d18 d19:D)(l:List D):(D.agg (d0::d1::d2::d3::d4::d5::d6::d7::d8::d9::d10::d11::d12::d13::d14::d15::d16::d17::d18::d19::l)).cell 19=d19:=Eq.trans rfl rfl
theorem qht (d0 d1 d2 d3 d4 d5 d6 d7 d8 d9 d10 d11 d12 d13 d14 d15 d16 d17 d18 d19 d20:D)(l:List D):(D.agg (d0::d1::d2::d3::d4::d5::d6::d7::d8::d9::d10::d11::d12::d13::d14::d15::d16::d17::d18::d19::d20::l)).cell 20=d20:=Eq.trans rfl rfl
theorem qhu (d0 d1 d2 d3 d4 d5 d6 d7 d8 d9 d10 d11 d12 d13 d14 d15 d16 d17 d18 d19 d20 d21:D)(l:List D):(D.agg (d0::d1::d2::d3::d4::d5::d6::d7::d8::d9::d10::d11::d12::d13::d14::d15::d16::d17::d18::d19::d20::d21::l)).cell 21=d21:=Eq.trans rfl rfl
theorem qhv (d0 d1 d2 d3 d4 d5 d6 d7 d8 d9 d10 d11 d12 d13 d14 d15 d16 d17 d18 d19 d20 d21 d22:D)(l:List D):(D.agg (d0::d1::d2::d3::d4::d5::d6::d7::d8::d9::d10::d11::d12::d13::d14::d15::d16::d17::d18::d19::d20::d21::d22::l)).cell 22=d22:=Eq.trans rfl rfl
theorem qhw (d0 d1 d2 d3 d4 d5 d6 d7 d8 d9 d10 d11 d12 d13 d14 d15 d16 d17 d18 d19 d20 d21 d22 d23:D)(l:List D):(D.agg (d0::d1::d2::d3::d4::d5::d6::d7::d8::d9::d10::d11::d12::d13::d14::d15::d16::d17::d18::d19::d20::d21::d22::d23::l)).cell 23=d23:=Eq.trans rfl rfl
theorem q19 (k:IntKind)(n:Int):(D.int k n).toInt=n:=Eq.trans rfl rfl
theorem q18 (b:Bool):(D.bool b).toBool=b:=Eq.trans rfl rfl
theorem q2a (s:ByteArray):(D.str s).toStr=s:=Eq.trans rfl rfl
theorem qvo (o n:Bool)(a:Arr):(D.arr o n a).nil=n:=Eq.trans rfl rfl
theorem qww (o n:Bool)(l:List (Int×Int×Int)):(D.arr o n (.r3 l)).r3=l:=Eq.trans rfl rfl
theorem qwy (o n:Bool)(l:List (Int×Int×Int×Int)):(D.arr o n (.r4 l)).r4=l:=Eq.trans rfl rfl
theorem qpj (o n:Bool)(k:IntKind)(l:List Int):(D.arr o n (.ints k l)).ints=l:=Eq.trans rfl rfl
theorem qb1 (o n:Bool)(l:List Bool):(D.arr o n (.bools l)).bools=l:=Eq.trans rfl rfl
theorem q1b (o n:Bool)(l:List ByteArray):(D.arr o n (.strs l)).strs=l:=Eq.trans rfl rfl
theorem qie {α:Type}(x y:α):cond true x y=x:=Eq.trans rfl rfl
theorem qic {α:Type}(x y:α):cond false x y=y:=Eq.trans rfl rfl
theorem qbs {α:Type}(x:List D)(f:List D→Option α):(some x).bind f=f x:=Eq.trans rfl rfl
theorem dT {p:Prop}{i:Decidable p}(h:p): @decide p i=true:=by cases i<;>simp_all
theorem dF {p:Prop}{i:Decidable p}(h:¬p): @decide p i=false:=by cases i<;>simp_all
theorem qhe (i:Nat):(i:Int)+1=((i+1:Nat):Int):=Eq.trans rfl rfl
theorem qhf (i:Nat):(i:Int)+2=((i+2:Nat):Int):=Eq.trans rfl rfl
theorem qhd {i:Nat}(h:1≤i):(i:Int) - 1=((i - 1:Nat):Int):=by omega
theorem itT {α:Type}{i:Decidable True}(x y:α): @ite α True i x y=x:=by cases i with | isTrue _=>rfl | isFalse h=>exact absurd trivial h
theorem itF {α:Type}{i:Decidable False}(x y:α): @ite α False i x y=y:=by cases i with | isTrue h=>exact h.elim | isFalse _=>rfl
theorem niF {α:Type}{a b:Nat}{i:Decidable (a=b)}{x y:α}(h:¬ a=b): @ite α (a=b) i x y=y:=by cases i with | isTrue e=>exact absurd e h | isFalse _=>rfl
theorem imax (x y:Int):(if x>y then x else y)=max x y:=by by_cases h:x>y<;>simp only [h,if_true,if_false]<;>omega
theorem imin (x y:Int):(if x<y then x else y)=min x y:=by by_cases h:x<y<;>simp only [h,if_true,if_false]<;>omega
theorem qif (b x:Bool):cond (!b) (some [D.bool false]) (some [D.bool x])=some [D.bool (b&&x)]:=by cases b<;>rfl
theorem qig (b x:Bool):cond b (some [D.bool x]) (some [D.bool false])=some [D.bool (b&&x)]:=by cases b<;>rfl
theorem dTT {i:Decidable True} : @decide True i=true:=by cases i with | isTrue _=>rfl | isFalse h=>exact absurd trivial h
theorem dFF {i:Decidable False} : @decide False i=false:=by cases i with | isTrue h=>exact h.elim | isFalse _=>rfl
theorem bigI:((bigLen:Nat):Int)=1099511627776:=Eq.trans rfl rfl
theorem qvn {α:Type}(l:List α):[]++l=l:=Eq.trans rfl rfl
theorem big0:bigLen=1099511627776:=Eq.trans rfl rfl
theorem qiz {α:Type}{l:List α}{i:Nat}(h:i<l.length)(d:α):l.drop i=l.getD i d::l.drop (i+1):=by
  rw [List.drop_eq_getElem_cons h]; simp [h]
theorem qz2 {α:Type}(l:List α)(i j:Nat)(x d:α):(l.set i x).getD j d=if i=j∧i<l.length then x else l.getD j d:=by
  simp only [List.getD_eq_getElem?_getD,List.getElem?_set]
  by_cases h:i=j
  · subst h
    by_cases h2:i<l.length
    · simp [h2]
    · simp [h2]
  · simp [h]
theorem qou {α:Type}{l:List α}{i:Nat}(h:l.length≤i)(d:α):l.getD i d=d:=by simp [h]
theorem qov {α:Type}{l:List α}{i:Nat}(h:i<l.length)(d:α):l.getD i d∈l:=by simp [h]
theorem wk:(((∀ (o:Bool)(d:D),wC o d=.agg [.int .i64 (D.toInt (D.cell 0 d)),.arr o (D.nil (D.cell 1 d)) (.r3 (D.r3 (D.cell 1 d))),.arr o (D.nil (D.cell 2 d)) (.ints .i64 (D.ints (D.cell 2 d))),.arr o (D.nil (D.cell 3 d)) (.ints .i64 (D.ints (D.cell 3 d))),.arr o (D.nil (D.cell 4 d)) (.ints .i64 (D.ints (D.cell 4 d))),.int .i64 (D.toInt (D.cell 5 d)),.int .i64 (D.toInt (D.cell 6 d)),.int .i64 (D.toInt (D.cell 7 d)),.int .i64 (D.toInt (D.cell 8 d)),.int .i64 (D.toInt (D.cell 9 d)),.int .i64 (D.toInt (D.cell 10 d)),.int .i64 (D.toInt (D.cell 11 d)),.int .i64 (D.toInt (D.cell 12 d)),.int .i64 (D.toInt (D.cell 13 d)),.int .i64 (D.toInt (D.cell 14 d)),.int .i64 (D.toInt (D.cell 15 d)),.int .i64 (D.toInt (D.cell 16 d)),.int .i64 (D.toInt (D.cell 17 d)),.int .i64 (D.toInt (D.cell 18 d)),.int .i64 (D.toInt (D.cell 19 d)),.int .i64 (D.toInt (D.cell 20 d))])∧(∀ (o:Bool)(d:D),sC o d=.agg [.int .i64 (D.toInt (D.cell 0 d)),.arr o (D.nil (D.cell 1 d)) (.r3 (D.r3 (D.cell 1 d))),.arr o (D.nil (D.cell 2 d)) (.ints .i64 (D.ints (D.cell 2 d))),.arr o (D.nil (D.cell 3 d)) (.ints .i64 (D.ints (D.cell 3 d))),.arr o (D.nil (D.cell 4 d)) (.ints .i64 (D.ints (D.cell 4 d)))]))∧((∀ {α:Type} (f:Bool→L3→Bool→LI→Bool→LI→Bool→LI→Int→Int→Int→Int→Int→Int→Int→Int→Int→Int→Int→Int→Int→Int→Int→Int→Int→α) (d:D),wA f d=f (D.nil (D.cell 1 d)) (D.r3 (D.cell 1 d)) (D.nil (D.cell 2 d)) (D.ints (D.cell 2 d)) (D.nil (D.cell 3 d)) (D.ints (D.cell 3 d)) (D.nil (D.cell 4 d)) (D.ints (D.cell 4 d)) (D.toInt (D.cell 0 d)) (D.toInt (D.cell 5 d)) (D.toInt (D.cell 6 d)) (D.toInt (D.cell 7 d)) (D.toInt (D.cell 8 d)) (D.toInt (D.cell 9 d)) (D.toInt (D.cell 10 d)) (D.toInt (D.cell 11 d)) (D.toInt (D.cell 12 d)) (D.toInt (D.cell 13 d)) (D.toInt (D.cell 14 d)) (D.toInt (D.cell 15 d)) (D.toInt (D.cell 16 d)) (D.toInt (D.cell 17 d)) (D.toInt (D.cell 18 d)) (D.toInt (D.cell 19 d)) (D.toInt (D.cell 20 d)))∧(∀ {α:Type} (f:Bool→L3→Bool→LI→Bool→LI→Bool→LI→Int→α) (d:D),sA f d=f (D.nil (D.cell 1 d)) (D.r3 (D.cell 1 d)) (D.nil (D.cell 2 d)) (D.ints (D.cell 2 d)) (D.nil (D.cell 3 d)) (D.ints (D.cell 3 d)) (D.nil (D.cell 4 d)) (D.ints (D.cell 4 d)) (D.toInt (D.cell 0 d)))))∧(((((((∀ {α:Type} (x:List D) (f:List D→Option α),(some x).bind f=f x)∧(∀ (d0:D)(l:List D),nth (d0::l) 0=d0))∧((∀ (d0 d1:D)(l:List D),nth (d0::d1::l) 1=d1)∧(∀ (d0 d1 d2:D)(l:List D),nth (d0::d1::d2::l) 2=d2)))∧(((∀ (d0 d1 d2 d3:D)(l:List D),nth (d0::d1::d2::d3::l) 3=d3)∧(∀ (d0:D)(l:List D),(D.agg (d0::l)).cell 0=d0))∧((∀ (d0 d1:D)(l:List D),(D.agg (d0::d1::l)).cell 1=d1)∧(∀ (d0 d1 d2:D)(l:List D),(D.agg (d0::d1::d2::l)).cell 2=d2))))∧((((∀ (d0 d1 d2 d3:D)(l:List D),(D.agg (d0::d1::d2::d3::l)).cell 3=d3)∧(∀ (d0 d1 d2 d3 d4:D)(l:List D),(D.agg (d0::d1::d2::d3::d4::l)).cell 4=d4))∧((∀ (d0 d1 d2 d3 d4 d5:D)(l:List D),(D.agg (d0::d1::d2::d3::d4::d5::l)).cell 5=d5)∧(∀ (d0 d1 d2 d3 d4 d5 d6:D)(l:List D),(D.agg (d0::d1::d2::d3::d4::d5::d6::l)).cell 6=d6)))∧(((∀ (d0 d1 d2 d3 d4 d5 d6 d7:D)(l:List D),(D.agg (d0::d1::d2::d3::d4::d5::d6::d7::l)).cell 7=d7)∧(∀ (d0 d1 d2 d3 d4 d5 d6 d7 d8:D)(l:List D),(D.agg (d0::d1::d2::d3::d4::d5::d6::d7::d8::l)).cell 8=d8))∧((∀ (d0 d1 d2 d3 d4 d5 d6 d7 d8 d9:D)(l:List D),(D.agg (d0::d1::d2::d3::d4::d5::d6::d7::d8::d9::l)).cell 9=d9)∧(∀ (d0 d1 d2 d3 d4 d5 d6 d7 d8 d9 d10:D)(l:List D),(D.agg (d0::d1::d2::d3::d4::d5::d6::d7::d8::d9::d10::l)).cell 10=d10)))))∧(((((∀ (d0 d1 d2 d3 d4 d5 d6 d7 d8 d9 d10 d11:D)(l:List D),(D.agg (d0::d1::d2::d3::d4::d5::d6::d7::d8::d9::d10::d11::l)).cell 11=d11)∧(∀ (d0 d1 d2 d3 d4 d5 d6 d7 d8 d9 d10 d11 d12:D)(l:List D),(D.agg (d0::d1::d2::d3::d4::d5::d6::d7::d8::d9::d10::d11::d12::l)).cell 12=d12))∧((∀ (d0 d1 d2 d3 d4 d5 d6 d7 d8 d9 d10 d11 d12 d13:D)(l:List D),(D.agg (d0::d1::d2::d3::d4::d5::d6::d7::d8::d9::d10::d11::d12::d13::l)).cell 13=d13)∧(∀ (d0 d1 d2 d3 d4 d5 d6 d7 d8 d9 d10 d11 d12 d13 d14:D)(l:List D),(D.agg (d0::d1::d2::d3::d4::d5::d6::d7::d8::d9::d10::d11::d12::d13::d14::l)).cell 14=d14)))∧(((∀ (d0 d1 d2 d3 d4 d5 d6 d7 d8 d9 d10 d11 d12 d13 d14 d15:D)(l:List D),(D.agg (d0::d1::d2::d3::d4::d5::d6::d7::d8::d9::d10::d11::d12::d13::d14::d15::l)).cell 15=d15)∧(∀ (d0 d1 d2 d3 d4 d5 d6 d7 d8 d9 d10 d11 d12 d13 d14 d15 d16:D)(l:List D),(D.agg (d0::d1::d2::d3::d4::d5::d6::d7::d8::d9::d10::d11::d12::d13::d14::d15::d16::l)).cell 16=d16))∧((∀ (d0 d1 d2 d3 d4 d5 d6 d7 d8 d9 d10 d11 d12 d13 d14 d15 d16 d17:D)(l:List D),(D.agg (d0::d1::d2::d3::d4::d5::d6::d7::d8::d9::d10::d11::d12::d13::d14::d15::d16::d17::l)).cell 17=d17)∧(∀ (d0 d1 d2 d3 d4 d5 d6 d7 d8 d9 d10 d11 d12 d13 d14 d15 d16 d17 d18:D)(l:List D),(D.agg (d0::d1::d2::d3::d4::d5::d6::d7::d8::d9::d10::d11::d12::d13::d14::d15::d16::d17::d18::l)).cell 18=d18))))∧((((∀ (d0 d1 d2 d3 d4 d5 d6 d7 d8 d9 d10 d11 d12 d13 d14 d15 d16 d17 d18 d19:D)(l:List D),(D.agg (d0::d1::d2::d3::d4::d5::d6::d7::d8::d9::d10::d11::d12::d13::d14::d15::d16::d17::d18::d19::l)).cell 19=d19)∧(∀ (d0 d1 d2 d3 d4 d5 d6 d7 d8 d9 d10 d11 d12 d13 d14 d15 d16 d17 d18 d19 d20:D)(l:List D),(D.agg (d0::d1::d2::d3::d4::d5::d6::d7::d8::d9::d10::d11::d12::d13::d14::d15::d16::d17::d18::d19::d20::l)).cell 20=d20))∧((∀ (d0 d1 d2 d3 d4 d5 d6 d7 d8 d9 d10 d11 d12 d13 d14 d15 d16 d17 d18 d19 d20 d21:D)(l:List D),(D.agg (d0::d1::d2::d3::d4::d5::d6::d7::d8::d9::d10::d11::d12::d13::d14::d15::d16::d17::d18::d19::d20::d21::l)).cell 21=d21)∧(∀ (d0 d1 d2 d3 d4 d5 d6 d7 d8 d9 d10 d11 d12 d13 d14 d15 d16 d17 d18 d19 d20 d21 d22:D)(l:List D),(D.agg (d0::d1::d2::d3::d4::d5::d6::d7::d8::d9::d10::d11::d12::d13::d14::d15::d16::d17::d18::d19::d20::d21::d22::l)).cell 22=d22)))∧(((∀ (d0 d1 d2 d3 d4 d5 d6 d7 d8 d9 d10 d11 d12 d13 d14 d15 d16 d17 d18 d19 d20 d21 d22 d23:D)(l:List D),(D.agg (d0::d1::d2::d3::d4::d5::d6::d7::d8::d9::d10::d11::d12::d13::d14::d15::d16::d17::d18::d19::d20::d21::d22::d23::l)).cell 23=d23)∧(∀ (k:IntKind)(n:Int),(D.int k n).toInt=n))∧((∀ (b:Bool),(D.bool b).toBool=b)∧((∀ (s:ByteArray),(D.str s).toStr=s)∧(∀ (o n:Bool)(a:Arr),(D.arr o n a).nil=n)))))))∧((((((∀ (o n:Bool)(l:List (Int×Int×Int)),(D.arr o n (.r3 l)).r3=l)∧(∀ (o n:Bool)(l:List (Int×Int×Int×Int)),(D.arr o n (.r4 l)).r4=l))∧((∀ (o n:Bool)(k:IntKind)(l:List Int),(D.arr o n (.ints k l)).ints=l)∧(∀ (o n:Bool)(l:List Bool),(D.arr o n (.bools l)).bools=l)))∧(((∀ (o n:Bool)(l:List ByteArray),(D.arr o n (.strs l)).strs=l)∧(∀ {α:Type} (x y:α),cond true x y=x))∧((∀ {α:Type} (x y:α),cond false x y=y)∧((!true)=false))))∧(((((!false)=true)∧(∀ (b:Bool),(b&&true)=b))∧((∀ (b:Bool),(true&&b)=b)∧(∀ (b:Bool),(b&&false)=false)))∧(((∀ (b:Bool),(false&&b)=false)∧(∀ (b:Bool),(b||true)=true))∧((∀ (b:Bool),(true||b)=true)∧((∀ (b:Bool),(b||false)=b)∧(∀ (b:Bool),(false||b)=b))))))∧(((((∀ {α:Type} [BEq α] [ReflBEq α] (a:α),(a == a)=true)∧(∀ {i:Decidable True},@decide True i=true))∧((∀ {i:Decidable False},@decide False i=false)∧(∀ {p:Prop} {i:Decidable p} (h:p),@decide p i=true)))∧(((∀ {p:Prop} {i:Decidable p} (h:¬p),@decide p i=false)∧(((bigLen:Nat):Int)=1099511627776))∧((bigLen=1099511627776)∧(∀ {α:Type} (l:List α),[]++l=l))))∧((((∀ {x:Int} (h: -9223372036854775808≤x) (h' :x≤9223372036854775807),IntKind.wrap .i64 x=x)∧(∀ {x:Int} (h:0≤x) (h' :x≤9223372036854775807),IntKind.wrap .u64 x=x))∧((∀ {α:Type} {l:List α} {i:Nat} {a:α},(l.set i a).length=l.length)∧(∀ {α:Type} {n:Nat} {a:α},(List.replicate n a).length=n)))∧(((∀ (n:Nat),Int.toNat (n:Int)=n)∧(∀ (i:Nat),(i:Int)+1=((i+1:Nat):Int)))∧((∀ (i:Nat),(i:Int)+2=((i+2:Nat):Int))∧((∀ (x y:Int),(if x>y then x else y)=max x y)∧(∀ (x y:Int),(if x<y then x else y)=min x y)))))))):=
  And.intro (And.intro (And.intro @wCe @sCe) (And.intro @wAe @sAe)) (And.intro (And.intro (And.intro (And.intro (And.intro (And.intro @qbs @nth0) (And.intro @nth1 @nth2)) (And.intro (And.intro @nth3 @qhg) (And.intro @qhh @qhs))) (And.intro (And.intro (And.intro @qhx @qhy) (And.intro @qhz @qh0)) (And.intro (And.intro @qh1 @qh2) (And.intro @qh3 @qhi)))) (And.intro (And.intro (And.intro (And.intro @qhj @qhk) (And.intro @qhl @qhm)) (And.intro (And.intro @qhn @qho) (And.intro @qhp @qhq))) (And.intro (And.intro (And.intro @qhr @qht) (And.intro @qhu @qhv)) (And.intro (And.intro @qhw @q19) (And.intro @q18 (And.intro @q2a @qvo)))))) (And.intro (And.intro (And.intro (And.intro (And.intro @qww @qwy) (And.intro @qpj @qb1)) (And.intro (And.intro @q1b @qie) (And.intro @qic @Bool.not_true))) (And.intro (And.intro (And.intro @Bool.not_false @Bool.and_true) (And.intro @Bool.true_and @Bool.and_false)) (And.intro (And.intro @Bool.false_and @Bool.or_true) (And.intro @Bool.true_or (And.intro @Bool.or_false @Bool.false_or))))) (And.intro (And.intro (And.intro (And.intro @beq_self_eq_true.{0} @dTT) (And.intro @dFF @dT)) (And.intro (And.intro @dF @bigI) (And.intro @big0 @qvn))) (And.intro (And.intro (And.intro @q26 @q27) (And.intro @List.length_set.{0} @List.length_replicate.{0})) (And.intro (And.intro @Int.toNat_natCast @qhe) (And.intro @qhf (And.intro @imax @imin)))))))
end Go.Proofs.YtjfjniebmdafeaaGreatDoor
end
section
namespace Go.Proofs.YtjfjniebmdafeaaGreatDoor
open Go.Ev
def inR (a b c:Int):Bool:=decide (b≤a)&&decide (a≤c)
theorem qpe {a b c:Int} :inR a b c=true↔b≤a∧a≤c:=by simp [inR]
theorem qf7 (k:Nat)(hk:2000000≤k)(a:Int)(b:Int)(c:Int):go (k+1) spec_l01In [(.int .i64 (a)),(.int .i64 (b)),(.int .i64 (c))]=some [.bool (inR a b c)]:=by
  rw [qmu]; unfold inR; cases decide (b≤a)<;>rfl
theorem qep (k:Nat)(hk:2000000≤k)(a:Int)(b:Int)(c:Int):go (k+1) impl_within [(.int .i64 (a)),(.int .i64 (b)),(.int .i64 (c))]=some [.bool (inR a b c)]:=by
  rw [qlg]; unfold inR; cases decide (b≤a)<;>rfl
def pow2 (l:Int):Int:=2 ^ l.toNat
def idOk (r l i:Int):Bool:=inR r 0 7&&(inR l 0 4&&(decide (0≤i)&&decide (i<pow2 l)))
theorem lev {l:Int}(h:inR l 0 4=true):l=0∨l=1∨l=2∨l=3∨l=4:=by
  simp only [inR,Bool.and_eq_true,decide_eq_true_eq] at h; omega
theorem p20:pow2 0=1:=rfl
theorem p21:pow2 1=2:=rfl
theorem p22:pow2 2=4:=rfl
theorem p23:pow2 3=8:=rfl
theorem p24:pow2 4=16:=rfl
theorem sh0:shiftN .i64 0=0:=by decide
theorem sh1:shiftN .i64 1=1:=by decide
theorem sh2:shiftN .i64 2=2:=by decide
theorem sh3:shiftN .i64 3=3:=by decide
theorem sh4:shiftN .i64 4=4:=by decide
theorem pw {l:Int}(h:inR l 0 4=true):IntKind.wrap .i64 ((1:Int)*(2:Int) ^ shiftN .i64 l)=pow2 l:=by
  rcases lev h with rfl | rfl | rfl | rfl | rfl<;>simp [sh0,sh1,sh2,sh3,sh4,q26,p20,p21,p22,p23,p24]
theorem lev0 {l:Int}(h:inR l 0 4=true):0≤l∧l≤4:=by
  simp only [inR,Bool.and_eq_true,decide_eq_true_eq] at h; omega
theorem qwr {l:Int}(h:inR l 0 4=true):1≤pow2 l∧pow2 l≤16:=by
  rcases lev h with rfl | rfl | rfl | rfl | rfl<;>simp [p20,p21,p22,p23,p24]
theorem qfg (k:Nat)(hk:2000000≤k)(a0:Int)(a1:Int)(a2:Int):go (k+2) spec_IdOk [(.agg [(.int .i64 (a0)),(.int .i64 (a1)),(.int .i64 (a2))])]=some [.bool (idOk a0 a1 a2)]:=by
  rw [ql7]
  simp (disch:=omega) only [wk,bit,nI,qf7]
  unfold idOk
  cases h1:inR a0 0 7<;>cases h2:inR a1 0 4<;>simp only [qie,qic,Bool.true_and,Bool.false_and,Bool.and_false]
  have:=lev0 h2
  rw [q27 (x:=a1) (by omega) (by omega),pw h2]
  by_cases h3:(0:Int)≤a2
  · simp [h3,this.1]
  · simp [h3]
theorem qd0 (k:Nat)(hk:2000000≤k)(a:Int):go (k+2) impl_isLevel [(.int .i64 (a))]=some [.bool (inR a 0 4)]:=by
  rw [qk9]
  simp (disch:=omega) only [wk,bit,nI,qep]
theorem qcl (k:Nat)(hk:2000000≤k)(a0:Int)(a1:Int)(a2:Int):go (k+3) impl_IdOk [(.agg [(.int .i64 (a0)),(.int .i64 (a1)),(.int .i64 (a2))])]=some [.bool (idOk a0 a1 a2)]:=by
  rw [qjd]
  simp (disch:=omega) only [wk,bit,nI,qep,qd0]
  unfold idOk
  cases h1:inR a0 0 7<;>cases h2:inR a1 0 4<;>simp only [qie,qic,Bool.true_and,Bool.false_and,Bool.and_false]
  have:=lev0 h2
  have:=qwr h2
  rw [pw h2,q26 (x:=pow2 a1 - 1) (by omega) (by omega)]
  rw [show decide ((0:Int)≤a1)=true by simp; omega,qie]
  have e:inR a2 0 (pow2 a1 - 1)=(decide (0≤a2)&&decide (a2<pow2 a1)):=by
    unfold inR; rw [Bool.eq_iff_iff]; simp only [Bool.and_eq_true,decide_eq_true_eq]; omega
  rw [e]
def q2x (l:Int):Int:=if inR l 0 4 then 16 / pow2 l else 0
theorem qfx (k:Nat)(hk:2000000≤k)(a:Int):go (k+2) spec_WidthOf [(.int .i64 (a))]=some [.int .i64 (q2x a)]:=by
  rw [qmo]
  simp (disch:=omega) only [wk,bit,nI,qf7,q2x]
  cases h2:inR a 0 4
  · simp
  · rcases lev h2 with rfl | rfl | rfl | rfl | rfl<;>simp [q27,sh0,sh1,sh2,sh3,sh4,p20,p21,p22,p23,p24]<;>decide
theorem qda (k:Nat)(hk:2000000≤k)(a:Int):go (k+3) impl_WidthOf [(.int .i64 (a))]=some [.int .i64 (q2x a)]:=by
  rw [qku]
  simp (disch:=omega) only [wk,bit,nI,qd0,q2x]
  cases h2:inR a 0 4
  · simp
  · rcases lev h2 with rfl | rfl | rfl | rfl | rfl<;>simp [q27,sh0,sh1,sh2,sh3,sh4,p20,p21,p22,p23,p24]<;>decide
def q00 (r l i:Int):Int:=if idOk r l i then r*16+i*q2x l else -1
theorem q2z (l:Int):0≤q2x l∧q2x l≤16:=by
  unfold q2x
  cases h:inR l 0 4
  · simp
  · rcases lev h with rfl | rfl | rfl | rfl | rfl<;>decide
theorem qpb {r l i:Int}(h:idOk r l i=true):0≤r∧r≤7∧inR l 0 4=true∧0≤i∧i<pow2 l:=by
  simp only [idOk,Bool.and_eq_true,decide_eq_true_eq] at h
  obtain ⟨h1,h2,h3,h4⟩:=h
  simp only [inR,Bool.and_eq_true,decide_eq_true_eq] at h1
  exact ⟨h1.1,h1.2,h2,h3,h4⟩
theorem iw {r l i:Int}(h:idOk r l i=true):0≤i*q2x l∧i*q2x l≤256:=by
  obtain ⟨_,_,h2,h3,h4⟩:=qpb h
  have h5:=(qwr h2).2
  have h6:=q2z l
  have h7:i≤16:=by omega
  refine ⟨Int.mul_nonneg h3 h6.1,?_⟩
  calc i*q2x l≤16*q2x l:=Int.mul_le_mul_of_nonneg_right h7 h6.1
    _≤16*16:=Int.mul_le_mul_of_nonneg_left h6.2 (by omega)
theorem q01 (r l i:Int): -1≤q00 r l i∧q00 r l i≤1000:=by
  unfold q00
  cases h:idOk r l i
  · simp
  · have:=iw h; have:=qpb h
    simp; omega
theorem q03 {r l i:Int}(h:idOk r l i=true):IntKind.wrap .i64 (IntKind.wrap .i64 (r*(16:Int))+IntKind.wrap .i64 (i*q2x l))=q00 r l i:=by
  have h1:=iw h; have h2:=qpb h
  rw [q26 (x:=r*16) (by omega) (by omega),q26 (x:=i*q2x l) (by omega) (by omega),q26 (by omega) (by omega)]
  simp [q00,h]
theorem qfv (k:Nat)(hk:2000000≤k)(a0:Int)(a1:Int)(a2:Int):go (k+3) spec_StartOf [(.agg [(.int .i64 (a0)),(.int .i64 (a1)),(.int .i64 (a2))])]=some [.int .i64 (q00 a0 a1 a2)]:=by
  rw [qmm]
  simp (disch:=omega) only [wk,bit,nI,qfg,qfx]
  cases h:idOk a0 a1 a2
  · simp [q00,h]
  · rw [q03 h]; rfl
theorem qc6 (k:Nat)(hk:2000000≤k)(a0:Int)(a1:Int)(a2:Int):go (k+4) impl_StartOf [(.agg [(.int .i64 (a0)),(.int .i64 (a1)),(.int .i64 (a2))])]=some [.int .i64 (q00 a0 a1 a2)]:=by
  rw [qj6]
  simp (disch:=omega) only [wk,bit,nI,qcl,qda]
  cases h:idOk a0 a1 a2
  · simp [q00,h]
  · rw [q03 h]; rfl
theorem qn0 (r l i:Int):IntKind.wrap .i64 (q00 r l i+q2x l)=q00 r l i+q2x l:=by
  have h1:=q01 r l i; have h2:=q2z l
  exact q26 (by omega) (by omega)
theorem qga (k:Nat)(hk:2000000≤k)(a0:Int)(a1:Int)(a2:Int):go (k+4) spec_l04End [(.agg [(.int .i64 (a0)),(.int .i64 (a1)),(.int .i64 (a2))])]=some [.int .i64 (q00 a0 a1 a2+q2x a1)]:=by
  rw [qmx]
  simp (disch:=omega) only [wk,bit,nI,qfv,qfx,qn0]
theorem qds (k:Nat)(hk:2000000≤k)(a0:Int)(a1:Int)(a2:Int):go (k+5) impl_endOf [(.agg [(.int .i64 (a0)),(.int .i64 (a1)),(.int .i64 (a2))])]=some [.int .i64 (q00 a0 a1 a2+q2x a1)]:=by
  rw [qk5]
  simp (disch:=omega) only [wk,bit,nI,qc6,qda,qn0]
abbrev Cell:=Int×Int×Int
def qu6 (roots:Int):Int→List Cell→Bool
  | pos,[]=>inR roots 1 8&&decide (pos=roots*16)
  | pos,x::rest=>idOk x.1 x.2.1 x.2.2&&(decide (q00 x.1 x.2.1 x.2.2=pos)&&qu6 roots (q00 x.1 x.2.1 x.2.2+q2x x.2.1) rest)
theorem qu9 (roots pos:Int):cond (inR roots 1 8) (some [D.bool (decide (pos=IntKind.wrap .i64 (roots*(16:Int))))]) (some [D.bool false])=some [D.bool (qu6 roots pos [])]:=by
  unfold qu6
  cases h:inR roots 1 8
  · rfl
  · simp only [inR,Bool.and_eq_true,decide_eq_true_eq] at h
    rw [q26 (by omega) (by omega)]; rfl
theorem qua (k:Nat)(hk:2000000≤k)(fu:List (Nat×Nat))(z:Bool)(l:List Cell)(roots:Int)(hl:(l.length:Int)≤1048576): ∀ (n i:Nat)(pos:Int),i≤l.length→l.length - i<n→
    lp (k+4) spec_MeshOk [] fu 3 (n) (qzc pos (i:Int) z l roots)=some [.bool (qu6 roots pos (l.drop i))]
  | 0,i,pos,hi,hn=>by omega
  | n+1,i,pos,hi,hn=>by
    rw [qrr]
    by_cases h:i<l.length
    · rw [qiz h zz3]
      simp (disch:=omega) only [wk,bit,nI,qfg,qfv,qga,qu6]
      rw [qua k hk fu z l roots hl n (i+1) _ (by omega) (by omega)]
      simp only [qif,qig,Bool.and_assoc]
    · rw [List.drop_of_length_le (by omega)]
      simp (disch:=omega) only [wk,bit,nI,qf7]
      exact qu9 roots pos
theorem qfo (k:Nat)(hk:2000000≤k)(a0:Int)(a1z:Bool)(a1:List (Int×Int×Int))(hl:(a1.length:Int)≤1048576):go (k+5) spec_MeshOk [(.agg [(.int .i64 (a0)),(.arr false (a1z) (.r3 (a1)))])]=some [.bool (qu6 a0 0 a1)]:=by
  rw [qmf]
  exact qua k hk _ _ a1 a0 hl _ 0 0 (by omega) (by omega)
theorem qtg (k:Nat)(hk:2000000≤k)(fu:List (Nat×Nat))(z:Bool)(l:List Cell)(roots:Int)(hl:(l.length:Int)≤1048576): ∀ (n i:Nat)(pos:Int),i≤l.length→l.length - i<n→
    lp (k+5) impl_MeshOk [] fu 3 (n) (qya pos (l.length:Int) (i:Int) z l roots)=some [.bool (qu6 roots pos (l.drop i))]
  | 0,i,pos,hi,hn=>by omega
  | n+1,i,pos,hi,hn=>by
    rw [qqp]
    by_cases h:i<l.length
    · rw [qiz h zz3]
      simp (disch:=omega) only [wk,bit,nI,qcl,qc6,qds,qu6]
      rw [qtg k hk fu z l roots hl n (i+1) _ (by omega) (by omega)]
      simp only [qif,qig,Bool.and_assoc]
    · rw [List.drop_of_length_le (by omega)]
      simp (disch:=omega) only [wk,bit,nI,qep]
      exact qu9 roots pos
theorem qct (k:Nat)(hk:2000000≤k)(a0:Int)(a1z:Bool)(a1:List (Int×Int×Int))(hl:(a1.length:Int)≤1048576):go (k+6) impl_MeshOk [(.agg [(.int .i64 (a0)),(.arr false (a1z) (.r3 (a1)))])]=some [.bool (qu6 a0 0 a1)]:=by
  rw [qjm]
  exact qtg k hk _ _ a1 a0 hl _ 0 0 (by omega) (by omega)
theorem qdw (k:Nat)(hk:2000000≤k)(a0:Int)(a1z:Bool)(a1:List (Int×Int×Int))(b:Int)(hl:(a1.length:Int)≤1048576):go (k+2) impl_Mesh_has [(.agg [(.int .i64 (a0)),(.arr false (a1z) (.r3 (a1)))]),(.int .i64 (b))]=some [.bool (inR b 0 ((a1.length:Int) - 1))]:=by
  rw [qjr]
  simp (disch:=omega) only [wk,bit,nI,qep]
end Go.Proofs.YtjfjniebmdafeaaGreatDoor
end
section
namespace Go.Proofs.YtjfjniebmdafeaaGreatDoor
open Go.Ev
def An1:Ann:=⟨lookK keepL,lookM modeL,lookI inlL,fun _=>none,lookM giveL⟩
noncomputable def go1 (k f:Nat)(ds:List D):Option (List D):=ev Tryz.prog An1 k f ds
noncomputable def lp1 (k f:Nat)(md:List D)(fu:List (Nat×Nat))(tgt n:Nat)(s:St):Option (List D):=loopAt Tryz.prog An1 k f md fu tgt n s
theorem qlh (k:Nat)(a b c:Int):go1 (k+1) impl_within [(.int .i64 (a)),(.int .i64 (b)),(.int .i64 (c))]=
 cond (decide (b≤a))
 (some [(.bool (decide (a≤c)))])
 (some [(.bool (false))]):=by kernel_rfl
theorem qla (k:Nat)(a:Int):go1 (k+1) impl_isLevel [(.int .i64 (a))]=
 (go1 k impl_within [(.int .i64 (a)),(.int .i64 (0:Int)),(.int .i64 ((4:Int)))]).bind fun r0=>
 some [(.bool (bit (nth r0 0)))]:=by kernel_rfl
theorem qje (k:Nat)(a0 a1 a2:Int):go1 (k+1) impl_IdOk [(.agg [(.int .i64 (a0)),(.int .i64 (a1)),(.int .i64 (a2))])]=
 (go1 k impl_within [(.int .i64 (a0)),(.int .i64 (0:Int)),(.int .i64 ((7:Int)))]).bind fun r0=>
 cond (bit (nth r0 0))
 ((go1 k impl_isLevel [(.int .i64 (a1))]).bind fun r1=>
 cond (bit (nth r1 0))
 (cond (decide ((0:Int)≤a1))
 ((go1 k impl_within [(.int .i64 (a2)),(.int .i64 (0:Int)),(.int .i64 (IntKind.wrap .i64 (IntKind.wrap .i64 ((1:Int)*(2:Int) ^ shiftN .i64 a1) - (1:Int))))]).bind fun r2=>
 some [(.bool (bit (nth r2 0)))])
 (none))
 (some [(.bool (false))]))
 (some [(.bool (false))]):=by kernel_rfl
theorem qkv (k:Nat)(a:Int):go1 (k+1) impl_WidthOf [(.int .i64 (a))]=
 (go1 k impl_isLevel [(.int .i64 (a))]).bind fun r0=>
 cond (!bit (nth r0 0))
 (some [(.int .i64 (0:Int))])
 (cond (decide ((0:Int)≤a))
 (some [(.int .i64 (Int.fdiv (16:Int) ((2:Int) ^ shiftN .i64 a)))])
 (none)):=by kernel_rfl
theorem qj7 (k:Nat)(a0 a1 a2:Int):go1 (k+1) impl_StartOf [(.agg [(.int .i64 (a0)),(.int .i64 (a1)),(.int .i64 (a2))])]=
 (go1 k impl_IdOk [(.agg [(.int .i64 (a0)),(.int .i64 (a1)),(.int .i64 (a2))])]).bind fun r0=>
 cond (!bit (nth r0 0))
 (some [(.int .i64 ((-1:Int)))])
 ((go1 k impl_WidthOf [(.int .i64 (a1))]).bind fun r1=>
 some [(.int .i64 (IntKind.wrap .i64 (IntKind.wrap .i64 (a0*(16:Int))+IntKind.wrap .i64 (a2*D.toInt (nth r1 0)))))]):=by kernel_rfl
theorem qk6 (k:Nat)(a0 a1 a2:Int):go1 (k+1) impl_endOf [(.agg [(.int .i64 (a0)),(.int .i64 (a1)),(.int .i64 (a2))])]=
 (go1 k impl_StartOf [(.agg [(.int .i64 (a0)),(.int .i64 (a1)),(.int .i64 (a2))])]).bind fun r0=>
 (go1 k impl_WidthOf [(.int .i64 (a1))]).bind fun r1=>
 some [(.int .i64 (IntKind.wrap .i64 (D.toInt (nth r0 0)+D.toInt (nth r1 0))))]:=by kernel_rfl
theorem qjn (k:Nat)(a0:Int)(a1z:Bool)(a1:List (Int×Int×Int)):go1 (k+1) impl_MeshOk [(.agg [(.int .i64 (a0)),(.arr false (a1z) (.r3 (a1)))])]=
 lp1 k impl_MeshOk [] [] 3 k (qya (0:Int) (nI (List.length a1)) (0:Int) a1z a1 a0):=by kernel_rfl
theorem qqq (k n:Nat)(fu:List (Nat×Nat))(x0 x1 x2:Int)(z3:Bool)(l4:List (Int×Int×Int))(x5:Int):lp1 k impl_MeshOk [] fu 3 (n+1) (qya x0 x1 x2 z3 l4 x5)=
 cond (decide (x2<x1))
 (cond (decide ((0:Int)≤x2)&&decide (x2<nI (List.length l4)))
 ((go1 k impl_IdOk [(.agg [(.int .i64 (Prod.fst (List.getD l4 (Int.toNat x2) zz3))),(.int .i64 (Prod.fst (Prod.snd (List.getD l4 (Int.toNat x2) zz3)))),(.int .i64 (Prod.snd (Prod.snd (List.getD l4 (Int.toNat x2) zz3))))])]).bind fun r0=>
 cond (!bit (nth r0 0))
 (some [(.bool (false))])
 ((go1 k impl_StartOf [(.agg [(.int .i64 (Prod.fst (List.getD l4 (Int.toNat x2) zz3))),(.int .i64 (Prod.fst (Prod.snd (List.getD l4 (Int.toNat x2) zz3)))),(.int .i64 (Prod.snd (Prod.snd (List.getD l4 (Int.toNat x2) zz3))))])]).bind fun r1=>
 cond (!decide (D.toInt (nth r1 0)=x0))
 (some [(.bool (false))])
 ((go1 k impl_endOf [(.agg [(.int .i64 (Prod.fst (List.getD l4 (Int.toNat x2) zz3))),(.int .i64 (Prod.fst (Prod.snd (List.getD l4 (Int.toNat x2) zz3)))),(.int .i64 (Prod.snd (Prod.snd (List.getD l4 (Int.toNat x2) zz3))))])]).bind fun r2=>
 lp1 k impl_MeshOk [] fu 3 n (qya (D.toInt (nth r2 0)) x1 (IntKind.wrap .i64 (x2+(1:Int))) z3 l4 x5))))
 (none))
 ((go1 k impl_within [(.int .i64 (x5)),(.int .i64 ((1:Int))),(.int .i64 ((8:Int)))]).bind fun r3=>
 cond (bit (nth r3 0))
 (some [(.bool (decide (x0=IntKind.wrap .i64 (x5*(16:Int)))))])
 (some [(.bool (false))])):=by kernel_rfl
end Go.Proofs.YtjfjniebmdafeaaGreatDoor
end
section
namespace Go.Proofs.YtjfjniebmdafeaaGreatDoor
open Go.Ev
theorem qeq (k:Nat)(hk:2000000≤k)(a:Int)(b:Int)(c:Int):go1 (k+1) impl_within [(.int .i64 (a)),(.int .i64 (b)),(.int .i64 (c))]=some [.bool (inR a b c)]:=by
  rw [qlh]; unfold inR; cases decide (b≤a)<;>rfl
theorem qd1 (k:Nat)(hk:2000000≤k)(a:Int):go1 (k+2) impl_isLevel [(.int .i64 (a))]=some [.bool (inR a 0 4)]:=by
  rw [qla]
  simp (disch:=omega) only [qbs,nth0,nth1,nth2,nth3,bit,qhg,qhh,qhs,qhx,qhy,qhz,qh0,qh1,qh2,qh3,qhi,qhj,qhk,qhl,qhm,qhn,qho,qhp,qhq,qhr,qht,qhu,qhv,qhw,q19,q18,q2a,qvo,qww,qwy,qpj,qb1,q1b,nI,qie,qic,Bool.not_true,Bool.not_false,Bool.and_true,Bool.true_and,Bool.and_false,Bool.false_and,Bool.or_true,Bool.true_or,Bool.or_false,Bool.false_or,beq_self_eq_true,dTT,dFF,dT,dF,bigI,big0,qvn,q26,q27,List.length_set,List.length_replicate,Int.toNat_natCast,qhe,qhf,imax,imin,qeq]
theorem qcm (k:Nat)(hk:2000000≤k)(a0:Int)(a1:Int)(a2:Int):go1 (k+3) impl_IdOk [(.agg [(.int .i64 (a0)),(.int .i64 (a1)),(.int .i64 (a2))])]=some [.bool (idOk a0 a1 a2)]:=by
  rw [qje]
  simp (disch:=omega) only [qbs,nth0,nth1,nth2,nth3,bit,qhg,qhh,qhs,qhx,qhy,qhz,qh0,qh1,qh2,qh3,qhi,qhj,qhk,qhl,qhm,qhn,qho,qhp,qhq,qhr,qht,qhu,qhv,qhw,q19,q18,q2a,qvo,qww,qwy,qpj,qb1,q1b,nI,qie,qic,Bool.not_true,Bool.not_false,Bool.and_true,Bool.true_and,Bool.and_false,Bool.false_and,Bool.or_true,Bool.true_or,Bool.or_false,Bool.false_or,beq_self_eq_true,dTT,dFF,dT,dF,bigI,big0,qvn,q26,q27,List.length_set,List.length_replicate,Int.toNat_natCast,qhe,qhf,imax,imin,qeq,qd1]
  unfold idOk
  cases h1:inR a0 0 7<;>cases h2:inR a1 0 4<;>simp only [qie,qic,Bool.true_and,Bool.false_and,Bool.and_false]
  have:=lev0 h2
  have:=qwr h2
  rw [pw h2,q26 (x:=pow2 a1 - 1) (by omega) (by omega)]
  rw [show decide ((0:Int)≤a1)=true by simp; omega,qie]
  have e:inR a2 0 (pow2 a1 - 1)=(decide (0≤a2)&&decide (a2<pow2 a1)):=by
    unfold inR; rw [Bool.eq_iff_iff]; simp only [Bool.and_eq_true,decide_eq_true_eq]; omega
  rw [e]
theorem qdb (k:Nat)(hk:2000000≤k)(a:Int):go1 (k+3) impl_WidthOf [(.int .i64 (a))]=some [.int .i64 (q2x a)]:=by
  rw [qkv]
  simp (disch:=omega) only [qbs,nth0,nth1,nth2,nth3,bit,qhg,qhh,qhs,qhx,qhy,qhz,qh0,qh1,qh2,qh3,qhi,qhj,qhk,qhl,qhm,qhn,qho,qhp,qhq,qhr,qht,qhu,qhv,qhw,q19,q18,q2a,qvo,qww,qwy,qpj,qb1,q1b,nI,qie,qic,Bool.not_true,Bool.not_false,Bool.and_true,Bool.true_and,Bool.and_false,Bool.false_and,Bool.or_true,Bool.true_or,Bool.or_false,Bool.false_or,beq_self_eq_true,dTT,dFF,dT,dF,bigI,big0,qvn,q26,q27,List.length_set,List.length_replicate,Int.toNat_natCast,qhe,qhf,imax,imin,qd1,q2x]
  cases h2:inR a 0 4
  · simp
  · rcases lev h2 with rfl | rfl | rfl | rfl | rfl<;>simp [q27,sh0,sh1,sh2,sh3,sh4,p20,p21,p22,p23,p24]<;>decide
theorem qc7 (k:Nat)(hk:2000000≤k)(a0:Int)(a1:Int)(a2:Int):go1 (k+4) impl_StartOf [(.agg [(.int .i64 (a0)),(.int .i64 (a1)),(.int .i64 (a2))])]=some [.int .i64 (q00 a0 a1 a2)]:=by
  rw [qj7]
  simp (disch:=omega) only [qbs,nth0,nth1,nth2,nth3,bit,qhg,qhh,qhs,qhx,qhy,qhz,qh0,qh1,qh2,qh3,qhi,qhj,qhk,qhl,qhm,qhn,qho,qhp,qhq,qhr,qht,qhu,qhv,qhw,q19,q18,q2a,qvo,qww,qwy,qpj,qb1,q1b,nI,qie,qic,Bool.not_true,Bool.not_false,Bool.and_true,Bool.true_and,Bool.and_false,Bool.false_and,Bool.or_true,Bool.true_or,Bool.or_false,Bool.false_or,beq_self_eq_true,dTT,dFF,dT,dF,bigI,big0,qvn,q26,q27,List.length_set,List.length_replicate,Int.toNat_natCast,qhe,qhf,imax,imin,qcm,qdb]
  cases h:idOk a0 a1 a2
  · simp [q00,h]
  · rw [q03 h]; rfl
theorem qdt (k:Nat)(hk:2000000≤k)(a0:Int)(a1:Int)(a2:Int):go1 (k+5) impl_endOf [(.agg [(.int .i64 (a0)),(.int .i64 (a1)),(.int .i64 (a2))])]=some [.int .i64 (q00 a0 a1 a2+q2x a1)]:=by
  rw [qk6]
  simp (disch:=omega) only [qbs,nth0,nth1,nth2,nth3,bit,qhg,qhh,qhs,qhx,qhy,qhz,qh0,qh1,qh2,qh3,qhi,qhj,qhk,qhl,qhm,qhn,qho,qhp,qhq,qhr,qht,qhu,qhv,qhw,q19,q18,q2a,qvo,qww,qwy,qpj,qb1,q1b,nI,qie,qic,Bool.not_true,Bool.not_false,Bool.and_true,Bool.true_and,Bool.and_false,Bool.false_and,Bool.or_true,Bool.true_or,Bool.or_false,Bool.false_or,beq_self_eq_true,dTT,dFF,dT,dF,bigI,big0,qvn,q26,q27,List.length_set,List.length_replicate,Int.toNat_natCast,qhe,qhf,imax,imin,qc7,qdb,qn0]
theorem qth (k:Nat)(hk:2000000≤k)(fu:List (Nat×Nat))(z:Bool)(l:List Cell)(roots:Int)(hl:(l.length:Int)≤1048576): ∀ (n i:Nat)(pos:Int),i≤l.length→l.length - i<n→
    lp1 (k+5) impl_MeshOk [] fu 3 (n) (qya pos (l.length:Int) (i:Int) z l roots)=some [.bool (qu6 roots pos (l.drop i))]
  | 0,i,pos,hi,hn=>by omega
  | n+1,i,pos,hi,hn=>by
    rw [qqq]
    by_cases h:i<l.length
    · rw [qiz h zz3]
      simp (disch:=omega) only [qbs,nth0,nth1,nth2,nth3,bit,qhg,qhh,qhs,qhx,qhy,qhz,qh0,qh1,qh2,qh3,qhi,qhj,qhk,qhl,qhm,qhn,qho,qhp,qhq,qhr,qht,qhu,qhv,qhw,q19,q18,q2a,qvo,qww,qwy,qpj,qb1,q1b,nI,qie,qic,Bool.not_true,Bool.not_false,Bool.and_true,Bool.true_and,Bool.and_false,Bool.false_and,Bool.or_true,Bool.true_or,Bool.or_false,Bool.false_or,beq_self_eq_true,dTT,dFF,dT,dF,bigI,big0,qvn,q26,q27,List.length_set,List.length_replicate,Int.toNat_natCast,qhe,qhf,imax,imin,qcm,qc7,qdt,qu6]
      rw [qth k hk fu z l roots hl n (i+1) _ (by omega) (by omega)]
      simp only [qif,qig,Bool.and_assoc]
    · rw [List.drop_of_length_le (by omega)]
      simp (disch:=omega) only [qbs,nth0,nth1,nth2,nth3,bit,qhg,qhh,qhs,qhx,qhy,qhz,qh0,qh1,qh2,qh3,qhi,qhj,qhk,qhl,qhm,qhn,qho,qhp,qhq,qhr,qht,qhu,qhv,qhw,q19,q18,q2a,qvo,qww,qwy,qpj,qb1,q1b,nI,qie,qic,Bool.not_true,Bool.not_false,Bool.and_true,Bool.true_and,Bool.and_false,Bool.false_and,Bool.or_true,Bool.true_or,Bool.or_false,Bool.false_or,beq_self_eq_true,dTT,dFF,dT,dF,bigI,big0,qvn,q26,q27,List.length_set,List.length_replicate,Int.toNat_natCast,qhe,qhf,imax,imin,qeq]
      exact qu9 roots pos
theorem qcu (k:Nat)(hk:2000000≤k)(a0:Int)(a1z:Bool)(a1:List (Int×Int×Int))(hl:(a1.length:Int)≤1048576):go1 (k+6) impl_MeshOk [(.agg [(.int .i64 (a0)),(.arr false (a1z) (.r3 (a1)))])]=some [.bool (qu6 a0 0 a1)]:=by
  rw [qjn]
  exact qth k hk _ _ a1 a0 hl _ 0 0 (by omega) (by omega)
end Go.Proofs.YtjfjniebmdafeaaGreatDoor
end
section
namespace Go.Proofs.YtjfjniebmdafeaaGreatDoor
open Go.Ev
theorem qid {α:Type}(a:Bool)(x y:α):cond (!a) x y=cond a y x:=by cases a<;>rfl
theorem qib {α:Type}(a b:Bool)(x y:α):cond a (cond b x y) y=cond (a&&b) x y:=by cases a<;>rfl
abbrev qsj (l:List Cell)(i:Nat):Int:=(l.getD i zz3).2.1
def qab (l:List Cell):Prop:= ∀ i,0≤qsj l i∧qsj l i≤4
theorem qvc: ∀ (l:List Cell)(r p:Int),qu6 r p l=true→ ∀ i,0≤qsj l i∧qsj l i≤4
  | [],r,p,h,i=>by simp [qsj]
  | x::l,r,p,h,i=>by
    simp only [qu6,Bool.and_eq_true] at h
    cases i with
    | zero=>have:=lev0 (qpb h.1).2.2.1; simpa [qsj] using this
    | succ i=>have:=qvc l r _ h.2.2 i; simpa [qsj] using this
def q2f (l:List Cell):Nat→Nat→Int
  | 0,_=> -1
  | n+1,i=>if 1<qsj l i - qsj l (i+1)∨qsj l i - qsj l (i+1)< -1 then (i:Int) else q2f l n (i+1)
def unb (l:List Cell):Int:=q2f l (l.length - 1) 0
theorem qdf (k:Nat)(hk:2000000≤k)(a:Int)(h: -9223372036854775807≤a)(h' :a≤9223372036854775807):go (k+1) impl_absolute [(.int .i64 (a))]=some [.int .i64 (max (0 - a) a)]:=by
  rw [qkz]; simp (disch:=omega) only [wk,bit,nI]
theorem quj (k:Nat)(hk:2000000≤k)(fu:List (Nat×Nat))(z:Bool)(l:List Cell)(r:Int)(hl:(l.length:Int)≤1048576)(hv:qab l): ∀ (n i:Nat),i≤l.length→l.length - 1 - i<n→
    lp k spec_l05First [] fu 2 (n) (qzj (i:Int) z l r)=some [.int .i64 (q2f l (l.length - 1 - i) i)]
  | 0,i,hi,hn=>by omega
  | n+1,i,hi,hn=>by
    rw [qry]
    by_cases h:i+1<l.length
    · have e:=quj k hk fu z l r hl hv n (i+1) (by omega) (by omega)
      have h1:=hv i; have h2:=hv (i+1)
      simp only [qsj] at h1 h2
      simp (disch:=omega) only [wk,bit,nI,e]
      rw [show l.length - 1 - i=(l.length - 1 - (i+1))+1 by omega,q2f]
      simp only [qsj]
      by_cases g:1<(l.getD i zz3).2.1 - (l.getD (i+1) zz3).2.1
      · simp (disch:=omega) only [wk,bit,nI]; rw [if_pos (Or.inl g)]
      · by_cases g2:(l.getD i zz3).2.1 - (l.getD (i+1) zz3).2.1< -1
        · simp (disch:=omega) only [wk,bit,nI]; rw [if_pos (Or.inr g2)]
        · simp (disch:=omega) only [wk,bit,nI]; rw [if_neg (not_or.2 ⟨g,g2⟩)]
    · simp (disch:=omega) only [wk,bit,nI]
      rw [show l.length - 1 - i=0 by omega]; rfl
theorem qgf (k:Nat)(hk:2000000≤k)(a0:Int)(a1z:Bool)(a1:List (Int×Int×Int))(hl:(a1.length:Int)≤1048576)(hv:qab a1):go (k+1) spec_l05First [(.agg [(.int .i64 (a0)),(.arr false (a1z) (.r3 (a1)))])]=some [.int .i64 (unb a1)]:=by
  rw [qm2]
  exact quj k hk [] a1z a1 a0 hl hv _ 0 (by omega) (by omega)
theorem qtu (k:Nat)(hk:2000000≤k)(fu:List (Nat×Nat))(z:Bool)(l:List Cell)(r:Int)(hl:(l.length:Int)≤1048576)(hv:qab l): ∀ (n i:Nat),i≤l.length→l.length - 1 - i<n→
    lp (k+1) impl_Mesh_unbalanced [] fu 2 (n) (qyd ((l.length:Int) - 1) (i:Int) z l r)=some [.int .i64 (q2f l (l.length - 1 - i) i)]
  | 0,i,hi,hn=>by omega
  | n+1,i,hi,hn=>by
    rw [qqt]
    by_cases h:i+1<l.length
    · have e:=qtu k hk fu z l r hl hv n (i+1) (by omega) (by omega)
      have h1:=hv i; have h2:=hv (i+1)
      simp only [qsj] at h1 h2
      simp (disch:=omega) only [wk,bit,nI,e,qdf]
      rw [show l.length - 1 - i=(l.length - 1 - (i+1))+1 by omega,q2f]
      simp only [qsj]
      by_cases g:1<(l.getD i zz3).2.1 - (l.getD (i+1) zz3).2.1
      · simp (disch:=omega) only [wk,bit,nI]; rw [if_pos (Or.inl g)]
      · by_cases g2:(l.getD i zz3).2.1 - (l.getD (i+1) zz3).2.1< -1
        · simp (disch:=omega) only [wk,bit,nI]; rw [if_pos (Or.inr g2)]
        · simp (disch:=omega) only [wk,bit,nI]; rw [if_neg (not_or.2 ⟨g,g2⟩)]
    · simp (disch:=omega) only [wk,bit,nI]
      rw [show l.length - 1 - i=0 by omega]; rfl
theorem qeo (k:Nat)(hk:2000000≤k)(a0:Int)(a1z:Bool)(a1:List (Int×Int×Int))(hl:(a1.length:Int)≤1048576)(hv:qab a1):go (k+2) impl_Mesh_unbalanced [(.agg [(.int .i64 (a0)),(.arr false (a1z) (.r3 (a1)))])]=some [.int .i64 (unb a1)]:=by
  rw [qjw]
  simp (disch:=omega) only [wk,bit,nI]
  exact qtu k hk [] a1z a1 a0 hl hv _ 0 (by omega) (by omega)
def qbm (r:Int)(l:List Cell):Bool:=qu6 r 0 l&&decide (unb l<0)
theorem qfi (k:Nat)(hk:2000000≤k)(a0:Int)(a1z:Bool)(a1:List (Int×Int×Int))(hl:(a1.length:Int)≤1048576):go (k+6) spec_IsBalanced [(.agg [(.int .i64 (a0)),(.arr false (a1z) (.r3 (a1)))])]=some [.bool (qbm a0 a1)]:=by
  rw [ql9]
  simp (disch:=omega) only [wk,bit,nI,qfo]
  unfold qbm
  cases h:qu6 a0 0 a1
  · rfl
  · have hv:qab a1:=qvc _ _ _ h
    simp (disch:=omega) only [wk,bit,nI,qgf k hk]
    rw [qgf _ (by omega) _ _ _ hl hv]; simp (disch:=omega) only [wk,bit,nI]
theorem qco (k:Nat)(hk:2000000≤k)(a0:Int)(a1z:Bool)(a1:List (Int×Int×Int))(hl:(a1.length:Int)≤1048576):go (k+7) impl_IsBalanced [(.agg [(.int .i64 (a0)),(.arr false (a1z) (.r3 (a1)))])]=some [.bool (qbm a0 a1)]:=by
  rw [qjg]
  simp (disch:=omega) only [wk,bit,nI,qct]
  unfold qbm
  cases h:qu6 a0 0 a1
  · rfl
  · have hv:qab a1:=qvc _ _ _ h
    rw [qie,qeo _ (by omega) _ _ _ hl hv]; simp (disch:=omega) only [wk,bit,nI]
def isum:List Int→Int
  | []=>0
  | x::l=>x+isum l
theorem qps {B:Int} : ∀ (l:List Int),(∀ x∈l,0≤x∧x≤B)→0≤isum l∧isum l≤B*l.length
  | [],h=>by simp [isum]
  | x::l,h=>by
    have:=qps l fun y hy=>h y (by simp [hy])
    have h2:=h x (by simp)
    simp only [isum,List.length_cons,Int.natCast_add,Int.natCast_one,Int.mul_add,Int.mul_one]; omega
theorem qpr {B:Int}(hB:0≤B): ∀ (l:List Int)(i:Nat),(∀ x∈l,0≤x∧x≤B)→0≤isum (l.drop i)∧isum (l.drop i)≤isum l
  | [],i,h=>by simp [isum]
  | x::l,0,h=>by have:=qps (x::l) h; simp only [List.drop_zero]; omega
  | x::l,i+1,h=>by
    have:=qpr hB l i fun y hy=>h y (by simp [hy])
    have h2:=h x (by simp)
    simp only [isum,List.drop_succ_cons]; omega
theorem qum (k:Nat)(hk:2000000≤k)(fu:List (Nat×Nat))(z:Bool)(l:List Int)(hl:(l.length:Int)≤1048576)(hb: ∀ x∈l,0≤x∧x≤1000000000000): ∀ (n i:Nat)(s:Int),i≤l.length→l.length - i<n→s+isum (l.drop i)=isum l→0≤s→
    lp k spec_l07Sum [] fu 3 (n) (qzm s (i:Int) z l)=some [.int .i64 (isum l)]
  | 0,i,s,hi,hn,hs,h0=>by omega
  | n+1,i,s,hi,hn,hs,h0=>by
    rw [qr1]
    by_cases h:i<l.length
    · rw [qiz h 0] at hs
      simp only [isum] at hs
      have h1:=qps l hb
      have h2:=qpr (by omega) l (i+1) hb
      have h3:=hb _ (qov h 0)
      simp (disch:=omega) only [wk,bit,nI]
      exact qum k hk fu z l hl hb n (i+1) _ (by omega) (by omega) (by omega) (by omega)
    · rw [List.drop_of_length_le (by omega)] at hs
      simp only [isum] at hs
      simp (disch:=omega) only [wk,bit,nI]
      rw [show s=isum l by omega]
theorem qgm (k:Nat)(hk:2000000≤k)(az:Bool)(a:List Int)(hl:(a.length:Int)≤1048576)(hb: ∀ x∈a,0≤x∧x≤1000000000000):go (k+1) spec_l07Sum [(.arr false (az) (.ints .i64 (a)))]=some [.int .i64 (isum a)]:=by
  rw [qm9]
  exact qum k hk [] az a hl hb _ 0 0 (by omega) (by omega) (by simp) (by omega)
theorem qtt (k:Nat)(hk:2000000≤k)(fu:List (Nat×Nat))(z:Bool)(l:List Int)(hl:(l.length:Int)≤1048576)(hb: ∀ x∈l,0≤x∧x≤1000000000000): ∀ (n i:Nat)(s:Int),i≤l.length→l.length - i<n→s+isum (l.drop i)=isum l→0≤s→
    lp k impl_sum [] fu 3 (n) (qyw s (l.length:Int) (i:Int) z l)=some [.int .i64 (isum l)]
  | 0,i,s,hi,hn,hs,h0=>by omega
  | n+1,i,s,hi,hn,hs,h0=>by
    rw [qrb]
    by_cases h:i<l.length
    · rw [qiz h 0] at hs
      simp only [isum] at hs
      have h1:=qps l hb
      have h2:=qpr (by omega) l (i+1) hb
      have h3:=hb _ (qov h 0)
      simp (disch:=omega) only [wk,bit,nI]
      exact qtt k hk fu z l hl hb n (i+1) _ (by omega) (by omega) (by omega) (by omega)
    · rw [List.drop_of_length_le (by omega)] at hs
      simp only [isum] at hs
      simp (disch:=omega) only [wk,bit,nI]
      rw [show s=isum l by omega]
theorem qel (k:Nat)(hk:2000000≤k)(az:Bool)(a:List Int)(hl:(a.length:Int)≤1048576)(hb: ∀ x∈a,0≤x∧x≤1000000000000):go (k+1) impl_sum [(.arr false (az) (.ints .i64 (a)))]=some [.int .i64 (isum a)]:=by
  rw [qlf]
  exact qtt k hk [] az a hl hb _ 0 0 (by omega) (by omega) (by simp) (by omega)
def quw:List Int→List Int→Bool
  | m::ms,t::ts=>inR m 0 10000000&&(inR t 0 (1000*m)&&quw ms ts)
  | _,_=>true
theorem quy: ∀ (ms ts:List Int),ms.length=ts.length→quw ms ts=true→(∀ x∈ms,0≤x∧x≤10000000)∧(∀ x∈ts,0≤x∧x≤10000000000)
  | [],ts,hl,h=>by cases ts<;>simp_all
  | m::ms,[],hl,h=>by simp at hl
  | m::ms,t::ts,hl,h=>by
    simp only [quw,Bool.and_eq_true,qpe] at h
    have:=quy ms ts (by simpa using hl) h.2.2
    refine ⟨fun x hx=> ?_,fun x hx=> ?_⟩
    · rcases List.mem_cons.1 hx with rfl | hx
      · exact h.1
      · exact this.1 x hx
    · rcases List.mem_cons.1 hx with rfl | hx
      · omega
      · exact this.2 x hx
theorem qux: ∀ (ms ts:List Int),ms.length=ts.length→quw ms ts=true→ ∀ i,0≤ms.getD i 0∧ms.getD i 0≤10000000∧0≤ts.getD i 0∧ts.getD i 0≤1000*ms.getD i 0
  | [],ts,hl,h,i=>by cases ts<;>simp_all
  | m::ms,[],hl,h,i=>by simp at hl
  | m::ms,t::ts,hl,h,i=>by
    simp only [quw,Bool.and_eq_true,qpe] at h
    cases i with
    | zero=>simp; omega
    | succ i=>have:=qux ms ts (by simpa using hl) h.2.2 i; simpa using this
def qbo:List Int→Bool
  | []=>true
  | b::l=>inR b 0 1000000&&qbo l
theorem qbp: ∀ (l:List Int),qbo l=true→ ∀ x∈l,0≤x∧x≤1000000
  | [],h,x,hx=>by cases hx
  | b::l,h,x,hx=>by
    simp only [qbo,Bool.and_eq_true,qpe] at h
    rcases List.mem_cons.1 hx with rfl | hx
    · exact h.1
    · exact qbp l h.2 x hx
def stOk (r:Int)(l:List Cell)(m t b:List Int):Bool:=
  qbm r l&&(decide (m.length=l.length)&&(decide (t.length=l.length)&&(decide ((b.length:Int)=r)&&(quw m t&&(qbo b&&decide (isum m≤10000000))))))
theorem qud (k:Nat)(hk:2000000≤k)(fu:List (Nat×Nat))(r:Int)(z1 z2 z3 z4:Bool)(l:List Cell)(m t b:List Int)(hm:(m.length:Int)≤1048576)(hb:(b.length:Int)≤1048576)(hx: ∀ x∈m,0≤x∧x≤10000000): ∀ (n i:Nat),i≤b.length→b.length - i<n→
    lp (k+6) spec_StateOk [] fu 9 (n) (qzg (i:Int) z1 l z2 m z3 t z4 b r)=some [.bool (qbo (b.drop i)&&decide (isum m≤10000000))]
  | 0,i,hi,hn=>by omega
  | n+1,i,hi,hn=>by
    rw [qrv]
    by_cases h:i<b.length
    · rw [qiz h 0]
      have e:=qud k hk fu r z1 z2 z3 z4 l m t b hm hb hx n (i+1) (by omega) (by omega)
      simp (disch:=omega) only [wk,bit,nI,qf7,qbo,e,qif,Bool.and_assoc]
    · rw [List.drop_of_length_le (by omega)]
      have hx' : ∀ x∈m,0≤x∧x≤1000000000000:=fun x hh=>by have:=hx x hh; omega
      rw [show decide ((i:Int)<nI b.length)=false by apply dF; simp only [nI]; omega,qic,qgm _ (by omega) _ _ hm hx']
      simp (disch:=omega) only [wk,bit,nI,qbo]
theorem quc (k:Nat)(hk:2000000≤k)(fu:List (Nat×Nat))(r:Int)(z1 z2 z3 z4:Bool)(l:List Cell)(m t b:List Int)(hm:(m.length:Int)≤1048576)(ht:t.length=m.length): ∀ (n i:Nat),i≤m.length→m.length - i<n→
    lp (k+6) spec_StateOk [] fu 4 (n) (qzf (i:Int) z1 l z2 m z3 t z4 b r)=cond (quw (m.drop i) (t.drop i)) (lp (k+6) spec_StateOk [] fu 9 (k+6) (qzg 0 z1 l z2 m z3 t z4 b r)) (some [.bool false])
  | 0,i,hi,hn=>by omega
  | n+1,i,hi,hn=>by
    rw [qru]
    by_cases h:i<m.length
    · rw [qiz h 0,qiz (l:=t) (by omega:i<t.length) 0]
      have e:=quc k hk fu r z1 z2 z3 z4 l m t b hm ht n (i+1) (by omega) (by omega)
      by_cases h1:inR (m.getD i 0) 0 10000000=true
      · have h2:=qpe.1 h1
        simp (disch:=omega) only [wk,bit,nI,qf7,quw,e,h1,qid,qib]
      · have h1:inR (m.getD i 0) 0 10000000=false:=by simpa using h1
        simp (disch:=omega) only [wk,bit,nI,qf7,quw,h1]
    · rw [List.drop_of_length_le (by omega),List.drop_of_length_le (by omega)]
      simp (disch:=omega) only [wk,bit,nI,quw]
theorem qfw (k:Nat)(hk:2000000≤k)(a0:Int)(a1z:Bool)(a1:List (Int×Int×Int))(a2z:Bool)(a2:List Int)(a3z:Bool)(a3:List Int)(a4z:Bool)(a4:List Int)(hl:(a1.length:Int)≤1048576)(hb:(a4.length:Int)≤1048576):go (k+7) spec_StateOk [(.agg [(.int .i64 (a0)),(.arr false (a1z) (.r3 (a1))),(.arr false (a2z) (.ints .i64 (a2))),(.arr false (a3z) (.ints .i64 (a3))),(.arr false (a4z) (.ints .i64 (a4)))])]=some [.bool (stOk a0 a1 a2 a3 a4)]:=by
  rw [qmn]
  simp (disch:=omega) only [wk,bit,nI,qfi]
  unfold stOk
  cases qbm a0 a1
  · rfl
  by_cases h1:a2.length=a1.length
  case neg=>simp (disch:=omega) only [wk,bit,nI]
  by_cases h2:a3.length=a1.length
  case neg=>simp (disch:=omega) only [wk,bit,nI]
  by_cases h3:(a4.length:Int)=a0
  case neg=>simp (disch:=omega) only [wk,bit,nI]
  simp (disch:=omega) only [wk,bit,nI]
  refine Eq.trans (quc k hk [] a0 a1z a2z a3z a4z a1 a2 a3 a4 (by omega) (by omega) _ 0 (by omega) (by omega)) ?_
  simp only [List.drop_zero]
  cases h4:quw a2 a3
  · rfl
  · have hx:=(quy a2 a3 (by omega) h4).1
    have e:=qud k hk [] a0 a1z a2z a3z a4z a1 a2 a3 a4 (by omega) hb hx (k+6) 0 (by omega) (by omega)
    simp only [List.drop_zero] at e
    simp only [qie,Bool.true_and,dT (h1),dT (h2),dT (h3),decide_true]
    exact e
theorem qdz (k:Nat)(hk:2000000≤k)(a:Int):go (k+2) impl_isBed [(.int .i64 (a))]=some [.bool (inR a 0 1000000)]:=by
  rw [qk8]; simp (disch:=omega) only [wk,bit,nI,qep]
theorem qdy (k:Nat)(hk:2000000≤k)(a:Int):go (k+3) impl_State_hasCells_1 [(.int .i64 (a))]=some [.bool (!inR a 0 1000000)]:=by
  rw [qkg]; simp (disch:=omega) only [wk,bit,nI,qdz]
theorem qtv (k:Nat)(hk:2000000≤k)(fu:List (Nat×Nat))(z:Bool)(l:List Int)(hl:(l.length:Int)≤1048576): ∀ (n i:Nat),i≤l.length→l.length - i<n→
    ∃ j:Int,lp (k+3) slices_IndexFunc_int_int [] fu 2 (n) (qy1 (l.length:Int) (i:Int) z l)=some [.int .i64 j]∧decide (0≤j)= !qbo (l.drop i)
  | 0,i,hi,hn=>by omega
  | n+1,i,hi,hn=>by
    rw [qrg]
    by_cases h:i<l.length
    · rw [qiz h 0]
      obtain ⟨j,e1,e2⟩:=qtv k hk fu z l hl n (i+1) (by omega) (by omega)
      simp (disch:=omega) only [wk,bit,nI,qdy,qbo,e1]
      cases inR (l.getD i 0) 0 1000000
      · exact ⟨i,rfl,by rw [dT (by omega)]; rfl⟩
      · exact ⟨j,rfl,by rw [e2]; rfl⟩
    · rw [List.drop_of_length_le (by omega)]
      simp (disch:=omega) only [wk,bit,nI,qbo]
      exact ⟨-1,rfl,rfl⟩
theorem qb6 (k:Nat)(hk:2000000≤k)(z:Bool)(l:List Int)(hl:(l.length:Int)≤1048576):go (k+5) slices_ContainsFunc_int_int [.arr false z (.ints .i64 l),.fn impl_State_hasCells_1 []]=some [.bool (!qbo l)]:=by
  rw [qlo,qlr]
  obtain ⟨j,e1,e2⟩:=qtv k hk [] z l hl (k+3) 0 (by omega) (by omega)
  have e1' :=e1
  simp only [nI] at*
  rw [show ((0:Nat):Int)=0 from rfl] at e1'
  rw [e1']
  simp (disch:=omega) only [wk,bit,nI]
  rw [show decide ((0:Int)≤j)= !qbo l from e2]
theorem qs7 (k:Nat)(hk:2000000≤k)(fu:List (Nat×Nat))(r:Int)(z1 z2 z3 z4:Bool)(l:List Cell)(m t b:List Int)(hm:(m.length:Int)≤1048576)(ht:t.length=m.length)(s:List D)
    (hs:quw m t=true→go (k+5) impl_sum [.arr false z2 (.ints .i64 m)]=some [.int .i64 (isum m)]) (P:Bool): ∀ (n i:Nat),i≤m.length→m.length - i<n→(quw (m.drop i) (t.drop i)=true→quw m t=true)→
    lp (k+5) impl_State_hasCells [] fu 5 (n) (qym (m.length:Int) (i:Int) z1 l z2 m z3 t z4 b r)=some [.bool (quw (m.drop i) (t.drop i)&&decide (isum m≤10000000))]
  | 0,i,hi,hn,hq=>by omega
  | n+1,i,hi,hn,hq=>by
    rw [qq1]
    by_cases h:i<m.length
    · rw [qiz h 0,qiz (l:=t) (by omega:i<t.length) 0] at hq ⊢
      by_cases h1:inR (m.getD i 0) 0 10000000=true
      · have h2:=qpe.1 h1
        by_cases h3:inR (t.getD i 0) 0 (1000*m.getD i 0)=true
        · have e:=qs7 k hk fu r z1 z2 z3 z4 l m t b hm ht s hs P n (i+1) (by omega) (by omega) (fun hh=>hq (by simp only [quw,h1,h3,hh,Bool.and_self]))
          simp (disch:=omega) only [wk,bit,nI,qep,quw,e,h1,h3]
        · have h3:inR (t.getD i 0) 0 (1000*m.getD i 0)=false:=by simpa using h3
          simp (disch:=omega) only [wk,bit,nI,qep,quw,h1,h3]
      · have h1:inR (m.getD i 0) 0 10000000=false:=by simpa using h1
        simp (disch:=omega) only [wk,bit,nI,qep,quw,h1]
    · rw [List.drop_of_length_le (by omega),List.drop_of_length_le (by omega)] at hq ⊢
      have e:=hs (hq rfl)
      simp (disch:=omega) only [wk,bit,nI,quw,e]
theorem qdx (k:Nat)(hk:2000000≤k)(a0:Int)(a1z:Bool)(a1:List (Int×Int×Int))(a2z:Bool)(a2:List Int)(a3z:Bool)(a3:List Int)(a4z:Bool)(a4:List Int)(hl:(a1.length:Int)≤1048576)(hb:(a4.length:Int)≤1048576):go (k+6) impl_State_hasCells [(.agg [(.int .i64 (a0)),(.arr false (a1z) (.r3 (a1))),(.arr false (a2z) (.ints .i64 (a2))),(.arr false (a3z) (.ints .i64 (a3))),(.arr false (a4z) (.ints .i64 (a4)))])]=some [.bool (decide (a2.length=a1.length)&&(decide (a3.length=a1.length)&&(decide ((a4.length:Int)=a0)&&(quw a2 a3&&(qbo a4&&decide (isum a2≤10000000))))))]:=by
  rw [qkf]
  by_cases h1:a2.length=a1.length
  case neg=>simp (disch:=omega) only [wk,bit,nI]
  by_cases h2:a3.length=a1.length
  case neg=>simp (disch:=omega) only [wk,bit,nI]
  by_cases h3:(a4.length:Int)=a0
  case neg=>simp (disch:=omega) only [wk,bit,nI]
  simp (disch:=omega) only [wk,bit,nI,qb6]
  cases h5:qbo a4
  · cases quw a2 a3<;>rfl
  have e:=qs7 k hk [] a0 a1z a2z a3z a4z a1 a2 a3 a4 (by omega) (by omega) [] (fun hm=>by
    have hx:=(quy a2 a3 (by omega) hm).1
    exact qel _ (by omega) _ _ (by omega) (fun x hh=>by have:=hx x hh; omega)) true (k+5) 0 (by omega) (by omega) (fun h=>h)
  simp only [List.drop_zero] at e
  simp only [Bool.not_true,qic,Bool.true_and]
  exact e
theorem qc8 (k:Nat)(hk:2000000≤k)(a0:Int)(a1z:Bool)(a1:List (Int×Int×Int))(a2z:Bool)(a2:List Int)(a3z:Bool)(a3:List Int)(a4z:Bool)(a4:List Int)(hl:(a1.length:Int)≤1048576)(hb:(a4.length:Int)≤1048576):go (k+8) impl_StateOk [(.agg [(.int .i64 (a0)),(.arr false (a1z) (.r3 (a1))),(.arr false (a2z) (.ints .i64 (a2))),(.arr false (a3z) (.ints .i64 (a3))),(.arr false (a4z) (.ints .i64 (a4)))])]=some [.bool (stOk a0 a1 a2 a3 a4)]:=by
  rw [qj8]
  simp (disch:=omega) only [wk,bit,nI,qco,qdx]
  unfold stOk
  cases qbm a0 a1<;>rfl
end Go.Proofs.YtjfjniebmdafeaaGreatDoor
end
section
namespace Go.Proofs.YtjfjniebmdafeaaGreatDoor
open Go.Ev
theorem qng (k:Nat)(a0:Int)(a1z:Bool)(a1:L3)(a2z:Bool)(a2:LI)(a3z:Bool)(a3:LI)(a4z:Bool)(a4:LI)(b:Int):go (k+1) spec_l09Surface [sV false a0 a1z a1 a2z a2 a3z a3 a4z a4,.int .i64 b]=
 cond (decide (0≤b)&&decide (b<nI (List.length a1)))
 (cond (decide (0≤Prod.fst (List.getD a1 (Int.toNat b) zz3))&&decide (Prod.fst (List.getD a1 (Int.toNat b) zz3)<nI (List.length a4)))
 (cond (decide (0≤b)&&decide (b<nI (List.length a2)))
 (cond (decide (0≤IntKind.wrap IntKind.u64 (Prod.fst (Prod.snd (List.getD a1 (Int.toNat b) zz3)))))
 (some [.int .i64 (IntKind.wrap .i64 (List.getD a4 (Int.toNat (Prod.fst (List.getD a1 (Int.toNat b) zz3))) 0+IntKind.wrap .i64 (List.getD a2 (Int.toNat b) 0*2 ^ shiftN .i64 (IntKind.wrap IntKind.u64 (Prod.fst (Prod.snd (List.getD a1 (Int.toNat b) zz3)))))))])
 none)
 none)
 none)
 none:=by kernel_rfl
theorem qks (k:Nat)(a0:Int)(a1z:Bool)(a1:L3)(a2z:Bool)(a2:LI)(a3z:Bool)(a3:LI)(a4z:Bool)(a4:LI)(b:Int):go (k+1) impl_State_surface [sV false a0 a1z a1 a2z a2 a3z a3 a4z a4,.int .i64 b]=
 cond (decide (0≤b)&&decide (b<nI (List.length a1)))
 (cond (decide (0≤Prod.fst (List.getD a1 (Int.toNat b) zz3))&&decide (Prod.fst (List.getD a1 (Int.toNat b) zz3)<nI (List.length a4)))
 (cond (decide (0≤b)&&decide (b<nI (List.length a2)))
 (cond (decide (0≤Prod.fst (Prod.snd (List.getD a1 (Int.toNat b) zz3))))
 (some [.int .i64 (IntKind.wrap .i64 (List.getD a4 (Int.toNat (Prod.fst (List.getD a1 (Int.toNat b) zz3))) 0+IntKind.wrap .i64 (List.getD a2 (Int.toNat b) 0*2 ^ shiftN .i64 (Prod.fst (Prod.snd (List.getD a1 (Int.toNat b) zz3))))))])
 none)
 none)
 none)
 none:=by kernel_rfl
theorem qne (k:Nat)(a b:Int):go (k+1) spec_l09Gap [.int .i64 a,.int .i64 b]=
 cond (decide (b<a))
 (some [.int .i64 (IntKind.wrap .i64 (a - b))])
 (some [.int .i64 (IntKind.wrap .i64 (b - a))]):=by kernel_rfl

end Go.Proofs.YtjfjniebmdafeaaGreatDoor
end
section
namespace Go.Proofs.YtjfjniebmdafeaaGreatDoor
open Go.Ev
theorem q2y {l:Int}(h:inR l 0 4=true):1≤q2x l∧q2x l≤16:=by
  rcases lev h with rfl | rfl | rfl | rfl | rfl<;>decide
theorem q2v {x:Cell}(h:idOk x.1 x.2.1 x.2.2=true):q00 x.1 x.2.1 x.2.2=x.1*16+x.2.2*q2x x.2.1∧0≤x.2.2*q2x x.2.1∧1≤q2x x.2.1:=by
  have:=qpb h
  exact ⟨by simp [q00,h],(iw h).1,(q2y this.2.2.1).1⟩
theorem qva: ∀ (l:List Cell)(r p:Int),qu6 r p l=true→1≤r∧r≤8∧p+l.length≤16*r∧(∀ i,i<l.length→0≤(l.getD i zz3).1∧(l.getD i zz3).1<r∧idOk (l.getD i zz3).1 (l.getD i zz3).2.1 (l.getD i zz3).2.2=true)∧(l=[]→p=16*r)
  | [],r,p,h=>by
    simp only [qu6,Bool.and_eq_true,qpe,decide_eq_true_eq] at h
    simp; omega
  | x::l,r,p,h=>by
    simp only [qu6,Bool.and_eq_true,decide_eq_true_eq] at h
    obtain ⟨h1,h2,h3⟩:=h
    have w:=q2v h1
    have ih:=qva l r _ h3
    have ds:=qpb h1
    refine ⟨ih.1,ih.2.1,by simp only [List.length_cons]; omega,fun i hi=> ?_,by simp⟩
    cases i with
    | zero=>simp only [List.getD_cons_zero]; refine ⟨by omega,by omega,h1⟩
    | succ i=>simp only [List.getD_cons_succ]; exact ih.2.2.2.1 i (by simpa using hi)
theorem qvb {l:List Cell}{r:Int}(h:qu6 r 0 l=true):1≤l.length∧l.length≤128:=by
  have f:=qva l r 0 h
  cases l with
  | nil=>have:=f.2.2.2.2 rfl; omega
  | cons x l=>simp only [List.length_cons] at f ⊢; omega
structure StF (r:Int) (l:List Cell) (m t b:List Int):Prop where
  mesh:qu6 r 0 l=true
  bal:unb l<0
  ml:m.length=l.length
  tl:t.length=l.length
  bl:(b.length:Int)=r
  mt:quw m t=true
  bed:qbo b=true
  sum:isum m≤10000000
theorem stF {r:Int}{l:List Cell}{m t b:List Int} :stOk r l m t b=true↔StF r l m t b:=by
  unfold stOk qbm
  simp only [Bool.and_eq_true,decide_eq_true_eq]
  exact ⟨fun h=>⟨h.1.1,h.1.2,h.2.1,h.2.2.1,h.2.2.2.1,h.2.2.2.2.1,h.2.2.2.2.2.1,h.2.2.2.2.2.2⟩,fun h=>⟨⟨h.mesh,h.bal⟩,h.ml,h.tl,h.bl,h.mt,h.bed,h.sum⟩⟩
theorem shp {l:Int}(h:inR l 0 4=true):(2:Int) ^ shiftN .i64 l=pow2 l:=by
  rcases lev h with rfl | rfl | rfl | rfl | rfl<;>simp [sh0,sh1,sh2,sh3,sh4,p20,p21,p22,p23,p24]
theorem mulp {m l:Int}(h:inR l 0 4=true)(h0:0≤m):m≤m*pow2 l∧m*pow2 l≤16*m:=by
  rcases lev h with rfl | rfl | rfl | rfl | rfl<;>simp only [p20,p21,p22,p23,p24]<;>omega
section
variable {r:Int} {l:List Cell} {m t b:List Int}
theorem StF.len (F:StF r l m t b):1≤l.length∧l.length≤128:=qvb F.mesh
theorem StF.rr (F:StF r l m t b):1≤r∧r≤8:=⟨(qva l r 0 F.mesh).1,(qva l r 0 F.mesh).2.1⟩
theorem StF.lev (F:StF r l m t b)(i:Nat):inR (l.getD i zz3).2.1 0 4=true:=by
  have:=qvc l r 0 F.mesh i
  simp only [qsj] at this
  rw [qpe]; exact this
theorem StF.root (F:StF r l m t b){i:Nat}(h:i<l.length):0≤(l.getD i zz3).1∧(l.getD i zz3).1<r:=⟨((qva l r 0 F.mesh).2.2.2.1 i h).1,((qva l r 0 F.mesh).2.2.2.1 i h).2.1⟩
theorem StF.at (F:StF r l m t b)(i:Nat):0≤m.getD i 0∧m.getD i 0≤10000000∧0≤t.getD i 0∧t.getD i 0≤1000*m.getD i 0:=qux m t (by rw [F.ml,F.tl]) F.mt i
theorem StF.bedAt (F:StF r l m t b)(i:Nat):0≤b.getD i 0∧b.getD i 0≤1000000:=by
  by_cases h:i<b.length
  · exact qbp b F.bed _ (qov h 0)
  · rw [qou (by omega)]; omega
theorem StF.mmem (F:StF r l m t b): ∀ x∈m,0≤x∧x≤1000000000000:=fun x hx=>by have:=(quy m t (by rw [F.ml,F.tl]) F.mt).1 x hx; omega
theorem StF.tmem (F:StF r l m t b): ∀ x∈t,0≤x∧x≤1000000000000:=fun x hx=>by have:=(quy m t (by rw [F.ml,F.tl]) F.mt).2 x hx; omega
theorem StF.msum (F:StF r l m t b):0≤isum m∧isum m≤10000000:=⟨(qps m F.mmem).1,F.sum⟩
theorem StF.tsum (F:StF r l m t b):0≤isum t∧isum t≤128000000000000:=by
  have h:=qps t F.tmem
  have:=F.len; have:=F.tl
  refine ⟨h.1,?_⟩
  have:(t.length:Int)≤128:=by omega
  calc isum t≤1000000000000*(t.length:Int):=h.2
    _≤1000000000000*128:=Int.mul_le_mul_of_nonneg_left this (by omega)
end
def surf (l:List Cell)(m b:List Int)(i:Nat):Int:=b.getD (l.getD i zz3).1.toNat 0+m.getD i 0*pow2 (l.getD i zz3).2.1
theorem q1l {r:Int}{l:List Cell}{m t b:List Int}(F:StF r l m t b)(i:Nat):0≤surf l m b i∧surf l m b i≤161000000:=by
  have h1:=F.bedAt (l.getD i zz3).1.toNat
  have h2:=F.at i
  have h3:=mulp (F.lev i) h2.1
  unfold surf; omega
theorem qgs (k:Nat)(hk:2000000≤k)(r:Int)(z1 z2 z3 z4:Bool)(l:List Cell)(m t b:List Int)(F:StF r l m t b)(i:Nat)(hi:i<l.length):
    go (k+1) spec_l09Surface [.agg [.int .i64 r,.arr false z1 (.r3 l),.arr false z2 (.ints .i64 m),.arr false z3 (.ints .i64 t),.arr false z4 (.ints .i64 b)],.int .i64 (i:Int)]=some [.int .i64 (surf l m b i)]:=by
  rw [qng]
  have h1:=F.root hi; have h2:=F.ml; have h3:=F.bl; have h4:=F.lev i; have h5:=lev0 h4; have h6:=F.at i; have h7:=q1l F i; have h8:=mulp h4 h6.1; have h9:=F.len
  unfold surf at h7 ⊢
  simp (disch:=omega) only [wk,bit,nI,shp h4]
theorem qem (k:Nat)(hk:2000000≤k)(r:Int)(z1 z2 z3 z4:Bool)(l:List Cell)(m t b:List Int)(F:StF r l m t b)(i:Nat)(hi:i<l.length):
    go (k+1) impl_State_surface [.agg [.int .i64 r,.arr false z1 (.r3 l),.arr false z2 (.ints .i64 m),.arr false z3 (.ints .i64 t),.arr false z4 (.ints .i64 b)],.int .i64 (i:Int)]=some [.int .i64 (surf l m b i)]:=by
  rw [qks]
  have h1:=F.root hi; have h2:=F.ml; have h3:=F.bl; have h4:=F.lev i; have h5:=lev0 h4; have h6:=F.at i; have h7:=q1l F i; have h8:=mulp h4 h6.1; have h9:=F.len
  unfold surf at h7 ⊢
  simp (disch:=omega) only [wk,bit,nI,shp h4]
def gap (a b:Int):Int:=if b<a then a - b else b - a
theorem qgq (k:Nat)(hk:2000000≤k)(a:Int)(b:Int)(ha: -1000000000000≤a∧a≤1000000000000)(hb: -1000000000000≤b∧b≤1000000000000):go (k+1) spec_l09Gap [(.int .i64 (a)),(.int .i64 (b))]=some [.int .i64 (gap a b)]:=by
  rw [qne]
  unfold gap
  by_cases h:b<a
  · simp (disch:=omega) only [wk,bit,nI]; rw [if_pos h]
  · simp (disch:=omega) only [wk,bit,nI]; rw [if_neg h]
end Go.Proofs.YtjfjniebmdafeaaGreatDoor
end
section
namespace Go.Proofs.YtjfjniebmdafeaaGreatDoor
open Go.RowKit Go.Lib Go.Ev Go.Shelf Go.Sort
theorem qvs: ∀ f g,An1.ext f=some g→ ∀ ds rs,g ds=some rs→Contract Tryz.prog f (An1.mode f) ds rs:=fun f g h=>by cases h
theorem qqc (r:Int)(z:Bool)(l:List Cell)(hl:(l.length:Int)≤1048576):Contract Tryz.prog 74 [] [.agg [.int .i64 r,.arr false z (.r3 l)]] [.bool (qu6 r 0 l)]:=by
  have e:ev Tryz.prog An1 (2000000+6) 74 [.agg [.int .i64 r,.arr false z (.r3 l)]]=some [.bool (qu6 r 0 l)]:=qcu 2000000 (by omega) r z l hl
  have h:=ev_contract good qvs e
  exact h
theorem qb0 {P:Program}{F:Nat}{ds:List D}{b:Bool}{w:World}{args:Array Value}{FF:Feet}(h:Contract P F [] ds [.bool b])(hk:Kept w)(hr:RepDs w ds args.toList FF)(hs:Sep FF)(hn: ∀ x off,¬ ownOf FF x off):Calls P F args w fun e w' =>e=.returned (.bool b)∧RowKit.Below w.heap.size w w' :=by
  obtain ⟨fn,_,_,hc⟩:=h
  refine (hc w args FF hk (fun x _ off=>hn x.1 off) hr hs).mono ?_
  rintro e w' ⟨outs,F',rfl,hl,hrep,_,hfr,_⟩
  have hm: ∀ (vs:List Value),muts ([]:List Bool) vs=[]:=by
    intro vs
    induction vs with
    | nil=>rfl
    | cons v vs ih=>simp [muts,ih]
  rw [hm,List.append_nil] at hrep
  simp only [RepDs,RepD] at hrep
  obtain ⟨u,us,F1,F2,rfl,_,⟨rfl,_⟩,rfl,_⟩:=hrep
  exact ⟨rfl,Fr.below (hfr.mono fun b off _ h=>(hn b off h).elim)⟩
theorem Hid.mk' {p:Prop}(h:p):Hid p:=h
set_option maxHeartbeats 1000000 in
theorem qol (r:Int)(a:Option Addr)(n c:Nat)(w:World)(hM: ∀ W,RowKit.Below w.heap.size w W→Calls Tryz.prog 74 #[.agg #[.int .i64 r,.slice a n c]] W fun e w' =>e=.returned (.bool false)∧RowKit.Below W.heap.size W w'):
    Calls Tryz.prog 31 #[.agg #[.int .i64 r,.slice a n c]] w fun e w' =>e=.returned (.string ⟨#[]⟩)∧RowKit.Below w.heap.size w w' :=by
  have b0:RowKit.Below w.heap.size w (w.alloc (.cells #[.int .i64 r,.slice a n c] 26)):=(RowKit.Below.refl _ w).alloc (Nat.le_refl _) _
  have hM' :=hM _ b0
  clear hM
  go_enter Tryz.func31,Tryz.ntmps31
  go_wp2_with (go_at_call 74; refine hM'.mono ?_)
  rintro e W1 ⟨rfl,b1⟩
  go_wp2
  go_ret
  exact ⟨rfl,b0.trans (b1.mono b0.size)⟩
theorem qsh {l:List Cell}{b:Addr}{w W wr:World}{N k:Nat}
    (hc: ∀ i,i<l.length→w.cell? (b.add (i*3))=some (.int .i64 (l.getD i zz3).1)∧w.cell? (b.add (i*3+1))=some (.int .i64 (l.getD i zz3).2.1)∧w.cell? (b.add (i*3+2))=some (.int .i64 (l.getD i zz3).2.2))
    (hs:w.heap.size<N) (h1:RowKit.Below w.heap.size w W) (h2:RowKit.Below N W wr) (hlt:k<l.length):
    ∃ x0 x1 x2 Ab Ao,l.getD k zz3=(x0,x1,x2)∧b.add (k*3)=⟨Ab,Ao,none⟩∧Ab<w.heap.size∧wr.cell? ⟨Ab,Ao,none⟩=some (.int .i64 x0)∧wr.cell? ⟨Ab,Ao+1,none⟩=some (.int .i64 x1)∧wr.cell? ⟨Ab,Ao+2,none⟩=some (.int .i64 x2):=by
  have hcc:=hc k hlt
  have hbl: ∀ q,(b.add q).block<w.heap.size:=fun q=>by have:=World.block_lt_of_cell? w (b.add (k*3)) hcc.1; rw [Go.Ev.addr_block] at this ⊢; exact this
  have kp: ∀ q,wr.cell? (b.add q)=w.cell? (b.add q):=fun q=>(h2.cell (p:=b.add q) (Nat.lt_trans (hbl q) hs)).trans (h1.cell (p:=b.add q) (hbl q))
  have sp:=World.cell?_spot hcc.1
  have e1:b.add (k*3+1)=(b.add (k*3)).add 1:=(Addr.add_add _ _ _).symm
  have e2:b.add (k*3+2)=(b.add (k*3)).add 2:=(Addr.add_add _ _ _).symm
  have d0:=(kp (k*3)).trans hcc.1
  have d1:=(kp (k*3+1)).trans hcc.2.1
  have d2:=(kp (k*3+2)).trans hcc.2.2
  have hb0:=hbl (k*3)
  rw [e1] at d1
  rw [e2] at d2
  generalize b.add (k*3)=A at*
  obtain ⟨Ab,Ao,As⟩:=A
  simp only at sp
  subst sp
  rw [Addr.add_lit] at d1 d2
  exact ⟨_,_,_,Ab,Ao,rfl,rfl,hb0,d0,d1,d2⟩
theorem qbc {T e:TypeId}{B b:Nat}{p:Value}{bs:List Value}{w w' :World}(h:BuilderAtF T e B b p bs w)(hb:RowKit.Below w.heap.size w w'):BuilderAtF T e B b p bs w' :=by
  have hlt:=h.lt
  obtain ⟨hB,v,hv,hown,hne⟩:=h
  exact ⟨hB,v,(hb.block b hlt).trans hv,hown.kept (row:=none) ⟨hb.os,hb.tape,hb.output,hb.size,fun k hk _=>hb.block k hk⟩ (Classical.em _),hne⟩
theorem qpn {T e:TypeId}{B b:Nat}{bs:List Value}{w w' :World}(h:IsBuilderF T e B b bs w)(hb:RowKit.Below w.heap.size w w'):IsBuilderF T e B b bs w' :=h.imp (fun h=>qbc h hb) (fun h=>qbc h hb)
theorem ws_k (B b:Nat)(bs:List Value)(s:ByteArray)(w:World)(h:IsBuilderF 117 5 B b bs w)(hlen:bs.length+s.size≤140737488355328)(hBw:B≤w.heap.size):
    Calls Tryz.prog 72 #[.pointer (some ⟨b,0,none⟩),.string s] w fun e w' =>e=.returned (.tuple #[.int .i64 s.size,.nilIface])∧(BuilderAtF 117 5 B b (.pointer (some ⟨b,0,none⟩)) (bs++strCells s) w' ∧RowKit.Below B w w' ∧OthersKept 5 (some b) w w'):=
  Any.Builder_WriteString_k Tryz.lays166 Tryz.Builder_Extra_166 B b bs s w h hlen hBw
theorem ss_f (B b:Nat)(l:List UInt8)(w:World)(h:IsBuilderF 117 5 B b (Lib.byteCells l) w)(hBw:B≤w.heap.size):
    Calls Tryz.prog 73 #[.pointer (some ⟨b,0,none⟩)] w fun e w' =>e=.returned (.string ⟨l.toArray⟩)∧(IsBuilderF 117 5 B b (Lib.byteCells l) w' ∧RowKit.Below B w w'):=
  Any.Builder_String_any_f Tryz.lays169 Tryz.Builder_Extra_169 B b l w h hBw
theorem qv8 {wr W2:World}{b q:Nat}{x0 x1 x2:Int}(o2:OthersKept 5 (some b) ((wr.alloc (.cells #[.int .i64 x0,.int .i64 x1,.int .i64 x2] 81)).drewN q) W2)(hne:b<wr.heap.size):W2.cell? ⟨wr.heap.size,1,none⟩=some (.int .i64 x1):=by
  have h:=o2 wr.heap.size (.cells #[.int .i64 x0,.int .i64 x1,.int .i64 x2] 81 (0,0)) (heap_alloc_new _ _) (by intro h; have:=Option.some.inj h; omega) (fun c fz h=>by cases h)
  simp [World.cell?,h]
theorem q06 {wr W:World}{o:Obj}{q B:Nat}(hB:B≤wr.heap.size)(h:RowKit.Below B ((wr.alloc o).drewN q) W):RowKit.Below B wr W:=
  ((RowKit.Below.refl _ wr).alloc hB o).trans ((below_drewN _ _ _).trans h)
theorem q05 {wr W:World}{o:Obj}{q:Nat}(h:RowKit.Below ((wr.alloc o).drewN q).heap.size ((wr.alloc o).drewN q) W):RowKit.Below wr.heap.size wr W:=by
  have s1:((wr.alloc o).drewN q).heap.size=wr.heap.size+1:=by show (wr.alloc o).heap.size=_; simp
  exact ((RowKit.Below.refl _ wr).alloc (Nat.le_refl _) o).trans ((below_drewN _ _ _).trans (h.mono (by omega)))
theorem qoj (l:List Cell)(hv: ∀ i,i<l.length→inI64 (l.getD i zz3).2.1=true): ∀ n,n≤l.length→(fmTo l n).length≤21*n
  | 0,h=>by simp [fmTo]
  | n+1,h=>by
    have a:=qoj l hv n (by omega)
    have b:(Lib.itoa (l.getD n (0,0,0)).2.1).length≤20:=qp3 _ (hv n (by omega))
    have c:(fmB l n).length≤21:=by
      unfold fmB
      rw [List.length_append]
      split<;>simp only [List.length_cons,List.length_nil]<;>omega
    rw [fmTo,List.length_append]; omega
theorem q2u (s:List UInt8)(h:s.length≤21){L:List Value}(hL:L.length≤5000):L.length+(⟨s.toArray⟩:ByteArray).size≤140737488355328:=by
  have:(⟨s.toArray⟩:ByteArray).size=s.length:=List.size_toArray ..
  omega
set_option maxHeartbeats 2000000 in
theorem qom (r:Int)(l:List Cell)(b:Addr)(c:Nat)(w:World)(hk:Kept w)(hl:l.length≤128)(hv: ∀ i,i<l.length→inI64 (l.getD i zz3).2.1=true)
    (hc: ∀ i,i<l.length→w.cell? (b.add (i*3))=some (.int .i64 (l.getD i zz3).1)∧w.cell? (b.add (i*3+1))=some (.int .i64 (l.getD i zz3).2.1)∧w.cell? (b.add (i*3+2))=some (.int .i64 (l.getD i zz3).2.2))
    (hM: ∀ W,RowKit.Below w.heap.size w W→Calls Tryz.prog 74 #[.agg #[.int .i64 r,.slice (some b) l.length c]] W fun e w' =>e=.returned (.bool true)∧RowKit.Below W.heap.size W w'):
    Calls Tryz.prog 31 #[.agg #[.int .i64 r,.slice (some b) l.length c]] w fun e w' =>e=.returned (.string ⟨(fmTo l l.length).toArray⟩)∧RowKit.Below w.heap.size w w' :=by
  have b0:RowKit.Below w.heap.size w (w.alloc (.cells #[.int .i64 r,.slice (some b) l.length c] 26)):=(RowKit.Below.refl _ w).alloc (Nat.le_refl _) _
  have hM' :=hM _ b0
  clear hM
  go_enter Tryz.func31,Tryz.ntmps31
  go_wp2_with (go_at_call 74; refine hM'.mono ?_)
  rintro e W1 ⟨rfl,b1⟩
  clear hM'
  have hs1:w.heap.size<W1.heap.size:=by have:=b1.size; simp at this; omega
  have hb1:W1.heap[w.heap.size]? =some (.cells #[.int .i64 r,.slice (some b) l.length c] 26 (0,0)):=(b1.block _ (by simp)).trans (heap_alloc_new _ _)
  have hb2:(W1.alloc (.cells #[.pointer none,.slice none 0 0] 117)).heap[w.heap.size]? =some (.cells #[.int .i64 r,.slice (some b) l.length c] 26 (0,0)):=(RowKit.Below.heap_alloc _ _ _ hs1).trans hb1
  have e11:(W1.alloc (.cells #[.pointer none,.slice none 0 0] 117)).cell? ⟨w.heap.size,1,none⟩=some (.slice (some b) l.length c):=by simp [World.cell?,hb2]
  have h0:IsBuilderF 117 5 W1.heap.size W1.heap.size (Lib.byteCells (fmTo l 0)) (W1.alloc (.cells #[.pointer none,.slice none 0 0] 117)):=IsBuilderF.of (Lib.fresh_isBuilder 117 5 W1)
  have b2:RowKit.Below w.heap.size w (W1.alloc (.cells #[.pointer none,.slice none 0 0] 117)):=(b0.trans (b1.mono b0.size)).alloc (by omega) _
  have H:=Hid.mk' (And.intro h0 (And.intro b2 (And.intro hb2 hs1)))
  clear h0 b2 hb2 hb1 b0 b1
  go_wp2
  go_loopw [13] (fun i wr=> ∃ k:Nat,k≤l.length∧i=.int .i64 k∧IsBuilderF 117 5 W1.heap.size W1.heap.size (Lib.byteCells (fmTo l k)) wr∧RowKit.Below W1.heap.size (W1.alloc (.cells #[.pointer none,.slice none 0 0] 117)) wr) (fun i _=>l.length - (RowKit.intOf i).toNat)
  case atStart=>exact ⟨0,Nat.zero_le _,rfl,H.out.1,RowKit.Below.refl _ _⟩
  case round=>
    obtain ⟨k,hkl,rfl,hB,hnx⟩:=hrel
    have e12:wr.cell? ⟨w.heap.size,1,none⟩=some (.slice (some b) l.length c):=(hnx.cell (by exact hs1)).trans e11
    clear e11
    by_cases hlt:k<l.length
    · obtain ⟨x0,x1,x2,Ab,Ao,hx,hA,hbA,c0,c1,c2⟩:=qsh hc hs1 H.out.2.1 hnx hlt
      have hx1:inI64 x1=true:=by have:=hv k hlt; rw [hx] at this; exact this
      have hR:(Lib.byteCells (fmTo l k)).length≤4000:=by
        have:=qoj l hv k hkl
        rw [Lib.byteCells_length]; omega
      have hI:=qp3 x1 hx1
      have bX: ∀ W,RowKit.Below wr.heap.size wr W→RowKit.Below w.heap.size w W:=fun W h=>H.out.2.1.trans ((hnx.trans (h.mono (Nat.le_trans (by simp) hnx.size))).mono (by omega))
      have bY: ∀ W,RowKit.Below wr.heap.size wr W→RowKit.Below W1.heap.size (W1.alloc (.cells #[.pointer none,.slice none 0 0] 117)) W:=fun W h=>hnx.trans (h.mono (Nat.le_trans (by simp) hnx.size))
      by_cases hk0:k=0
      · have hd:decide (0<(k:Int))=false:=by simp; omega
        have hd2:decide (0<k)=false:=by simp; omega
        have hd3:¬ 0<k:=by omega
        have hS:Lib.byteCells (fmTo l (k+1))=Lib.byteCells (fmTo l k)++Lib.byteCells (Lib.itoa x1):=by rw [fmTo,fmB,if_neg (by omega),hx,List.nil_append,Lib.byteCells_append]
        have K0:=Hid.mk' (And.intro hR (And.intro hI (And.intro hS (And.intro hB (And.intro bX bY)))))
        clear hk0 hx hS hv hc hR hI hB bX bY hbA
        go_wp2_with (fail)
        go_quiet (fail)
        go_wp2_with (go_at_call 40; refine (qop x1 hx1 _ (qqi hk (K0.out.2.2.2.2.1 _ (q05 (RowKit.Below.refl _ _))))).mono ?_)
        rintro e W3 ⟨rfl,b3⟩
        have b3' :=q05 b3
        clear b3
        go_wp2_with (go_at_call 72; refine (ws_k W1.heap.size W1.heap.size (Lib.byteCells (fmTo l k)) _ _ (qpn K0.out.2.2.2.1 b3') (q2u _ (by have:=K0.out.2.1; omega) (by have:=K0.out.1; omega)) (Nat.le_trans (Nat.le_trans (by simp) hnx.size) b3'.size)).mono ?_)
        rintro e W4 ⟨rfl,h4,b4,_⟩
        go_wp2
        go_roundw
        case rel=>exact ⟨k+1,by omega,by go_num,Or.inr (by rw [K0.out.2.2.1]; exact h4),(K0.out.2.2.2.2.2 _ b3').trans b4⟩
        case measure=>simp [RowKit.intOf]; omega
      · obtain ⟨y0,y1,y2,Pb,Po,hy,hP,hbP,p0,p1,p2⟩:=qsh hc hs1 H.out.2.1 hnx (show k - 1<l.length by omega)
        have hd:decide (0<(k:Int))=true:=by simp; omega
        have hd2:decide (0<k)=true:=by simp; omega
        have hd3:0<k:=by omega
        have hT:((k:Int) - 1).toNat=k - 1:=by omega
        have hT2:(k:Int) - 1=((k - 1:Nat):Int):=by omega
        have hlt2:k - 1<l.length:=by omega
        have bA:RowKit.Below wr.heap.size wr (wr.alloc (.cells #[.int .i64 x0,.int .i64 x1,.int .i64 x2] 81)):=(RowKit.Below.refl _ wr).alloc (Nat.le_refl _) _
        have hwr:W1.heap.size<wr.heap.size:=Nat.lt_of_lt_of_le (by simp) hnx.size
        have e13:(wr.alloc (.cells #[.int .i64 x0,.int .i64 x1,.int .i64 x2] 81)).cell? ⟨w.heap.size,1,none⟩=some (.slice (some b) l.length c):=(bA.cell (by exact Nat.lt_trans hs1 hwr)).trans e12
        have p0' :(wr.alloc (.cells #[.int .i64 x0,.int .i64 x1,.int .i64 x2] 81)).cell? ⟨Pb,Po,none⟩=some (.int .i64 y0):=(bA.cell (by exact Nat.lt_trans hbP (Nat.lt_trans hs1 hwr))).trans p0
        by_cases hq:x0=y0
        · have hS:Lib.byteCells (fmTo l (k+1))=Lib.byteCells (fmTo l k)++Lib.byteCells (Lib.itoa x1):=by rw [fmTo,fmB,hx,hy,if_neg (by simp [hq]),List.nil_append,Lib.byteCells_append]
          have K0:=Hid.mk' (And.intro hR (And.intro hI (And.intro hS (And.intro hB (And.intro bX bY)))))
          clear hk0 hx hy hS hv hc hR hI hB bX bY hbA hbP bA hwr p0 p1 p2
          subst hq
          go_wp2_with (fail)
          go_quiet (fail)
          go_wp2_with (go_at_call 40; refine (qop x1 hx1 _ (qqi hk (K0.out.2.2.2.2.1 _ (q05 (RowKit.Below.refl _ _))))).mono ?_)
          rintro e W3 ⟨rfl,b3⟩
          have b3' :=q05 b3
          clear b3
          go_wp2_with (go_at_call 72; refine (ws_k W1.heap.size W1.heap.size (Lib.byteCells (fmTo l k)) _ _ (qpn K0.out.2.2.2.1 b3') (q2u _ (by have:=K0.out.2.1; omega) (by have:=K0.out.1; omega)) (Nat.le_trans (Nat.le_trans (by simp) hnx.size) b3'.size)).mono ?_)
          rintro e W4 ⟨rfl,h4,b4,_⟩
          go_wp2
          go_roundw
          case rel=>exact ⟨k+1,by omega,by go_num,Or.inr (by rw [K0.out.2.2.1]; exact h4),(K0.out.2.2.2.2.2 _ b3').trans b4⟩
          case measure=>simp [RowKit.intOf]; omega
        · have hS:Lib.byteCells (fmTo l (k+1))=Lib.byteCells (fmTo l k)++Lib.byteCells [124]++Lib.byteCells (Lib.itoa x1):=by rw [fmTo,fmB,hx,hy,if_pos ⟨hd3,hq⟩,Lib.byteCells_append,Lib.byteCells_append,List.append_assoc]
          have K0:=Hid.mk' (And.intro hR (And.intro hI (And.intro hS (And.intro hB (And.intro bX bY)))))
          have HW:=Hid.mk' hwr
          clear hk0 hx hy hS hv hc hR hI hB bX bY hbA hbP bA hwr p0 p1 p2
          go_wp2_with (fail)
          go_quiet (fail)
          go_wp2_with (go_at_call 72; refine (ws_k W1.heap.size W1.heap.size (Lib.byteCells (fmTo l k)) _ _ (qpn K0.out.2.2.2.1 (q05 (RowKit.Below.refl _ _))) (q2u [124] (by simp) (by have:=K0.out.1; omega)) (Nat.le_trans (Nat.le_of_lt HW.out) (q05 (RowKit.Below.refl _ _)).size)).mono ?_)
          rintro e W2 ⟨rfl,h2,b2,o2⟩
          have x2c:=qv8 o2 HW.out
          have b2' :=q06 (Nat.le_of_lt HW.out) b2
          have hwW:W1.heap.size≤W2.heap.size:=Nat.le_trans (Nat.le_of_lt HW.out) b2'.size
          clear o2 b2
          have cF:=qop x1 hx1 W2 (qqi hk (H.out.2.1.trans ((hnx.trans b2').mono (Nat.le_of_lt hs1))))
          go_wp2_with (go_at_call 40; refine cF.mono ?_)
          rintro e W3 ⟨rfl,b3⟩
          clear x2c cF
          go_wp2_with (go_at_call 72; refine (ws_k W1.heap.size W1.heap.size (Lib.byteCells (fmTo l k)++strCells ⟨#[124]⟩) _ _ (qpn (Or.inr h2) b3) (q2u _ (by have:=K0.out.2.1; omega) (by have:=K0.out.1; rw [List.length_append]; have:(strCells ⟨#[124]⟩).length=1:=rfl; omega)) (Nat.le_trans hwW b3.size)).mono ?_)
          rintro e W4 ⟨rfl,h4,b4,_⟩
          go_wp2
          go_roundw
          case rel=>exact ⟨k+1,by omega,by go_num,Or.inr (by rw [K0.out.2.2.1]; exact h4),hnx.trans (b2'.trans ((b3.mono hwW).trans b4))⟩
          case measure=>simp [RowKit.intOf]; omega
    · obtain rfl:k=l.length:=by omega
      go_wp2_with (go_at_call 73; refine (ss_f W1.heap.size W1.heap.size (fmTo l l.length) _ hB (Nat.le_trans (by simp) hnx.size)).mono ?_)
      rintro e W2 ⟨rfl,_,b2⟩
      go_wp2
      go_ret
      exact ⟨rfl,H.out.2.1.trans ((hnx.trans b2).mono (Nat.le_of_lt hs1))⟩
theorem qvd (r:Int): ∀ (l:List Cell)(p:Int),meshGox r p l=qu6 r p l
  | [],p=>rfl
  | x::l,p=>by
    have h:=qvd r l (startOfx x.1 x.2.1 x.2.2+widthx x.2.1)
    unfold meshGox qu6
    rw [h]; rfl
theorem qwx: ∀ (l:List Cell)(i:Nat),i<l.length→(Arr.r3 l).cells[i*3]? =some (.int .i64 (l.getD i zz3).1)∧(Arr.r3 l).cells[i*3+1]? =some (.int .i64 (l.getD i zz3).2.1)∧(Arr.r3 l).cells[i*3+2]? =some (.int .i64 (l.getD i zz3).2.2)
  | [],i,h=>by simp at h
  | x::l,0,h=>⟨rfl,rfl,rfl⟩
  | x::l,i+1,h=>by
    have e:(Arr.r3 (x::l)).cells=.int .i64 x.1:: .int .i64 x.2.1:: .int .i64 x.2.2::(Arr.r3 l).cells:=rfl
    have ih:=qwx l i (by simpa using h)
    rw [e,show (i+1)*3=i*3+1+1+1 by omega,show i*3+1+1+1+1=i*3+1+1+1+1 from rfl]
    simp only [List.getElem?_cons_succ,List.getD_cons_succ]
    exact ih
theorem qvz (s:ByteArray):okTs Tryz.prog [9] [.str s]=true:=by kernel_rfl
theorem qp9 (ds rs:List D)(h:fmeshGo ds=some rs):Contract Tryz.prog 31 [] ds rs:=by
  unfold fmeshGo at h
  split at h
  · rename_i r z l
    cases hn:decide (l.length≤1048576)
    · rw [hn] at h; cases h
    rw [hn] at h
    have h:=Option.some.inj (show some _=some rs from h)
    subst h
    have hl:l.length≤1048576:=of_decide_eq_true hn
    refine str_contract (fn:=Tryz.f31) (S:=9) Tryz.func31 (by kernel_rfl) (by kernel_rfl) (qvz _) (fun w args FF hk hd=> ?_)
    simp only [RepDs,RepD] at hd
    obtain ⟨u0,us0,F0,F0',e0,rfl,⟨vs,rfl,hvs⟩,rfl,rfl⟩:=hd
    obtain ⟨u1,us1,F1,F1',e1,rfl,⟨rfl,rfl⟩,u2,us2,F2,F2',rfl,rfl,⟨p,rfl,rp,rfl⟩,rfl,rfl⟩:=hvs
    have hv:vs= #[.int .i64 r,.slice p.base p.len p.cap]:=by rw [← Array.toArray_toList (xs:=vs),e1]
    subst hv
    have ha:args= #[.agg #[.int .i64 r,.slice p.base p.len p.cap]]:=by rw [← Array.toArray_toList (xs:=args),e0]
    subst ha
    obtain ⟨r1,r2,r3,r4,r5,r6⟩:=id rp
    have r1' :l.length=p.len:=r1
    have hM: ∀ b,qu6 r 0 l=b→ ∀ W,RowKit.Below w.heap.size w W→Calls Tryz.prog 74 #[.agg #[.int .i64 r,.slice p.base p.len p.cap]] W fun e w' =>e=.returned (.bool b)∧RowKit.Below W.heap.size W w' :=fun b hb W hW=>by
      subst hb
      refine qb0 (FF:=[(false,foot p (.arr false z (.r3 l)))]) (qqc r z l (by omega)) (qqi hk hW) ?_ (by simp [Go.Ev.Sep]) ?_
      · simp only [RepDs,RepD]
        exact ⟨_,[],_,[],rfl,(List.append_nil _).symm,⟨_,rfl,_,_,[],_,rfl,rfl,⟨rfl,rfl⟩,_,[],_,[],rfl,(List.append_nil _).symm,⟨p,rfl,rp.frame (fr_of_below (M:=fun _ _=>False) hW) (fun _ _ _ h=>h),rfl⟩,rfl,rfl⟩,rfl,rfl⟩
      · rintro x off ⟨A,hA,ho,_⟩
        rw [List.mem_singleton] at hA
        subst hA
        cases ho
    cases g:qu6 r 0 l
    · have e:fmeshL r l=[]:=by unfold fmeshL; rw [qvd,g]; rfl
      rw [e]
      exact qol r p.base p.len p.cap w (hM false g)
    · have L:=qvb g
      have e:fmeshL r l=fmTo l l.length:=by unfold fmeshL; rw [qvd,g]; rfl
      have hM1:=hM true g
      rw [e]
      cases hb:p.base with
      | none=>have:=(r4 hb).2; omega
      | some b=>
        have hc:=(r5 b hb).2
        rw [hb,← r1'] at hM1
        rw [← r1']
        refine qom r l b p.cap w hk L.2 (fun i hi=> ?_) (fun i hi=> ?_) hM1
        · have h:=qvc l r 0 g i
          simp only [qsj] at h
          unfold inI64
          rw [decide_eq_true (by omega: -9223372036854775808≤(l.getD i zz3).2.1),decide_eq_true (by omega:(l.getD i zz3).2.1≤9223372036854775807)]; rfl
        · have c:=qwx l i hi
          exact ⟨hc _ _ c.1,hc _ _ c.2.1,hc _ _ c.2.2⟩
  · cases h
end Go.Proofs.YtjfjniebmdafeaaGreatDoor
end
section
namespace Go.Proofs
open Go.Shelf
def Tryz.lays157_ren:Go.Shelf.Ren:=⟨fun | 157=>91 | 229=>138 | 199=>139 | 261=>170 | 311=>204 | 312=>205 | n=>n,fun | 9=>9 | 31=>39 | 3=>3 | 5=>5 | 4=>4 | 119=>169 | 0=>0 | 40=>171 | 152=>193 | 21=>21 | 154=>195 | 51=>196 | 141=>198 | 196=>224 | 193=>221 | 198=>227 | 49=>225 | 194=>222 | 201=>230 | 226=>252 | 46=>178 | 227=>253 | n=>n,fun | 0=>0 | 6=>1 | n=>n⟩
theorem Tryz.lays157:Go.Proofs.Lays.n157 Tryz.prog Tryz.lays157_ren:= {
  mixed:=by kernel_rfl
  f157:=Tryz.func91.trans (congrArg some (by kernel_rfl))
  f199:=Tryz.func139.trans (congrArg some (by kernel_rfl))
  f229:=Tryz.func138.trans (congrArg some (by kernel_rfl))
  f261:=Tryz.func170.trans (congrArg some (by kernel_rfl))
  f311:=Tryz.func204.trans (congrArg some (by kernel_rfl))
  f312:=Tryz.func205.trans (congrArg some (by kernel_rfl))
  t0:=Tryz.underlying0
  a0:=Tryz.isAgg0
  z0:=Tryz.sizeOf0
  v0:=Tryz.zeroValue0
  t3:=Tryz.underlying3
  a3:=Tryz.isAgg3
  z3:=Tryz.sizeOf3
  v3:=Tryz.zeroValue3
  t4:=Tryz.underlying4
  a4:=Tryz.isAgg4
  z4:=Tryz.sizeOf4
  v4:=Tryz.zeroValue4
  t5:=Tryz.underlying5
  a5:=Tryz.isAgg5
  z5:=Tryz.sizeOf5
  v5:=Tryz.zeroValue5
  t9:=Tryz.underlying9
  a9:=Tryz.isAgg9
  z9:=Tryz.sizeOf9
  v9:=Tryz.zeroValue9
  t21:=Tryz.underlying21
  a21:=Tryz.isAgg21
  z21:=Tryz.sizeOf21
  v21:=Tryz.zeroValue21
  t31:=Tryz.underlying39
  a31:=Tryz.isAgg39
  z31:=Tryz.sizeOf39
  v31:=Tryz.zeroValue39
  t40:=Tryz.underlying171
  a40:=Tryz.isAgg171
  z40:=Tryz.sizeOf171
  v40:=Tryz.zeroValue171
  t46:=Tryz.underlying178
  a46:=Tryz.isAgg178
  z46:=Tryz.sizeOf178
  v46:=Tryz.zeroValue178
  t49:=Tryz.underlying225
  a49:=Tryz.isAgg225
  z49:=Tryz.sizeOf225
  v49:=Tryz.zeroValue225
  t51:=Tryz.underlying196
  a51:=Tryz.isAgg196
  z51:=Tryz.sizeOf196
  v51:=Tryz.zeroValue196
  t119:=Tryz.underlying169
  a119:=Tryz.isAgg169
  z119:=Tryz.sizeOf169
  t141:=Tryz.underlying198
  a141:=Tryz.isAgg198
  z141:=Tryz.sizeOf198
  v141:=Tryz.zeroValue198
  t152:=Tryz.underlying193
  a152:=Tryz.isAgg193
  z152:=Tryz.sizeOf193
  v152:=Tryz.zeroValue193
  t154:=Tryz.underlying195
  a154:=Tryz.isAgg195
  z154:=Tryz.sizeOf195
  v154:=Tryz.zeroValue195
  t193:=Tryz.underlying221
  a193:=Tryz.isAgg221
  z193:=Tryz.sizeOf221
  v193:=Tryz.zeroValue221
  t194:=Tryz.underlying222
  a194:=Tryz.isAgg222
  z194:=Tryz.sizeOf222
  v194:=Tryz.zeroValue222
  t196:=Tryz.underlying224
  a196:=Tryz.isAgg224
  z196:=Tryz.sizeOf224
  v196:=Tryz.zeroValue224
  t198:=Tryz.underlying227
  a198:=Tryz.isAgg227
  z198:=Tryz.sizeOf227
  v198:=Tryz.zeroValue227
  t201:=Tryz.underlying230
  a201:=Tryz.isAgg230
  z201:=Tryz.sizeOf230
  v201:=Tryz.zeroValue230
  t226:=Tryz.underlying252
  a226:=Tryz.isAgg252
  z226:=Tryz.sizeOf252
  v226:=Tryz.zeroValue252
  t227:=Tryz.underlying253
  a227:=Tryz.isAgg253
  z227:=Tryz.sizeOf253
  v227:=Tryz.zeroValue253
  g0:=by kernel_rfl
  g6:=by kernel_rfl }
def Tryz.lays156_ren:Go.Shelf.Ren:=⟨fun | 156=>96 | 165=>143 | 166=>72 | 169=>73 | 240=>119 | 241=>173 | 276=>159 | 277=>211 | n=>n,fun | 31=>39 | 9=>9 | 3=>3 | 4=>4 | 0=>0 | 20=>20 | 72=>117 | 76=>120 | 70=>115 | 37=>22 | 75=>119 | 127=>158 | 164=>183 | 5=>5 | 80=>122 | n=>n,fun | n=>n⟩
theorem Tryz.lays156:Go.Proofs.Lays.n156 Tryz.prog Tryz.lays156_ren:= {
  mixed:=by kernel_rfl
  f156:=Tryz.func96.trans (congrArg some (by kernel_rfl))
  f165:=Tryz.func143.trans (congrArg some (by kernel_rfl))
  f166:=Tryz.func72.trans (congrArg some (by kernel_rfl))
  f169:=Tryz.func73.trans (congrArg some (by kernel_rfl))
  f240:=Tryz.func119.trans (congrArg some (by kernel_rfl))
  f241:=Tryz.func173.trans (congrArg some (by kernel_rfl))
  f276:=Tryz.func159.trans (congrArg some (by kernel_rfl))
  f277:=Tryz.func211.trans (congrArg some (by kernel_rfl))
  t0:=Tryz.underlying0
  a0:=Tryz.isAgg0
  z0:=Tryz.sizeOf0
  v0:=Tryz.zeroValue0
  t3:=Tryz.underlying3
  a3:=Tryz.isAgg3
  z3:=Tryz.sizeOf3
  v3:=Tryz.zeroValue3
  t4:=Tryz.underlying4
  a4:=Tryz.isAgg4
  z4:=Tryz.sizeOf4
  v4:=Tryz.zeroValue4
  t9:=Tryz.underlying9
  a9:=Tryz.isAgg9
  z9:=Tryz.sizeOf9
  v9:=Tryz.zeroValue9
  t20:=Tryz.underlying20
  a20:=Tryz.isAgg20
  z20:=Tryz.sizeOf20
  v20:=Tryz.zeroValue20
  t31:=Tryz.underlying39
  a31:=Tryz.isAgg39
  z31:=Tryz.sizeOf39
  v31:=Tryz.zeroValue39
  t37:=Tryz.underlying22
  a37:=Tryz.isAgg22
  z37:=Tryz.sizeOf22
  v37:=Tryz.zeroValue22
  t70:=Tryz.underlying115
  a70:=Tryz.isAgg115
  z70:=Tryz.sizeOf115
  v70:=Tryz.zeroValue115
  t72:=Tryz.underlying117
  a72:=Tryz.isAgg117
  z72:=Tryz.sizeOf117
  v72:=Tryz.zeroValue117
  t75:=Tryz.underlying119
  a75:=Tryz.isAgg119
  z75:=Tryz.sizeOf119
  v75:=Tryz.zeroValue119
  t76:=Tryz.underlying120
  a76:=Tryz.isAgg120
  z76:=Tryz.sizeOf120
  v76:=Tryz.zeroValue120
  t127:=Tryz.underlying158
  a127:=Tryz.isAgg158
  z127:=Tryz.sizeOf158
  v127:=Tryz.zeroValue158
  t164:=Tryz.underlying183
  a164:=Tryz.isAgg183
  z164:=Tryz.sizeOf183
  v164:=Tryz.zeroValue183 }
def Tryz.laysC172_ren:Go.Shelf.Ren:=⟨fun | 172=>140 | 244=>171 | 245=>172 | 247=>206 | 279=>207 | 280=>208 | 281=>209 | 282=>210 | 287=>229 | 316=>230 | 171=>80 | 205=>231 | 321=>245 | 322=>246 | 243=>128 | 246=>162 | 283=>194 | 284=>195 | 285=>196 | 286=>197 | 129=>223 | 317=>222 | 318=>224 | 319=>225 | 320=>226 | 337=>243 | 338=>244 | n=>n,fun | 9=>9 | 3=>3 | 75=>119 | 76=>120 | 4=>4 | 5=>5 | 167=>232 | 37=>22 | 0=>0 | 85=>233 | 2=>2 | 168=>235 | 53=>214 | 175=>254 | 46=>178 | 210=>258 | 127=>158 | 145=>271 | 143=>269 | 21=>21 | 171=>213 | 173=>217 | 212=>244 | 51=>196 | 20=>20 | 213=>245 | 232=>277 | 233=>278 | 80=>122 | n=>n,fun | 15=>6 | 16=>7 | 17=>3 | 18=>8 | 19=>9 | n=>n⟩
theorem Tryz.laysC172:Go.Proofs.LaysC.n172 Tryz.prog Tryz.laysC172_ren:= {
  mixed:=by kernel_rfl
  f129:=Tryz.func223.trans (congrArg some (by kernel_rfl))
  f171:=Tryz.func80.trans (congrArg some (by kernel_rfl))
  f172:=Tryz.func140.trans (congrArg some (by kernel_rfl))
  f205:=Tryz.func231.trans (congrArg some (by kernel_rfl))
  f243:=Tryz.func128.trans (congrArg some (by kernel_rfl))
  f244:=Tryz.func171.trans (congrArg some (by kernel_rfl))
  f245:=Tryz.func172.trans (congrArg some (by kernel_rfl))
  f246:=Tryz.func162.trans (congrArg some (by kernel_rfl))
  f247:=Tryz.func206.trans (congrArg some (by kernel_rfl))
  f279:=Tryz.func207.trans (congrArg some (by kernel_rfl))
  f280:=Tryz.func208.trans (congrArg some (by kernel_rfl))
  f281:=Tryz.func209.trans (congrArg some (by kernel_rfl))
  f282:=Tryz.func210.trans (congrArg some (by kernel_rfl))
  f283:=Tryz.func194.trans (congrArg some (by kernel_rfl))
  f284:=Tryz.func195.trans (congrArg some (by kernel_rfl))
  f285:=Tryz.func196.trans (congrArg some (by kernel_rfl))
  f286:=Tryz.func197.trans (congrArg some (by kernel_rfl))
  f287:=Tryz.func229.trans (congrArg some (by kernel_rfl))
  f316:=Tryz.func230.trans (congrArg some (by kernel_rfl))
  f317:=Tryz.func222.trans (congrArg some (by kernel_rfl))
  f318:=Tryz.func224.trans (congrArg some (by kernel_rfl))
  f319:=Tryz.func225.trans (congrArg some (by kernel_rfl))
  f320:=Tryz.func226.trans (congrArg some (by kernel_rfl))
  f321:=Tryz.func245.trans (congrArg some (by kernel_rfl))
  f322:=Tryz.func246.trans (congrArg some (by kernel_rfl))
  f337:=Tryz.func243.trans (congrArg some (by kernel_rfl))
  f338:=Tryz.func244.trans (congrArg some (by kernel_rfl))
  t0:=Tryz.underlying0
  a0:=Tryz.isAgg0
  z0:=Tryz.sizeOf0
  v0:=Tryz.zeroValue0
  t2:=Tryz.underlying2
  a2:=Tryz.isAgg2
  z2:=Tryz.sizeOf2
  v2:=Tryz.zeroValue2
  t3:=Tryz.underlying3
  a3:=Tryz.isAgg3
  z3:=Tryz.sizeOf3
  v3:=Tryz.zeroValue3
  t4:=Tryz.underlying4
  a4:=Tryz.isAgg4
  z4:=Tryz.sizeOf4
  v4:=Tryz.zeroValue4
  t5:=Tryz.underlying5
  a5:=Tryz.isAgg5
  z5:=Tryz.sizeOf5
  v5:=Tryz.zeroValue5
  t9:=Tryz.underlying9
  a9:=Tryz.isAgg9
  z9:=Tryz.sizeOf9
  v9:=Tryz.zeroValue9
  t20:=Tryz.underlying20
  a20:=Tryz.isAgg20
  z20:=Tryz.sizeOf20
  v20:=Tryz.zeroValue20
  t21:=Tryz.underlying21
  a21:=Tryz.isAgg21
  z21:=Tryz.sizeOf21
  v21:=Tryz.zeroValue21
  t37:=Tryz.underlying22
  a37:=Tryz.isAgg22
  z37:=Tryz.sizeOf22
  v37:=Tryz.zeroValue22
  t46:=Tryz.underlying178
  a46:=Tryz.isAgg178
  z46:=Tryz.sizeOf178
  v46:=Tryz.zeroValue178
  t51:=Tryz.underlying196
  a51:=Tryz.isAgg196
  z51:=Tryz.sizeOf196
  v51:=Tryz.zeroValue196
  t53:=Tryz.underlying214
  a53:=Tryz.isAgg214
  z53:=Tryz.sizeOf214
  v53:=Tryz.zeroValue214
  t75:=Tryz.underlying119
  a75:=Tryz.isAgg119
  z75:=Tryz.sizeOf119
  v75:=Tryz.zeroValue119
  t76:=Tryz.underlying120
  a76:=Tryz.isAgg120
  z76:=Tryz.sizeOf120
  v76:=Tryz.zeroValue120
  t85:=Tryz.underlying233
  a85:=Tryz.isAgg233
  z85:=Tryz.sizeOf233
  v85:=Tryz.zeroValue233
  t127:=Tryz.underlying158
  a127:=Tryz.isAgg158
  z127:=Tryz.sizeOf158
  v127:=Tryz.zeroValue158
  t143:=Tryz.underlying269
  a143:=Tryz.isAgg269
  z143:=Tryz.sizeOf269
  v143:=Tryz.zeroValue269
  t145:=Tryz.underlying271
  a145:=Tryz.isAgg271
  z145:=Tryz.sizeOf271
  v145:=Tryz.zeroValue271
  t167:=Tryz.underlying232
  a167:=Tryz.isAgg232
  z167:=Tryz.sizeOf232
  v167:=Tryz.zeroValue232
  t168:=Tryz.underlying235
  a168:=Tryz.isAgg235
  z168:=Tryz.sizeOf235
  v168:=Tryz.zeroValue235
  t171:=Tryz.underlying213
  a171:=Tryz.isAgg213
  z171:=Tryz.sizeOf213
  v171:=Tryz.zeroValue213
  t173:=Tryz.underlying217
  a173:=Tryz.isAgg217
  z173:=Tryz.sizeOf217
  v173:=Tryz.zeroValue217
  t175:=Tryz.underlying254
  a175:=Tryz.isAgg254
  z175:=Tryz.sizeOf254
  v175:=Tryz.zeroValue254
  t210:=Tryz.underlying258
  a210:=Tryz.isAgg258
  z210:=Tryz.sizeOf258
  v210:=Tryz.zeroValue258
  t212:=Tryz.underlying244
  a212:=Tryz.isAgg244
  z212:=Tryz.sizeOf244
  v212:=Tryz.zeroValue244
  t213:=Tryz.underlying245
  a213:=Tryz.isAgg245
  z213:=Tryz.sizeOf245
  t232:=Tryz.underlying277
  a232:=Tryz.isAgg277
  z232:=Tryz.sizeOf277
  v232:=Tryz.zeroValue277
  t233:=Tryz.underlying278
  a233:=Tryz.isAgg278
  z233:=Tryz.sizeOf278
  v233:=Tryz.zeroValue278
  g15:=by kernel_rfl
  g16:=by kernel_rfl
  g17:=by kernel_rfl
  g18:=by kernel_rfl
  g19:=by kernel_rfl
  t80:=Tryz.underlying122
  a80:=Tryz.isAgg122
  z80:=Tryz.sizeOf122
  v80:=Tryz.zeroValue122
  i0:=by kernel_rfl
  i2:=by kernel_rfl
  i3:=by kernel_rfl
  i4:=by kernel_rfl
  i5:=by kernel_rfl
  i9:=by kernel_rfl
  i20:=by kernel_rfl
  i21:=by kernel_rfl
  i37:=by kernel_rfl
  i46:=by kernel_rfl
  i51:=by kernel_rfl
  i53:=by kernel_rfl
  i75:=by kernel_rfl
  i76:=by kernel_rfl
  i80:=by kernel_rfl
  i85:=by kernel_rfl
  i127:=by kernel_rfl
  i143:=by kernel_rfl
  i145:=by kernel_rfl
  i167:=by kernel_rfl
  i168:=by kernel_rfl
  i171:=by kernel_rfl
  i173:=by kernel_rfl
  i175:=by kernel_rfl
  i210:=by kernel_rfl
  i212:=by kernel_rfl
  i232:=by kernel_rfl
  i233:=by kernel_rfl
  m15:=by kernel_rfl
  m16:=by kernel_rfl
  m17:=by kernel_rfl
  m18:=by kernel_rfl
  m19:=by kernel_rfl
  c0:=by kernel_rfl
  c2:=by kernel_rfl
  c3:=by kernel_rfl
  c4:=by kernel_rfl
  c5:=by kernel_rfl
  c9:=by kernel_rfl
  c20:=by kernel_rfl
  c21:=by kernel_rfl
  c37:=by kernel_rfl
  c46:=by kernel_rfl
  c51:=by kernel_rfl
  c53:=by kernel_rfl
  c75:=by kernel_rfl
  c76:=by kernel_rfl
  c80:=by kernel_rfl
  c85:=by kernel_rfl
  c127:=by kernel_rfl
  c143:=by kernel_rfl
  c145:=by kernel_rfl
  c167:=by kernel_rfl
  c168:=by kernel_rfl
  c171:=by kernel_rfl
  c173:=by kernel_rfl
  c175:=by kernel_rfl
  c210:=by kernel_rfl
  c212:=by kernel_rfl
  c213:=by kernel_rfl
  c232:=by kernel_rfl
  c233:=by kernel_rfl }
theorem Tryz.Builder_Extra_156:Builder.Extra Tryz.prog Tryz.lays156_ren:= {
  sizeBuilder:=by kernel_rfl
  liesBuilder:=by kernel_rfl
  t5:=Tryz.underlying5
  a5:=Tryz.isAgg5
  z5:=Tryz.sizeOf5
  v5:=Tryz.zeroValue5
  infoByte:=by kernel_rfl
  cellsByte:=by kernel_rfl
  sizeByte:=by kernel_rfl
  neB5:=by decide }
end Go.Proofs
end
section
namespace Go.Proofs.YtjfjniebmdafeaaGreatDoor
open Go.RowKit Go.Lib Go.Ev Go.Shelf Go.Sort
theorem q0n {w:World}(h:Kept w):Lib.TabIs Tryz.prog w "strings.asciiSpace" .u8 Lib.asciiSpaceTab:=by
  obtain ⟨c,t,z,e,hc⟩:=h _ (List.Mem.tail _ (List.Mem.head _))
  obtain rfl:c=_:=hc
  unfold Lib.TabIs World.var?
  rw [show Tryz.prog.globalNamed "strings.asciiSpace" =some 0 by kernel_rfl]
  simp only [Option.bind_some]
  rw [e]
theorem q1m {w:World}(h:Kept w): ∃ t p,w.cell? ⟨6,0,none⟩=some (.iface t p):=by
  obtain ⟨c,t,z,e,⟨tp,p,rfl⟩⟩:=h _ (List.Mem.tail _ (List.Mem.tail _ (List.Mem.head _)))
  exact ⟨tp,p,by simp only [World.cell?]; rw [e]; rfl⟩
theorem qxo {w:World}(h:Kept w): ∃ t p,w.cell? ⟨7,0,none⟩=some (.iface t p):=by
  obtain ⟨c,t,z,e,⟨tp,p,rfl⟩⟩:=h _ (List.Mem.tail _ (List.Mem.tail _ (List.Mem.tail _ (List.Mem.head _))))
  exact ⟨tp,p,by simp only [World.cell?]; rw [e]; rfl⟩
theorem q2t {w:World}{nm:String}{g:Nat}{c:Array Value}(hg:Tryz.prog.globalNamed nm=some g)(h:w.var? Tryz.prog nm=some c): ∃ t z,w.heap[g]? =some (.cells c t z):=by
  unfold World.var? at h
  rw [hg] at h
  simp only [Option.bind_some] at h
  split at h
  · rename_i cs t z e
    exact ⟨t,z,by rw [e]; rw [Option.some.inj h]⟩
  · cases h
theorem kept_of4 {w:World}{n1 n2 n3 n4:String}(g1:Tryz.prog.globalNamed n1=some 3)(g2:Tryz.prog.globalNamed n2=some 0)(g3:Tryz.prog.globalNamed n3=some 6)(g4:Tryz.prog.globalNamed n4=some 7)
    (h1:Lib.TabIs Tryz.prog w n1 .u64 Lib.pow10Tab) (h2:Lib.TabIs Tryz.prog w n2 .u8 Lib.asciiSpaceTab) (h3: ∃ t p,w.var? Tryz.prog n3=some #[.iface t p]) (h4: ∃ t p,w.var? Tryz.prog n4=some #[.iface t p]) (h5: ∃ m,w.cell? ⟨2,0,none⟩=some (.int .i64 m)):Kept w:=by
  intro x hx
  simp only [tabs,List.mem_cons,List.not_mem_nil,or_false] at hx
  rcases hx with rfl | rfl | rfl | rfl | rfl
  · obtain ⟨t,z,e⟩:=q2t g1 h1
    exact ⟨_,t,z,e,rfl⟩
  · obtain ⟨t,z,e⟩:=q2t g2 h2
    exact ⟨_,t,z,e,rfl⟩
  · obtain ⟨tp,p,h⟩:=h3
    obtain ⟨t,z,e⟩:=q2t g3 h
    exact ⟨_,t,z,e,tp,p,rfl⟩
  · obtain ⟨tp,p,h⟩:=h4
    obtain ⟨t,z,e⟩:=q2t g4 h
    exact ⟨_,t,z,e,tp,p,rfl⟩
  · obtain ⟨m,hm⟩:=h5
    simp only [World.cell?] at hm
    split at hm
    · rename_i cs t z e
      exact ⟨cs,t,z,e,m,by simpa using hm⟩
    · cases hm
theorem qh8: ∀ (l:List UInt8)(ws:Bool),Lib.cntF ws l≤l.length
  | [],ws=>by simp [Lib.cntF]
  | b::l,ws=>by
    have:=qh8 l (Lib.isSp b)
    simp only [Lib.cntF,List.length_cons]
    split<;>omega
theorem qob (l:List UInt8):(Lib.fields l).length≤l.length:=by rw [Lib.fields_length]; exact qh8 l true
theorem qv1 (l:List ByteArray):okTs Tryz.prog [39] [.arr true false (.strs l)]=true:=by kernel_rfl
theorem qp8 (ds rs:List D)(h:fldGo ds=some rs):Contract Tryz.prog 91 [] ds rs:=by
  unfold fldGo at h
  split at h
  · rename_i s
    cases hn:(decide (s.size≤1000)&&s.data.toList.all fun b=>decide (b.toNat<128))
    · rw [hn] at h; cases h
    rw [hn] at h
    have h:=Option.some.inj (show some _=some rs from h)
    subst h
    simp only [Bool.and_eq_true,decide_eq_true_eq,List.all_eq_true] at hn
    obtain ⟨hs,ha⟩:=hn
    refine fresh_contract (fn:=Tryz.f91) Tryz.func91 (by kernel_rfl) (qv1 _) (fun w args FF hk hd=> ?_)
    simp only [RepDs,RepD] at hd
    obtain ⟨u,us,F1,F2,e0,rfl,⟨rfl,rfl⟩,rfl,rfl⟩:=hd
    have ha' :args= #[.string s]:=by rw [← Array.toArray_toList (xs:=args),e0]
    subst ha'
    refine (Any.strings_Fields Tryz.lays157 (by kernel_rfl) (by kernel_rfl) s w (by omega) (fun j b hj=>ha b (List.mem_of_getElem? hj)) (q0n hk)).mono ?_
    rintro e w' ⟨rfl,rfl⟩
    have hl:(wordsL s.data.toList).length=(Lib.fields s.data.toList).length:=List.length_map ..
    have hb:(Lib.fields s.data.toList).length≤1000000:=by
      have:=qob s.data.toList
      have hz:s.data.toList.length=s.size:=(Lib.size_eq s).symm
      omega
    obtain ⟨F,h1,h2,h3⟩:=strs_new w (wordsL s.data.toList) 9 (by omega)
    rw [hl] at h1
    have hm:((wordsL s.data.toList).map fun s=>Value.string s)=(Lib.fields s.data.toList).map fun l=>Value.string ⟨l.toArray⟩:=by unfold wordsL; rw [List.map_map]; rfl
    rw [hm] at h1
    exact ⟨_,F,rfl,rfl,rfl,h1,h2,h3,(Below.refl _ w).alloc (Nat.le_refl _) _⟩
  · cases h
theorem qv0 (s:ByteArray):okTs Tryz.prog [9] [.str s]=true:=by kernel_rfl
theorem qqb (ds rs:List D)(h:joinGo ds=some rs):Contract Tryz.prog 96 [] ds rs:=by
  unfold joinGo at h
  split at h
  · rename_i z l sep
    cases hn:(decide ((joinL l sep).length≤100000)&&decide (l.length≤100000))
    · rw [hn] at h; cases h
    rw [hn] at h
    have h:=Option.some.inj (show some _=some rs from h)
    subst h
    simp only [Bool.and_eq_true,decide_eq_true_eq] at hn
    obtain ⟨h1,h2⟩:=hn
    refine str_contract (fn:=Tryz.f96) (S:=9) Tryz.func96 (by kernel_rfl) (by kernel_rfl) (qv0 _) (fun w args FF hk hd=> ?_)
    simp only [RepDs,RepD] at hd
    obtain ⟨u0,us0,F0,F0',e0,rfl,⟨p,rfl,rp,rfl⟩,u1,us1,F1,F1',rfl,rfl,⟨rfl,rfl⟩,rfl,rfl⟩:=hd
    have ha:args= #[.slice p.base p.len p.cap,.string sep]:=by rw [← Array.toArray_toList (xs:=args),e0]
    subst ha
    obtain ⟨r1,r2,r3,r4,r5,r6⟩:=rp
    have r1' :l.length=p.len:=r1
    cases l with
    | nil=>
      have r0:p.len=0:=r1'.symm
      rw [r0]
      refine (Any.strings_Join_none Tryz.lays156 Tryz.Builder_Extra_156 p.base p.cap sep w).mono ?_
      rintro e w' ⟨rfl,rfl⟩
      exact ⟨rfl,Below.refl _ _⟩
    | cons x l=>
      cases hb:p.base with
      | none=>have:=(r4 hb).2; simp at r1'; omega
      | some b=>
        obtain ⟨hc,hcl⟩:=r5 b hb
        have h0:w.cell? (b.add 0)=some (.string x):=hcl 0 _ rfl
        have sp:=World.cell?_spot h0
        have hlt:=World.block_lt_of_cell? w _ h0
        obtain ⟨bk,o,spt⟩:=b
        have sp' :spt=none:=sp
        subst sp'
        rw [← r1']
        refine Any.strings_Join Tryz.lays156 Tryz.Builder_Extra_156 bk o p.cap (x::l) sep w (fun j y hj=> ?_) hlt (by omega) (by omega) ?_
        · have:=hcl j (.string y) (by show ((x::l).map fun s=>Value.string s)[j]? =_; rw [List.getElem?_map,hj]; rfl)
          rwa [Addr.add_lit] at this
        · exact Nat.le_trans h1 (by omega)
  · cases h
theorem toL (s:ByteArray):s.toList=s.data.toList:=by
  obtain ⟨⟨l⟩⟩:=s
  simp
theorem qbr {w w' :World}{T:TypeId}(h:w' =w∨ ∃ t,w' =Lib.bytesWorld w T t):Below w.heap.size w w' :=by
  rcases h with rfl | ⟨t,rfl⟩
  · exact Below.refl _ _
  · exact Lib.bytesWorld_below _ _ _
theorem qwo (s:ByteArray)(v:Int)(h:Lib.atoiAll s.data.toList=.ok v)(hs:s.size≤1000)(w:World)(hk:Kept w):Calls Tryz.prog 94 #[.string s] w fun e w' =>e=.returned (.tuple #[.int .i64 v,.bool (decide (Lib.itoa v=s.data.toList))])∧Below w.heap.size w w' :=by
  obtain ⟨v0,v1⟩:=Lib.atoiAll_bounds h
  have hv:inI64 v=true:=by unfold inI64; rw [decide_eq_true v0,decide_eq_true v1]; rfl
  have cA:=Any.strconv_Atoi_ok Tryz.laysC172 s (by omega) v h w
  have H:=Hid.mk' hv
  clear hv h
  go_enter Tryz.func94,Tryz.ntmps94
  go_wp2_with (go_at_call 140; refine cA.mono ?_)
  rintro e W1 ⟨rfl,hw⟩
  have b1:=qbr hw
  clear hw cA
  have cF:=qop v H.out W1 (qqi hk b1)
  go_wp2_with (go_at_call 40; refine cF.mono ?_)
  rintro e W2 ⟨rfl,b2⟩
  clear cF
  go_wp2
  go_ret2
  refine ⟨?_,b1.trans (b2.mono b1.size)⟩
  show Ending.returned (.tuple #[.int .i64 v,.bool (Lib.itoa v == s.toList)])=_
  rw [show (Lib.itoa v == s.toList)=decide (Lib.itoa v=s.data.toList) by rw [Bool.eq_iff_iff]; simp [toL]]
theorem qwq (s:ByteArray)(h:Lib.atoiAll s.data.toList=Lib.atoiAll [])(hs:s.size≤1000)(w:World)(hk:Kept w):Calls Tryz.prog 94 #[.string s] w fun e w' =>e=.returned (.tuple #[.int .i64 0,.bool false])∧Below w.heap.size w w' :=by
  obtain ⟨tp,p,hv⟩:=q1m hk
  have cA:=Any.strconv_Atoi_syntax Tryz.laysC172 s (by omega) h (.iface tp p) w hv (Or.inr ⟨tp,p,rfl⟩)
  clear h hv
  go_enter Tryz.func94,Tryz.ntmps94
  go_wp2_with (go_at_call 140; refine cA.mono ?_)
  rintro e W1 ⟨N,rfl,_,_,b1⟩
  clear cA
  go_wp2
  go_ret2
  exact ⟨rfl,b1⟩
theorem qwp (s:ByteArray)(h:Lib.atoiAll s.data.toList=.range)(hs:s.size≤1000)(w:World)(hk:Kept w):Calls Tryz.prog 94 #[.string s] w fun e w' =>e=.returned (.tuple #[.int .i64 (Lib.atoiSat s.data.toList),.bool false])∧Below w.heap.size w w' :=by
  obtain ⟨tp,p,hv⟩:=qxo hk
  have cA:=Any.strconv_Atoi_range Tryz.laysC172 s (by omega) h (.iface tp p) w hv (Or.inr ⟨tp,p,rfl⟩)
  clear h hv
  generalize Lib.atoiSat s.data.toList=sat at cA ⊢
  go_enter Tryz.func94,Tryz.ntmps94
  go_wp2_with (go_at_call 140; refine cA.mono ?_)
  rintro e W1 ⟨N,rfl,_,_,b1⟩
  clear cA
  go_wp2
  go_ret2
  exact ⟨rfl,b1⟩
theorem qvx (v:Int)(b:Bool):okTs Tryz.prog [3,4] [.int .i64 v,.bool b]=true:=by kernel_rfl
theorem qqd (ds rs:List D)(h:pnumGo ds=some rs):Contract Tryz.prog 94 [] ds rs:=by
  unfold pnumGo at h
  split at h
  · rename_i s
    cases hn:decide (s.size≤1000)
    · rw [hn] at h; cases h
    rw [hn] at h
    have h:=Option.some.inj (show some _=some rs from h)
    subst h
    have hs:s.size≤1000:=of_decide_eq_true hn
    refine fresh_contract (fn:=Tryz.f94) Tryz.func94 (by kernel_rfl) (qvx _ _) (fun w args FF hk hd=> ?_)
    simp only [RepDs,RepD] at hd
    obtain ⟨u,us,F1,F2,e0,rfl,⟨rfl,rfl⟩,rfl,rfl⟩:=hd
    have ha' :args= #[.string s]:=by rw [← Array.toArray_toList (xs:=args),e0]
    subst ha'
    have fin: ∀ (v:Int)(b:Bool)(e:Ending)(w' :World),e=.returned (.tuple #[.int .i64 v,.bool b])∧Below w.heap.size w w' → ∃ outs F',e=.returned (retVal outs)∧outs.length=Tryz.f94.resultTypes.size∧[D.int .i64 v,D.bool b].length=Tryz.f94.resultTypes.size∧RepDs w' [D.int .i64 v,D.bool b] outs F' ∧Go.Ev.Sep F' ∧(∀ b off,ownOf F' b off→w.heap.size≤b)∧Below w.heap.size w w' :=by
      rintro v b e w' ⟨rfl,hb⟩
      refine ⟨[.int .i64 v,.bool b],[],rfl,rfl,rfl,?_,by simp [Go.Ev.Sep],?_,hb⟩
      · simp only [RepDs,RepD]
        exact ⟨_,_,[],[],rfl,rfl,⟨rfl,rfl⟩,_,[],[],[],rfl,rfl,⟨rfl,rfl⟩,rfl,rfl⟩
      · rintro x off ⟨A,hA,_⟩; cases hA
    rcases hA:Lib.atoiAll s.data.toList with v | _ | _
    · have e1:atoiV s.data.toList=v:=by unfold atoiV; rw [hA]
      have e2:atoiB s.data.toList=decide (Lib.itoa v=s.data.toList):=by unfold atoiB; rw [hA]
      rw [e1,e2]
      exact (qwo s v hA hs w hk).mono (fin _ _)
    · have e1:atoiV s.data.toList=0:=by unfold atoiV; rw [hA]
      have e2:atoiB s.data.toList=false:=by unfold atoiB; rw [hA]
      rw [e1,e2]
      exact (qwq s (hA.trans rfl) hs w hk).mono (fin _ _)
    · have e1:atoiV s.data.toList=Lib.atoiSat s.data.toList:=by unfold atoiV; rw [hA]
      have e2:atoiB s.data.toList=false:=by unfold atoiB; rw [hA]
      rw [e1,e2]
      exact (qwp s hA hs w hk).mono (fin _ _)
  · cases h
end Go.Proofs.YtjfjniebmdafeaaGreatDoor
end
section
namespace Go.Proofs
open Go.Shelf
def Tryz.lays146_ren:Go.Shelf.Ren:=⟨fun | 146=>46 | 221=>88 | 268=>134 | 138=>135 | 143=>136 | 195=>166 | 197=>167 | 218=>168 | 219=>169 | 260=>199 | 217=>200 | 225=>201 | 224=>202 | 267=>203 | 266=>227 | 314=>228 | n=>n,fun | 9=>9 | 31=>39 | 3=>3 | 4=>4 | 0=>0 | 105=>190 | 21=>21 | 5=>5 | 46=>178 | 119=>169 | 139=>249 | 138=>248 | 146=>250 | 51=>196 | n=>n,fun | 1=>2 | 3=>4 | 4=>5 | n=>n⟩
theorem Tryz.lays146:Go.Proofs.Lays.n146 Tryz.prog Tryz.lays146_ren:= {
  mixed:=by kernel_rfl
  f138:=Tryz.func135.trans (congrArg some (by kernel_rfl))
  f143:=Tryz.func136.trans (congrArg some (by kernel_rfl))
  f146:=Tryz.func46.trans (congrArg some (by kernel_rfl))
  f195:=Tryz.func166.trans (congrArg some (by kernel_rfl))
  f197:=Tryz.func167.trans (congrArg some (by kernel_rfl))
  f217:=Tryz.func200.trans (congrArg some (by kernel_rfl))
  f218:=Tryz.func168.trans (congrArg some (by kernel_rfl))
  f219:=Tryz.func169.trans (congrArg some (by kernel_rfl))
  f221:=Tryz.func88.trans (congrArg some (by kernel_rfl))
  f224:=Tryz.func202.trans (congrArg some (by kernel_rfl))
  f225:=Tryz.func201.trans (congrArg some (by kernel_rfl))
  f260:=Tryz.func199.trans (congrArg some (by kernel_rfl))
  f266:=Tryz.func227.trans (congrArg some (by kernel_rfl))
  f267:=Tryz.func203.trans (congrArg some (by kernel_rfl))
  f268:=Tryz.func134.trans (congrArg some (by kernel_rfl))
  f314:=Tryz.func228.trans (congrArg some (by kernel_rfl))
  t0:=Tryz.underlying0
  a0:=Tryz.isAgg0
  z0:=Tryz.sizeOf0
  v0:=Tryz.zeroValue0
  t3:=Tryz.underlying3
  a3:=Tryz.isAgg3
  z3:=Tryz.sizeOf3
  v3:=Tryz.zeroValue3
  t4:=Tryz.underlying4
  a4:=Tryz.isAgg4
  z4:=Tryz.sizeOf4
  v4:=Tryz.zeroValue4
  t5:=Tryz.underlying5
  a5:=Tryz.isAgg5
  z5:=Tryz.sizeOf5
  v5:=Tryz.zeroValue5
  t9:=Tryz.underlying9
  a9:=Tryz.isAgg9
  z9:=Tryz.sizeOf9
  v9:=Tryz.zeroValue9
  t21:=Tryz.underlying21
  a21:=Tryz.isAgg21
  z21:=Tryz.sizeOf21
  v21:=Tryz.zeroValue21
  t31:=Tryz.underlying39
  a31:=Tryz.isAgg39
  z31:=Tryz.sizeOf39
  v31:=Tryz.zeroValue39
  t46:=Tryz.underlying178
  a46:=Tryz.isAgg178
  z46:=Tryz.sizeOf178
  v46:=Tryz.zeroValue178
  t51:=Tryz.underlying196
  a51:=Tryz.isAgg196
  z51:=Tryz.sizeOf196
  v51:=Tryz.zeroValue196
  t105:=Tryz.underlying190
  a105:=Tryz.isAgg190
  z105:=Tryz.sizeOf190
  v105:=Tryz.zeroValue190
  t119:=Tryz.underlying169
  a119:=Tryz.isAgg169
  z119:=Tryz.sizeOf169
  t138:=Tryz.underlying248
  a138:=Tryz.isAgg248
  z138:=Tryz.sizeOf248
  v138:=Tryz.zeroValue248
  t139:=Tryz.underlying249
  a139:=Tryz.isAgg249
  z139:=Tryz.sizeOf249
  v139:=Tryz.zeroValue249
  t146:=Tryz.underlying250
  a146:=Tryz.isAgg250
  z146:=Tryz.sizeOf250
  v146:=Tryz.zeroValue250
  g1:=by kernel_rfl
  g3:=by kernel_rfl
  g4:=by kernel_rfl }
end Go.Proofs
end
section
namespace Go.Proofs.YtjfjniebmdafeaaGreatDoor
open Go.RowKit Go.Lib Go.Ev Go.Shelf Go.Sort
theorem qss: ∀ (l cur:List UInt8),(∀ k:Nat,l[k]? ≠some 10)→linesGo cur l=[cur++l]
  | [],cur,h=>by simp [linesGo]
  | b::l,cur,h=>by
    have h0:¬ b=10:=fun e=>h 0 (by rw [e]; rfl)
    rw [linesGo,decide_eq_false h0,qic,qss l _ (fun k=>by simpa using h (k+1)),List.append_assoc]; rfl
theorem qsp: ∀ (l cur:List UInt8)(i:Nat),l[i]? =some 10→(∀ k:Nat,k<i→l[k]? ≠some 10)→linesGo cur l=(cur++l.take i)::linesGo [] (l.drop (i+1))
  | [],cur,i,h,hn=>by simp at h
  | b::l,cur,0,h,hn=>by
    have:b=10:=by simpa using h
    rw [linesGo,decide_eq_true this,qie]; simp
  | b::l,cur,i+1,h,hn=>by
    have h0:¬ b=10:=fun e=>hn 0 (by omega) (by rw [e]; rfl)
    rw [linesGo,decide_eq_false h0,qic,qsp l _ i (by simpa using h) (fun k hk=>by simpa using hn (k+1) (by omega)),List.append_assoc]; rfl
theorem q0t: ∀ (n:Nat)(s:List UInt8),s.length≤n→Lib.splitK [10] 0 (Lib.count s [10]) s=linesGo [] s:=by
  intro n
  induction n with
  | zero=>
    intro s hs
    have:s=[]:=List.eq_nil_of_length_eq_zero (by omega)
    subst this
    rw [Lib.count_miss (by decide)]; rfl
  | succ n ih=>
    intro s hs
    rcases Lib.index_spec s [10] with ⟨h,_⟩ | ⟨i,h,hi,_,_⟩
    · rw [Lib.count_miss h]
      rw [Lib.index_one] at h
      rw [qss s [] (Lib.indexByte_none h)]; rfl
    · rw [Lib.count_hit (by simp) h]
      have hb:=h
      rw [Lib.index_one] at hb
      obtain ⟨h1,h2⟩:=Lib.indexByte_some hb
      have hlt:i<s.length:=(List.getElem?_eq_some_iff.1 h1).1
      rw [qsp s [] i h1 h2,Nat.add_comm 1,Lib.splitK,if_neg (by rw [h]; simp),h,Int.toNat_natCast,List.nil_append]
      congr 1
      exact ih _ (by simp only [List.length_drop,List.length_cons,List.length_nil]; omega)
theorem q0p (s sep:ByteArray)(hsep:sep.data.toList=[10]):Lib.splitB sep 0 (Lib.countB s sep) s=linesL s.data.toList:=by
  have h:=Lib.splitB_data sep 0 (Lib.countB s sep) s
  have c:Lib.countB s sep=Lib.count s.data.toList sep.data.toList:=rfl
  rw [c,hsep,q0t _ _ (Nat.le_refl _)] at h
  rw [c,hsep]
  unfold linesL
  rw [← h,List.map_map]
  conv=>lhs; rw [← List.map_id (Lib.splitB sep 0 (Lib.count s.data.toList [10]) s)]
  refine List.map_congr_left fun x _=> ?_
  exact (Lib.mk_data x).symm
theorem q1c (w:World)(l:List ByteArray)(T:TypeId)(hl:l.length≤1000001): ∃ F,RepDs (w.alloc (.cells (l.map fun s=>Value.string s).toArray T)) [.arr true false (.strs l)] [.slice (some ⟨w.heap.size,0,none⟩) l.length l.length] F∧Ev.Sep F∧ ∀ b off,ownOf F b off→w.heap.size≤b:=by
  have hc:(Arr.strs l).cells=l.map fun s=>Value.string s:=rfl
  have ho:(w.alloc (.cells (l.map fun s=>Value.string s).toArray T)).ownsRow 0 T 1 (.slice (some ⟨w.heap.size,0,none⟩) l.length l.length) l.length (Arr.strs l).cells:=by
    refine ⟨by rw [hc]; simp,.inr ⟨w.heap.size,l.length,_,rfl,Nat.zero_le _,heap_alloc_new w _,Nat.le_refl _,?_,?_,?_⟩⟩
    · simp only [maxLen]; omega
    · simp
    · rw [hc]; exact List.take_of_length_le (by simp)
  refine ⟨[(true,foot ⟨some ⟨w.heap.size,0,none⟩,l.length,l.length,1⟩ (.arr true false (.strs l)))],?_,by simp [Ev.Sep],?_⟩
  · simp only [RepDs,RepD]
    refine ⟨_,[],_,[],rfl,(List.append_nil _).symm,⟨⟨some ⟨w.heap.size,0,none⟩,l.length,l.length,1⟩,rfl,⟨rfl,rfl,by simp,by simp,fun x hx=> ?_,fun _=>⟨T,ho⟩⟩,rfl⟩,rfl,rfl⟩
    simp only [Option.some.injEq] at hx
    subst hx
    exact ⟨Nat.le_refl _,fun j u hj=>ho.cells (g:=w.heap.size) rfl j u hj⟩
  · rintro b off ⟨A,hA,_,h⟩
    rw [List.mem_singleton] at hA
    subst hA
    obtain ⟨x,hx,rfl,_⟩:=h
    simp only [Option.some.injEq] at hx
    subst hx
    exact Nat.le_refl _
theorem qvt {w:World}(h:Kept w): ∃ m,w.cell? ⟨2,0,none⟩=some (.int .i64 m):=by
  obtain ⟨c,t,z,e,⟨m,hm⟩⟩:=h _ (List.Mem.tail _ (List.Mem.tail _ (List.Mem.tail _ (List.Mem.tail _ (List.Mem.head _)))))
  exact ⟨m,by simp only [World.cell?]; rw [e]; exact hm⟩
theorem qqh (ds rs:List D)(h:splitGo ds=some rs):Contract Tryz.prog 46 [] ds rs:=by
  unfold splitGo at h
  split at h
  · rename_i s sep
    cases hn:(decide (s.size≤1000000)&&decide (sep.data.toList=[10]))
    · rw [hn] at h; cases h
    rw [hn] at h
    have h:=Option.some.inj (show some _=some rs from h)
    subst h
    simp only [Bool.and_eq_true,decide_eq_true_eq] at hn
    obtain ⟨hs,hsep⟩:=hn
    refine fresh_contract (fn:=Tryz.f46) Tryz.func46 (by kernel_rfl) (qv1 _) (fun w args FF hk hd=> ?_)
    simp only [RepDs,RepD] at hd
    obtain ⟨u,us,F1,F2,e0,rfl,⟨rfl,rfl⟩,u1,us1,F3,F4,rfl,rfl,⟨rfl,rfl⟩,rfl,rfl⟩:=hd
    have ha' :args= #[.string s,.string sep]:=by rw [← Array.toArray_toList (xs:=args),e0]
    subst ha'
    obtain ⟨m,hm⟩:=qvt hk
    have h1:1≤sep.size:=by
      have:=Lib.size_eq sep
      rw [hsep] at this
      rw [this]; simp
    refine (Any.strings_Split Tryz.lays146 (by kernel_rfl) s sep m w (by omega) hm h1).mono ?_
    rintro e w' ⟨rfl,rfl⟩
    have hL:=Lib.splitB_all sep h1 0 _ s rfl
    have hle:=Lib.countB_le sep h1 s.size s (Nat.le_refl _)
    rw [q0p s sep hsep] at hL ⊢
    rw [← hL]
    obtain ⟨F,g1,g2,g3⟩:=q1c w (linesL s.data.toList) 9 (by omega)
    exact ⟨_,F,rfl,rfl,rfl,g1,g2,g3,(Below.refl _ w).alloc (Nat.le_refl _) _⟩
  · cases h
end Go.Proofs.YtjfjniebmdafeaaGreatDoor
end
section
namespace Go.Proofs.YtjfjniebmdafeaaGreatDoor
open Go.RowKit Go.Lib Go.Ev Go.Shelf
def qal (Q:Nat→Ending→World→Prop)(en:Ending)(w' :World):Prop:= ∃ q,Q q en w'

theorem qo5:(Tryz.prog.info? 3).map (fun i=>(i.zero,i.size,i.bytes))=some (some (.int .i64 0),1,8):=by kernel_rfl
theorem q1o:(Tryz.prog.info? 3).map (·.size)=some 1:=by kernel_rfl
theorem q2c:Tryz.prog.underlying 27=some (.slice 3):=by kernel_rfl
theorem q1e: ∀ w,(Go.sizeOf 3).run Tryz.prog w=.ok 1 w:=fun w=>by
  obtain ⟨i0,hi,h0,h1,h2⟩:=info_parts qo5
  simp [Go.sizeOf,typeInfo,hi,h1]

set_option maxHeartbeats 4000000 in
set_option maxRecDepth 100000 in
theorem qxa (g n c i j m vc c1:Nat)(a b1:Addr)(w w1:World)(hij:i<j)(hj:j=n)(hnc:n≤c)(hn:n≤1099511627776)(hc:c≤9223372036854775807)(hm:n≤i+m)(hmb:m≤1099511627776)
    (hr:(Builtin.append_ #[27,27] 27 #[.slice (some ⟨g,0,none⟩) i c,.slice (some a) m vc]).run Tryz.prog w=.ok (.slice (some b1) (i+m) c1) w1):
    Calls Tryz.prog 265 #[.slice (some ⟨g,0,none⟩) n c,.int .i64 i,.int .i64 j,.slice (some a) m vc] w fun en w' =>en=.returned (.slice (some b1) (i+m) c1)∧w' =w1:=by
  subst hj
  have t0:=q2c
  have hz1:¬ ((i:Int)=(j:Int)):=by omega
  have hb6:j≤j:=by omega
  have hb7:(j:Int)≤(j:Int):=by omega
  have mixed:Tryz.prog.follows Departure.mixedOrders=true:=by kernel_rfl
  have hlen:IntKind.i64.wrap ((i:Int)+(m:Int))=(i:Int)+(m:Int):=by rw [IntKind.wrap_i64]; omega
  have hb1:(0:Int)≤(i:Int)+(m:Int):=by omega
  have htn:((i:Int)+(m:Int)).toNat=i+m:=by omega
  have hb8:¬ ((i+m:Nat)<j):=by omega
  go_enter Tryz.func265,Tryz.ntmps265
  go_wp2_with (at_builtin; refine Lib.wpList_append_run _ rfl _ _ _ _ rfl _ _ rfl rfl _ _ hr ?_)
  go_ret
  exact ⟨rfl,rfl⟩
set_option maxHeartbeats 4000000 in
set_option maxRecDepth 100000 in
theorem qw8 (g n c i j m vc c1:Nat)(a b1:Addr)(w w1 w2:World)(hij:i<j)(hj:j=n)(hnc:n≤c)(hn:n≤1099511627776)(hc:c≤9223372036854775807)(hm:i+m<n)(hmb:m≤1099511627776)
    (hr:(Builtin.append_ #[27,27] 27 #[.slice (some ⟨g,0,none⟩) i c,.slice (some a) m vc]).run Tryz.prog w=.ok (.slice (some b1) (i+m) c1) w1)
    (hk: ∀ ty kc,(Builtin.clear_ #[27] ty #[.slice (some ⟨g,i+m,none⟩) (n - (i+m)) kc]).run Tryz.prog w1=.ok (.tuple #[]) w2):
    Calls Tryz.prog 265 #[.slice (some ⟨g,0,none⟩) n c,.int .i64 i,.int .i64 j,.slice (some a) m vc] w fun en w' =>en=.returned (.slice (some b1) (i+m) c1)∧w' =w2:=by
  subst hj
  have t0:=q2c
  have hz1:¬ ((i:Int)=(j:Int)):=by omega
  have hb6:j≤j:=by omega
  have hb7:(j:Int)≤(j:Int):=by omega
  have mixed:Tryz.prog.follows Departure.mixedOrders=true:=by kernel_rfl
  have hlen:IntKind.i64.wrap ((i:Int)+(m:Int))=(i:Int)+(m:Int):=by rw [IntKind.wrap_i64]; omega
  have hb1:(0:Int)≤(i:Int)+(m:Int):=by omega
  have htn:((i:Int)+(m:Int)).toNat=i+m:=by omega
  have hb8:(i+m:Nat)<j:=by omega
  have hb9:¬ (c=i+m):=by omega
  go_enter Tryz.func265,Tryz.ntmps265
  go_wp2_with (at_builtin; refine Lib.wpList_append_run _ rfl _ _ _ _ rfl _ _ rfl rfl _ _ hr ?_)
  go_ret
  exact ⟨rfl,rfl⟩
set_option maxHeartbeats 4000000 in
set_option maxRecDepth 100000 in
theorem qxi (g n c i j m vc:Nat)(a:Addr)(w:World)(W1 W2:Nat→World)(hij:i<j)(hj:j<n)(hnc:n≤c)(hn:n≤1099511627776)(hc:c≤9223372036854775807)(hm:j<i+m)(hmb:m≤1099511627776)(hroom:i+m+(n - j)≤c)
    (hov: ∀ q lb cb,(callFunc 276 #[.slice (some ⟨g,i+m,none⟩) lb cb,.slice (some a) m vc]).run Tryz.prog (w.drewN q)=.ok (.value (.bool false)) (w.drewN q))
    (hcpa: ∀ q ty dc sc,(Builtin.copy_ #[27,27] ty #[.slice (some ⟨g,i+m,none⟩) (n - j) dc,.slice (some ⟨g,j,none⟩) (n - j) sc]).run Tryz.prog (w.drewN q)=.ok (goInt (n - j:Nat)) (W1 q))
    (hcpb: ∀ q ty dc,(Builtin.copy_ #[27,27] ty #[.slice (some ⟨g,i,none⟩) (i+m+(n - j) - i) dc,.slice (some a) m vc]).run Tryz.prog (W1 q)=.ok (goInt m) (W2 q)):
    Calls Tryz.prog 265 #[.slice (some ⟨g,0,none⟩) n c,.int .i64 i,.int .i64 j,.slice (some a) m vc] w (qal fun q en w' =>en=.returned (.slice (some ⟨g,0,none⟩) (i+m+(n - j)) c)∧w' =W2 q):=by
  have t0:=q2c
  have hz1:¬ ((i:Int)=(j:Int)):=by omega
  have hb6:j≤n:=by omega
  have hb7:(j:Int)≤(n:Int):=by omega
  have mixed:Tryz.prog.follows Departure.mixedOrders=true:=by kernel_rfl
  have hlen:IntKind.i64.wrap ((i:Int)+(m:Int))=(i:Int)+(m:Int):=by rw [IntKind.wrap_i64]; omega
  have hb1:(0:Int)≤(i:Int)+(m:Int):=by omega
  have htn:((i:Int)+(m:Int)).toNat=i+m:=by omega
  have hz2:¬ ((j:Int)=(n:Int)):=by omega
  have hci:¬ (c=i):=by omega
  have hcj:¬ (c=j):=by omega
  have hw0:IntKind.i64.wrap ((i:Int)+(m:Int)+((n - j:Nat):Int))=(i:Int)+(m:Int)+((n - j:Nat):Int):=by rw [IntKind.wrap_i64]; omega
  have hb3:(i:Int)+(m:Int)≤(i:Int)+(m:Int)+((n - j:Nat):Int):=by omega
  have hb4:(i:Int)≤(i:Int)+(m:Int)+((n - j:Nat):Int):=by omega
  have hcm:¬ (c=i+m):=by omega
  go_enter Tryz.func265,Tryz.ntmps265
  go_wp2_with fail
  go_quiet (fail)
  go_wp2_with (simp only [hov])
  go_region_law_o (fail)
  go_wp2
  go_ret
  exact ⟨_,rfl,rfl⟩
set_option maxHeartbeats 4000000 in
set_option maxRecDepth 100000 in
theorem qxe (g n c i j m vc:Nat)(a:Addr)(w:World)(W1 W2 W3:Nat→World)(hij:i<j)(hj:j<n)(hnc:n≤c)(hn:n≤1099511627776)(hc:c≤9223372036854775807)(hm:i+m<j)(hmb:m≤1099511627776)
    (hcpa: ∀ q ty dc,(Builtin.copy_ #[27,27] ty #[.slice (some ⟨g,i,none⟩) (i+m+(n - j) - i) dc,.slice (some a) m vc]).run Tryz.prog (w.drewN q)=.ok (goInt m) (W1 q))
    (hcpb: ∀ q ty dc sc,(Builtin.copy_ #[27,27] ty #[.slice (some ⟨g,i+m,none⟩) (n - j) dc,.slice (some ⟨g,j,none⟩) (n - j) sc]).run Tryz.prog (W1 q).drew=.ok (goInt (n - j:Nat)) (W2 q))
    (hk: ∀ q ty kc,(Builtin.clear_ #[27] ty #[.slice (some ⟨g,i+m+(n - j),none⟩) (n - (i+m+(n - j))) kc]).run Tryz.prog (W2 q)=.ok (.tuple #[]) (W3 q)):
    Calls Tryz.prog 265 #[.slice (some ⟨g,0,none⟩) n c,.int .i64 i,.int .i64 j,.slice (some a) m vc] w (qal fun q en w' =>en=.returned (.slice (some ⟨g,0,none⟩) (i+m+(n - j)) c)∧w' =W3 q):=by
  have t0:=q2c
  have hz1:¬ ((i:Int)=(j:Int)):=by omega
  have hb6:j≤n:=by omega
  have hb7:(j:Int)≤(n:Int):=by omega
  have mixed:Tryz.prog.follows Departure.mixedOrders=true:=by kernel_rfl
  have hlen:IntKind.i64.wrap ((i:Int)+(m:Int))=(i:Int)+(m:Int):=by rw [IntKind.wrap_i64]; omega
  have hb1:(0:Int)≤(i:Int)+(m:Int):=by omega
  have htn:((i:Int)+(m:Int)).toNat=i+m:=by omega
  have hz2:¬ ((j:Int)=(n:Int)):=by omega
  have hci:¬ (c=i):=by omega
  have hcj:¬ (c=j):=by omega
  have hw0:IntKind.i64.wrap ((i:Int)+(m:Int)+((n - j:Nat):Int))=(i:Int)+(m:Int)+((n - j:Nat):Int):=by rw [IntKind.wrap_i64]; omega
  have hb3:(i:Int)+(m:Int)≤(i:Int)+(m:Int)+((n - j:Nat):Int):=by omega
  have hb4:(i:Int)≤(i:Int)+(m:Int)+((n - j:Nat):Int):=by omega
  have hcm:¬ (c=i+m):=by omega
  have hct:¬ (c=i+m+(n - j)):=by omega
  have htt:((i:Int)+(m:Int)+((n - j:Nat):Int)).toNat=i+m+(n - j):=by omega
  have hb8:(i:Int)+(m:Int)+((n - j:Nat):Int)≤(n:Int):=by omega
  go_enter Tryz.func265,Tryz.ntmps265
  go_wp2_with fail
  go_quiet (fail)
  go_wp2
  go_region_law_o (fail)
  go_wp2
  go_ret
  exact ⟨_,rfl,rfl⟩
set_option maxHeartbeats 4000000 in
set_option maxRecDepth 100000 in
theorem qxg (g n c i j m vc N:Nat)(a:Addr)(w:World)(G:Nat→Nat)(W1 W2 W3:Nat→World)(hij:i<j)(hj:j<n)(hnc:n≤c)(hn:n≤1099511627776)(hc:c≤9223372036854775807)(hmb:m≤1099511627776)(hroom:c<i+m+(n - j))(hG: ∀ q,i+m+(n - j)≤G q)
    (hr: ∀ q,(Builtin.append_ #[27,3] 27 #[.slice (some ⟨g,0,none⟩) i c,.int .i64 ((i:Int)+(m:Int)+((n - j:Nat):Int) - (i:Int))]).run Tryz.prog (w.drewN q)=.ok (.slice (some ⟨N,0,none⟩) (i+m+(n - j)) (G q)) (W1 q))
    (hcpa: ∀ q ty dc,(Builtin.copy_ #[27,27] ty #[.slice (some ⟨N,i,none⟩) (i+m+(n - j) - i) dc,.slice (some a) m vc]).run Tryz.prog (W1 q)=.ok (goInt m) (W2 q))
    (hcpb: ∀ q ty dc sc,(Builtin.copy_ #[27,27] ty #[.slice (some ⟨N,i+m,none⟩) (n - j) dc,.slice (some ⟨g,j,none⟩) (n - j) sc]).run Tryz.prog (W2 q).drew=.ok (goInt (n - j:Nat)) (W3 q)):
    Calls Tryz.prog 265 #[.slice (some ⟨g,0,none⟩) n c,.int .i64 i,.int .i64 j,.slice (some a) m vc] w (qal fun q en w' =>en=.returned (.slice (some ⟨N,0,none⟩) (i+m+(n - j)) (G q))∧w' =W3 q):=by
  have t0:=q2c
  have hz1:¬ ((i:Int)=(j:Int)):=by omega
  have hb6:j≤n:=by omega
  have hb7:(j:Int)≤(n:Int):=by omega
  have mixed:Tryz.prog.follows Departure.mixedOrders=true:=by kernel_rfl
  have hlen:IntKind.i64.wrap ((i:Int)+(m:Int))=(i:Int)+(m:Int):=by rw [IntKind.wrap_i64]; omega
  have hb1:(0:Int)≤(i:Int)+(m:Int):=by omega
  have htn:((i:Int)+(m:Int)).toNat=i+m:=by omega
  have hz2:¬ ((j:Int)=(n:Int)):=by omega
  have hci:¬ (c=i):=by omega
  have hcj:¬ (c=j):=by omega
  have hw0:IntKind.i64.wrap ((i:Int)+(m:Int)+((n - j:Nat):Int))=(i:Int)+(m:Int)+((n - j:Nat):Int):=by rw [IntKind.wrap_i64]; omega
  have hb3:(i:Int)+(m:Int)≤(i:Int)+(m:Int)+((n - j:Nat):Int):=by omega
  have hb4:(i:Int)≤(i:Int)+(m:Int)+((n - j:Nat):Int):=by omega
  have hgi: ∀ q,¬ (G q=i):=fun q=>by have:=hG q; omega
  have hgm: ∀ q,¬ (G q=i+m):=fun q=>by have:=hG q; omega
  have hw2:IntKind.i64.wrap ((i:Int)+(m:Int)+((n - j:Nat):Int) - (i:Int))=(i:Int)+(m:Int)+((n - j:Nat):Int) - (i:Int):=by rw [IntKind.wrap_i64]; omega
  go_enter Tryz.func265,Tryz.ntmps265
  go_wp2_with fail
  go_quiet (fail)
  go_wp2_with (at_builtin; refine Lib.wpList_append_run _ rfl _ _ _ _ rfl _ _ rfl rfl _ _ (hr _) ?_)
  go_region_law_o (fail)
  go_wp2
  go_ret
  exact ⟨_,rfl,rfl⟩

theorem qo4:(Tryz.prog.info? 81).map (fun i=>(i.zero,i.size,i.bytes))=some (some (.agg #[.int .i64 0,.int .i64 0,.int .i64 0]),3,24):=by kernel_rfl
theorem q1n:(Tryz.prog.info? 81).map (·.size)=some 3:=by kernel_rfl
theorem q2b:Tryz.prog.underlying 24=some (.slice 81):=by kernel_rfl
theorem q1d: ∀ w,(Go.sizeOf 81).run Tryz.prog w=.ok 3 w:=fun w=>by
  obtain ⟨i0,hi,h0,h1,h2⟩:=info_parts qo4
  simp [Go.sizeOf,typeInfo,hi,h1]

set_option maxHeartbeats 4000000 in
set_option maxRecDepth 100000 in
theorem qw9 (g n c i j m vc c1:Nat)(a b1:Addr)(w w1:World)(hij:i<j)(hj:j=n)(hnc:n≤c)(hn:n≤1099511627776)(hc:c≤9223372036854775807)(hm:n≤i+m)(hmb:m≤1099511627776)
    (hr:(Builtin.append_ #[24,24] 24 #[.slice (some ⟨g,0,none⟩) i c,.slice (some a) m vc]).run Tryz.prog w=.ok (.slice (some b1) (i+m) c1) w1):
    Calls Tryz.prog 273 #[.slice (some ⟨g,0,none⟩) n c,.int .i64 i,.int .i64 j,.slice (some a) m vc] w fun en w' =>en=.returned (.slice (some b1) (i+m) c1)∧w' =w1:=by
  subst hj
  have t0:=q2b
  have hz1:¬ ((i:Int)=(j:Int)):=by omega
  have hb6:j≤j:=by omega
  have hb7:(j:Int)≤(j:Int):=by omega
  have mixed:Tryz.prog.follows Departure.mixedOrders=true:=by kernel_rfl
  have hlen:IntKind.i64.wrap ((i:Int)+(m:Int))=(i:Int)+(m:Int):=by rw [IntKind.wrap_i64]; omega
  have hb1:(0:Int)≤(i:Int)+(m:Int):=by omega
  have htn:((i:Int)+(m:Int)).toNat=i+m:=by omega
  have hb8:¬ ((i+m:Nat)<j):=by omega
  go_enter Tryz.func273,Tryz.ntmps273
  go_wp2_with (at_builtin; refine Lib.wpList_append_run _ rfl _ _ _ _ rfl _ _ rfl rfl _ _ hr ?_)
  go_ret
  exact ⟨rfl,rfl⟩
set_option maxHeartbeats 4000000 in
set_option maxRecDepth 100000 in
theorem qw7 (g n c i j m vc c1:Nat)(a b1:Addr)(w w1 w2:World)(hij:i<j)(hj:j=n)(hnc:n≤c)(hn:n≤1099511627776)(hc:c≤9223372036854775807)(hm:i+m<n)(hmb:m≤1099511627776)
    (hr:(Builtin.append_ #[24,24] 24 #[.slice (some ⟨g,0,none⟩) i c,.slice (some a) m vc]).run Tryz.prog w=.ok (.slice (some b1) (i+m) c1) w1)
    (hk: ∀ ty kc,(Builtin.clear_ #[24] ty #[.slice (some ⟨g,(i+m)*3,none⟩) (n - (i+m)) kc]).run Tryz.prog w1=.ok (.tuple #[]) w2):
    Calls Tryz.prog 273 #[.slice (some ⟨g,0,none⟩) n c,.int .i64 i,.int .i64 j,.slice (some a) m vc] w fun en w' =>en=.returned (.slice (some b1) (i+m) c1)∧w' =w2:=by
  subst hj
  have t0:=q2b
  have hz1:¬ ((i:Int)=(j:Int)):=by omega
  have hb6:j≤j:=by omega
  have hb7:(j:Int)≤(j:Int):=by omega
  have mixed:Tryz.prog.follows Departure.mixedOrders=true:=by kernel_rfl
  have hlen:IntKind.i64.wrap ((i:Int)+(m:Int))=(i:Int)+(m:Int):=by rw [IntKind.wrap_i64]; omega
  have hb1:(0:Int)≤(i:Int)+(m:Int):=by omega
  have htn:((i:Int)+(m:Int)).toNat=i+m:=by omega
  have hb8:(i+m:Nat)<j:=by omega
  have hb9:¬ (c=i+m):=by omega
  go_enter Tryz.func273,Tryz.ntmps273
  go_wp2_with (at_builtin; refine Lib.wpList_append_run _ rfl _ _ _ _ rfl _ _ rfl rfl _ _ hr ?_)
  go_ret
  exact ⟨rfl,rfl⟩
set_option maxHeartbeats 4000000 in
set_option maxRecDepth 100000 in
theorem qxh (g n c i j m vc:Nat)(a:Addr)(w:World)(W1 W2:Nat→World)(hij:i<j)(hj:j<n)(hnc:n≤c)(hn:n≤1099511627776)(hc:c≤9223372036854775807)(hm:j<i+m)(hmb:m≤1099511627776)(hroom:i+m+(n - j)≤c)
    (hov: ∀ q lb cb,(callFunc 283 #[.slice (some ⟨g,(i+m)*3,none⟩) lb cb,.slice (some a) m vc]).run Tryz.prog (w.drewN q)=.ok (.value (.bool false)) (w.drewN q))
    (hcpa: ∀ q ty dc sc,(Builtin.copy_ #[24,24] ty #[.slice (some ⟨g,(i+m)*3,none⟩) (n - j) dc,.slice (some ⟨g,(j)*3,none⟩) (n - j) sc]).run Tryz.prog (w.drewN q)=.ok (goInt (n - j:Nat)) (W1 q))
    (hcpb: ∀ q ty dc,(Builtin.copy_ #[24,24] ty #[.slice (some ⟨g,(i)*3,none⟩) (i+m+(n - j) - i) dc,.slice (some a) m vc]).run Tryz.prog (W1 q)=.ok (goInt m) (W2 q)):
    Calls Tryz.prog 273 #[.slice (some ⟨g,0,none⟩) n c,.int .i64 i,.int .i64 j,.slice (some a) m vc] w (qal fun q en w' =>en=.returned (.slice (some ⟨g,0,none⟩) (i+m+(n - j)) c)∧w' =W2 q):=by
  have t0:=q2b
  have hz1:¬ ((i:Int)=(j:Int)):=by omega
  have hb6:j≤n:=by omega
  have hb7:(j:Int)≤(n:Int):=by omega
  have mixed:Tryz.prog.follows Departure.mixedOrders=true:=by kernel_rfl
  have hlen:IntKind.i64.wrap ((i:Int)+(m:Int))=(i:Int)+(m:Int):=by rw [IntKind.wrap_i64]; omega
  have hb1:(0:Int)≤(i:Int)+(m:Int):=by omega
  have htn:((i:Int)+(m:Int)).toNat=i+m:=by omega
  have hz2:¬ ((j:Int)=(n:Int)):=by omega
  have hci:¬ (c=i):=by omega
  have hcj:¬ (c=j):=by omega
  have hw0:IntKind.i64.wrap ((i:Int)+(m:Int)+((n - j:Nat):Int))=(i:Int)+(m:Int)+((n - j:Nat):Int):=by rw [IntKind.wrap_i64]; omega
  have hb3:(i:Int)+(m:Int)≤(i:Int)+(m:Int)+((n - j:Nat):Int):=by omega
  have hb4:(i:Int)≤(i:Int)+(m:Int)+((n - j:Nat):Int):=by omega
  have hcm:¬ (c=i+m):=by omega
  go_enter Tryz.func273,Tryz.ntmps273
  go_wp2_with fail
  go_quiet (fail)
  go_wp2_with (simp only [hov])
  go_region_law_o (fail)
  go_wp2
  go_ret
  exact ⟨_,rfl,rfl⟩
set_option maxHeartbeats 4000000 in
set_option maxRecDepth 100000 in
theorem qxd (g n c i j m vc:Nat)(a:Addr)(w:World)(W1 W2 W3:Nat→World)(hij:i<j)(hj:j<n)(hnc:n≤c)(hn:n≤1099511627776)(hc:c≤9223372036854775807)(hm:i+m<j)(hmb:m≤1099511627776)
    (hcpa: ∀ q ty dc,(Builtin.copy_ #[24,24] ty #[.slice (some ⟨g,(i)*3,none⟩) (i+m+(n - j) - i) dc,.slice (some a) m vc]).run Tryz.prog (w.drewN q)=.ok (goInt m) (W1 q))
    (hcpb: ∀ q ty dc sc,(Builtin.copy_ #[24,24] ty #[.slice (some ⟨g,(i+m)*3,none⟩) (n - j) dc,.slice (some ⟨g,(j)*3,none⟩) (n - j) sc]).run Tryz.prog (W1 q).drew=.ok (goInt (n - j:Nat)) (W2 q))
    (hk: ∀ q ty kc,(Builtin.clear_ #[24] ty #[.slice (some ⟨g,(i+m+(n - j))*3,none⟩) (n - (i+m+(n - j))) kc]).run Tryz.prog (W2 q)=.ok (.tuple #[]) (W3 q)):
    Calls Tryz.prog 273 #[.slice (some ⟨g,0,none⟩) n c,.int .i64 i,.int .i64 j,.slice (some a) m vc] w (qal fun q en w' =>en=.returned (.slice (some ⟨g,0,none⟩) (i+m+(n - j)) c)∧w' =W3 q):=by
  have t0:=q2b
  have hz1:¬ ((i:Int)=(j:Int)):=by omega
  have hb6:j≤n:=by omega
  have hb7:(j:Int)≤(n:Int):=by omega
  have mixed:Tryz.prog.follows Departure.mixedOrders=true:=by kernel_rfl
  have hlen:IntKind.i64.wrap ((i:Int)+(m:Int))=(i:Int)+(m:Int):=by rw [IntKind.wrap_i64]; omega
  have hb1:(0:Int)≤(i:Int)+(m:Int):=by omega
  have htn:((i:Int)+(m:Int)).toNat=i+m:=by omega
  have hz2:¬ ((j:Int)=(n:Int)):=by omega
  have hci:¬ (c=i):=by omega
  have hcj:¬ (c=j):=by omega
  have hw0:IntKind.i64.wrap ((i:Int)+(m:Int)+((n - j:Nat):Int))=(i:Int)+(m:Int)+((n - j:Nat):Int):=by rw [IntKind.wrap_i64]; omega
  have hb3:(i:Int)+(m:Int)≤(i:Int)+(m:Int)+((n - j:Nat):Int):=by omega
  have hb4:(i:Int)≤(i:Int)+(m:Int)+((n - j:Nat):Int):=by omega
  have hcm:¬ (c=i+m):=by omega
  have hct:¬ (c=i+m+(n - j)):=by omega
  have htt:((i:Int)+(m:Int)+((n - j:Nat):Int)).toNat=i+m+(n - j):=by omega
  have hb8:(i:Int)+(m:Int)+((n - j:Nat):Int)≤(n:Int):=by omega
  go_enter Tryz.func273,Tryz.ntmps273
  go_wp2_with fail
  go_quiet (fail)
  go_wp2
  go_region_law_o (fail)
  go_wp2
  go_ret
  exact ⟨_,rfl,rfl⟩
set_option maxHeartbeats 4000000 in
set_option maxRecDepth 100000 in
theorem qxf (g n c i j m vc N:Nat)(a:Addr)(w:World)(G:Nat→Nat)(W1 W2 W3:Nat→World)(hij:i<j)(hj:j<n)(hnc:n≤c)(hn:n≤1099511627776)(hc:c≤9223372036854775807)(hmb:m≤1099511627776)(hroom:c<i+m+(n - j))(hG: ∀ q,i+m+(n - j)≤G q)
    (hr: ∀ q,(Builtin.append_ #[24,3] 24 #[.slice (some ⟨g,0,none⟩) i c,.int .i64 ((i:Int)+(m:Int)+((n - j:Nat):Int) - (i:Int))]).run Tryz.prog (w.drewN q)=.ok (.slice (some ⟨N,0,none⟩) (i+m+(n - j)) (G q)) (W1 q))
    (hcpa: ∀ q ty dc,(Builtin.copy_ #[24,24] ty #[.slice (some ⟨N,(i)*3,none⟩) (i+m+(n - j) - i) dc,.slice (some a) m vc]).run Tryz.prog (W1 q)=.ok (goInt m) (W2 q))
    (hcpb: ∀ q ty dc sc,(Builtin.copy_ #[24,24] ty #[.slice (some ⟨N,(i+m)*3,none⟩) (n - j) dc,.slice (some ⟨g,(j)*3,none⟩) (n - j) sc]).run Tryz.prog (W2 q).drew=.ok (goInt (n - j:Nat)) (W3 q)):
    Calls Tryz.prog 273 #[.slice (some ⟨g,0,none⟩) n c,.int .i64 i,.int .i64 j,.slice (some a) m vc] w (qal fun q en w' =>en=.returned (.slice (some ⟨N,0,none⟩) (i+m+(n - j)) (G q))∧w' =W3 q):=by
  have t0:=q2b
  have hz1:¬ ((i:Int)=(j:Int)):=by omega
  have hb6:j≤n:=by omega
  have hb7:(j:Int)≤(n:Int):=by omega
  have mixed:Tryz.prog.follows Departure.mixedOrders=true:=by kernel_rfl
  have hlen:IntKind.i64.wrap ((i:Int)+(m:Int))=(i:Int)+(m:Int):=by rw [IntKind.wrap_i64]; omega
  have hb1:(0:Int)≤(i:Int)+(m:Int):=by omega
  have htn:((i:Int)+(m:Int)).toNat=i+m:=by omega
  have hz2:¬ ((j:Int)=(n:Int)):=by omega
  have hci:¬ (c=i):=by omega
  have hcj:¬ (c=j):=by omega
  have hw0:IntKind.i64.wrap ((i:Int)+(m:Int)+((n - j:Nat):Int))=(i:Int)+(m:Int)+((n - j:Nat):Int):=by rw [IntKind.wrap_i64]; omega
  have hb3:(i:Int)+(m:Int)≤(i:Int)+(m:Int)+((n - j:Nat):Int):=by omega
  have hb4:(i:Int)≤(i:Int)+(m:Int)+((n - j:Nat):Int):=by omega
  have hgi: ∀ q,¬ (G q=i):=fun q=>by have:=hG q; omega
  have hgm: ∀ q,¬ (G q=i+m):=fun q=>by have:=hG q; omega
  have hw2:IntKind.i64.wrap ((i:Int)+(m:Int)+((n - j:Nat):Int) - (i:Int))=(i:Int)+(m:Int)+((n - j:Nat):Int) - (i:Int):=by rw [IntKind.wrap_i64]; omega
  go_enter Tryz.func273,Tryz.ntmps273
  go_wp2_with fail
  go_quiet (fail)
  go_wp2_with (at_builtin; refine Lib.wpList_append_run _ rfl _ _ _ _ rfl _ _ rfl rfl _ _ (hr _) ?_)
  go_region_law_o (fail)
  go_wp2
  go_ret
  exact ⟨_,rfl,rfl⟩
end Go.Proofs.YtjfjniebmdafeaaGreatDoor
end
