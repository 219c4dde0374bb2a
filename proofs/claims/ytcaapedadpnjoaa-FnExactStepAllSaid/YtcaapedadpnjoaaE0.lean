/- An evaluator of loaded functions over plain data (numbers, strings, lists, structs): definitions alone. -/
import GoSem.Core.Layout
import GoSem.Dispatch
namespace Go.Ev

/-- A value as the evaluator holds it: slices and pointers by the number of an entry of the evaluator's own list of variables and arrays. -/
inductive AV where
  | un
  | nils
  | int (k : IntKind) (n : Int)
  | bool (b : Bool)
  | str (s : ByteArray)
  | sl (id : Nat) (w : Option (Nat × Nat))
  | ptr (id i o : Nat)
  | agg (cs : List AV)
  | tup (cs : List AV)
  | fn (f : Nat) (cs : List AV)
  | mp (id : Nat)
  deriving Inhabited

inductive Arr where
  | ints (k : IntKind) (l : List Int)
  | bools (l : List Bool)
  | strs (l : List ByteArray)
  | r3 (l : List (Int × Int × Int))
  | r4 (l : List (Int × Int × Int × Int))
  deriving Inhabited

/-- columns of a list of records: a number, a list of numbers, a list of threes -/
inductive RK where
  | n | is | r3
  deriving DecidableEq
inductive RC where
  | n (n : Int)
  | is (nil : Bool) (l : List Int)
  | r3 (nil : Bool) (l : List (Int × Int × Int))
  deriving Inhabited
def RC.num : RC → Int | .n x => x | _ => 0
def RC.nil : RC → Bool | .is b _ => b | .r3 b _ => b | _ => false
def RC.ints : RC → List Int | .is _ l => l | _ => []
def RC.r3s : RC → List (Int × Int × Int) | .r3 _ l => l | _ => []
def rcAt (r : List RC) (c : Nat) : RC := r.getD c (.n 0)
def rrow (l : List (List RC)) (i : Nat) : List RC := l.getD i []

inductive D where
  | int (k : IntKind) (n : Int)
  | bool (b : Bool)
  | str (s : ByteArray)
  | arr (own nil : Bool) (a : Arr)
  | agg (l : List D)
  | ptr (own : Bool) (l : List D)
  | fn (f : Nat) (l : List D)
  | rows (nil : Bool) (z : List RK) (l : List (List RC))
  deriving Inhabited

inductive Ent where
  | dead
  | box (own : Bool) (cs : List AV)
  | arr (own nil : Bool) (a : Arr)
  | mp (l : List (Int × Int × Int))
  | parts (o n i1 i2 i3 : Nat)
  | rows (own nil : Bool) (z : List RK) (l : List (List RC))
  deriving Inhabited

inductive ETy where
  | int (k : IntKind) | bool | str | r3 | r4 | other | rows (z : List RK)
  deriving DecidableEq

inductive CTy where
  | int (k : IntKind) | bool | str | sl (e : ETy) | ptr | fn | other
  deriving DecidableEq

/-! arrays -/
def Arr.len : Arr → Nat
  | .ints _ l => l.length
  | .bools l => l.length
  | .strs l => l.length
  | .r3 l => l.length
  | .r4 l => l.length
def Arr.size : Arr → Nat
  | .r3 _ => 3
  | .r4 _ => 4
  | _ => 1
def Arr.sub (o n : Nat) : Arr → Arr
  | .ints k l => .ints k ((l.drop o).take n)
  | .bools l => .bools ((l.drop o).take n)
  | .strs l => .strs ((l.drop o).take n)
  | .r3 l => .r3 ((l.drop o).take n)
  | .r4 l => .r4 ((l.drop o).take n)
def Arr.app : Arr → Arr → Option Arr
  | .ints k l, .ints k' m => if k = k' then some (.ints k (l ++ m)) else none
  | .bools l, .bools m => some (.bools (l ++ m))
  | .strs l, .strs m => some (.strs (l ++ m))
  | .r3 l, .r3 m => some (.r3 (l ++ m))
  | .r4 l, .r4 m => some (.r4 (l ++ m))
  | _, _ => none
def Arr.get (i : Nat) : Arr → List AV
  | .ints k l => [.int k (l.getD i 0)]
  | .bools l => [.bool (l.getD i false)]
  | .strs l => [.str (l.getD i .empty)]
  | .r3 l => [.int .i64 (l.getD i (0, 0, 0)).1, .int .i64 (l.getD i (0, 0, 0)).2.1, .int .i64 (l.getD i (0, 0, 0)).2.2]
  | .r4 l => [.int .i64 (l.getD i (0, 0, 0, 0)).1, .int .i64 (l.getD i (0, 0, 0, 0)).2.1, .int .i64 (l.getD i (0, 0, 0, 0)).2.2.1, .int .i64 (l.getD i (0, 0, 0, 0)).2.2.2]
/-- cells 'o ..' of element i become cs -/
def Arr.set (i o : Nat) (cs : List AV) : Arr → Option Arr
  | .ints k l => match o, cs with
    | 0, [.int k' n] => if k = k' then some (.ints k (l.set i n)) else none
    | _, _ => none
  | .bools l => match o, cs with
    | 0, [.bool b] => some (.bools (l.set i b))
    | _, _ => none
  | .strs l => match o, cs with
    | 0, [.str s] => some (.strs (l.set i s))
    | _, _ => none
  | .r3 l => match o, cs with
    | 0, [.int .i64 a, .int .i64 b, .int .i64 c] => some (.r3 (l.set i (a, b, c)))
    | 0, [.int .i64 a] => some (.r3 (l.set i (a, (l.getD i (0, 0, 0)).2.1, (l.getD i (0, 0, 0)).2.2)))
    | 1, [.int .i64 b] => some (.r3 (l.set i ((l.getD i (0, 0, 0)).1, b, (l.getD i (0, 0, 0)).2.2)))
    | 2, [.int .i64 c] => some (.r3 (l.set i ((l.getD i (0, 0, 0)).1, (l.getD i (0, 0, 0)).2.1, c)))
    | _, _ => none
  | .r4 l => match o, cs with
    | 0, [.int .i64 a, .int .i64 b, .int .i64 c, .int .i64 d] => some (.r4 (l.set i (a, b, c, d)))
    | 0, [.int .i64 a] => some (.r4 (l.set i (a, (l.getD i (0, 0, 0, 0)).2.1, (l.getD i (0, 0, 0, 0)).2.2.1, (l.getD i (0, 0, 0, 0)).2.2.2)))
    | 1, [.int .i64 b] => some (.r4 (l.set i ((l.getD i (0, 0, 0, 0)).1, b, (l.getD i (0, 0, 0, 0)).2.2.1, (l.getD i (0, 0, 0, 0)).2.2.2)))
    | 2, [.int .i64 c] => some (.r4 (l.set i ((l.getD i (0, 0, 0, 0)).1, (l.getD i (0, 0, 0, 0)).2.1, c, (l.getD i (0, 0, 0, 0)).2.2.2)))
    | 3, [.int .i64 d] => some (.r4 (l.set i ((l.getD i (0, 0, 0, 0)).1, (l.getD i (0, 0, 0, 0)).2.1, (l.getD i (0, 0, 0, 0)).2.2.1, d)))
    | _, _ => none
def ETy.arr : ETy → Option Arr
  | .int k => some (.ints k [])
  | .bool => some (.bools [])
  | .str => some (.strs [])
  | .r3 => some (.r3 [])
  | .r4 => some (.r4 [])
  | .other => none
  | .rows _ => none
def ETy.zeros (n : Nat) : ETy → Option Arr
  | .int k => some (.ints k (List.replicate n 0))
  | .bool => some (.bools (List.replicate n false))
  | .str => some (.strs (List.replicate n .empty))
  | .r3 => some (.r3 (List.replicate n (0, 0, 0)))
  | .r4 => some (.r4 (List.replicate n (0, 0, 0, 0)))
  | .other => none
  | .rows _ => none
/-- an array out of its elements' cells -/
def ETy.of : ETy → List (List AV) → Option Arr
  | e, [] => e.arr
  | e, c :: cs => match e.of cs, c with
    | some (.ints k l), [.int k' n] => if k = k' then some (.ints k (n :: l)) else none
    | some (.bools l), [.bool b] => some (.bools (b :: l))
    | some (.strs l), [.str s] => some (.strs (s :: l))
    | some (.r3 l), [.int .i64 a, .int .i64 b, .int .i64 c] => some (.r3 ((a, b, c) :: l))
    | some (.r4 l), [.int .i64 a, .int .i64 b, .int .i64 c, .int .i64 d] => some (.r4 ((a, b, c, d) :: l))
    | _, _ => none

/-! data: what can be read off -/
def D.toInt : D → Int | .int _ n => n | _ => 0
def D.toBool : D → Bool | .bool b => b | _ => false
def D.toStr : D → ByteArray | .str s => s | _ => .empty
def D.nil : D → Bool | .arr _ b _ => b | _ => false
def D.ints : D → List Int | .arr _ _ (.ints _ l) => l | _ => []
def D.bools : D → List Bool | .arr _ _ (.bools l) => l | _ => []
def D.strs : D → List ByteArray | .arr _ _ (.strs l) => l | _ => []
def D.r3 : D → List (Int × Int × Int) | .arr _ _ (.r3 l) => l | _ => []
def D.r4 : D → List (Int × Int × Int × Int) | .arr _ _ (.r4 l) => l | _ => []
def D.rws : D → List (List RC) | .rows _ _ l => l | _ => []
def D.cell (j : Nat) : D → D
  | .agg l => l.getD j (.bool false)
  | .ptr _ l => l.getD j (.bool false)
  | .fn _ l => l.getD j (.bool false)
  | _ => .bool false
def nth (rs : List D) (i : Nat) : D := rs.getD i (.bool false)
/-- the array of the same kind with the contents of d -/
def Arr.like (d : D) : Arr → Arr
  | .ints k _ => .ints k d.ints
  | .bools _ => .bools d.bools
  | .strs _ => .strs d.strs
  | .r3 _ => .r3 d.r3
  | .r4 _ => .r4 d.r4
def ETy.like (d : D) (e : ETy) : Arr := ((e.arr).map (·.like d)).getD (.bools [])

/-! types -/
def under (P : Program) (t : TypeId) : TypeDesc := (P.underlying t).getD .invalid
def CTy.rk : CTy → Option RK
  | .int .i64 => some .n
  | .sl (.int .i64) => some .is
  | .sl .r3 => some .r3
  | _ => none
def rks : List CTy → Option (List RK)
  | [] => some []
  | c :: cs => match c.rk, rks cs with
    | some k, some ks => some (k :: ks)
    | _, _ => none
/-- the kinds of a type's cells -/
def ctyN (P : Program) : Nat → TypeId → List CTy
  | 0, _ => [.other]
  | n + 1, t => match under P t with
    | .int k => [.int k]
    | .bool => [.bool]
    | .string => [.str]
    | .pointer _ => [.ptr]
    | .func _ _ _ => [.fn]
    | .slice e => match under P e, ctyN P n e with
      | .struct _, [.int .i64, .int .i64, .int .i64] => [.sl .r3]
      | .struct _, [.int .i64, .int .i64, .int .i64, .int .i64] => [.sl .r4]
      | .int k, _ => [.sl (.int k)]
      | .bool, _ => [.sl .bool]
      | .string, _ => [.sl .str]
      | .struct _, cs => match rks cs with
        | some (k :: z) => [.sl (.rows (k :: z))]
        | _ => [.sl .other]
      | _, _ => [.sl .other]
    | .struct fs => fs.toList.flatMap fun f => ctyN P n f.type
    | _ => [.other]
def cty (P : Program) (t : TypeId) : List CTy := ctyN P 8 t
def isAggD : TypeDesc → Bool
  | .struct _ => true
  | .array _ _ => true
  | _ => false
def isAggT (P : Program) (t : TypeId) : Bool := isAggD (under P t)
def known (P : Program) (t : TypeId) : Bool := match under P t with
  | .invalid => false
  | _ => true
/-- what an array of this element type must bear -/
def elemOk (P : Program) (e : TypeId) (size : Nat) : Bool := match P.info? e with
  | some i => match i.zero with
    | some z => z.cells.size == i.size && i.size == size && decide (i.bytes ≤ 64)
    | none => false
  | none => false
def elemOkR (P : Program) (e : TypeId) (size : Nat) : Bool := match P.info? e with
  | some i => match i.zero with
    | some z => z.cells.size == i.size && (i.size == size && (decide (0 < size) && decide (i.bytes ≤ 1024)))
    | none => false
  | none => false
def elemTy (P : Program) (t : TypeId) : ETy := match cty P t with
  | [.sl e] => e
  | _ => .other
def elemId (P : Program) (t : TypeId) : TypeId := match under P t with
  | .slice e => e
  | _ => 0
def fieldOf (P : Program) (s : TypeId) (f : Nat) : Option Field := match under P s with
  | .struct fs => fs[f]?
  | _ => none

/-! what one operation asks of the entries -/
inductive Prog (α : Type) where
  | ret (a : α)
  | rd (id : Nat) (k : Ent → Prog α)
  | wr (id : Nat) (e : Ent) (k : Prog α)
  | new (e : Ent) (k : Nat → Prog α)
  | chk (c : Bool) (k : Prog α)
  | br (c : Bool) (k₁ k₂ : Prog α)
  | call (f : Nat) (ds : List D) (k : List D → Prog α)
  | fail

def ent (h : List Ent) (id : Nat) : Ent := h.getD id .dead

def runP {α ω : Type} (cal : Nat → List D → Option (List D)) : Prog α → List Ent → List Nat → List Nat → (α → List Ent → List Nat → List Nat → Option ω) → Option ω
  | .ret a, h, R, W, K => K a h R W
  | .rd id k, h, R, W, K => runP cal (k (ent h id)) h (id :: R) W K
  | .wr id e k, h, R, W, K => match ent h id with
    | .dead => none
    | .box _ _ => runP cal k (h.set id e) R (id :: W) K
    | .arr _ _ _ => runP cal k (h.set id e) R (id :: W) K
    | .mp _ => runP cal k (h.set id e) R (id :: W) K
    | .parts _ _ _ _ _ => runP cal k (h.set id e) R (id :: W) K
    | .rows _ _ _ _ => runP cal k (h.set id e) R (id :: W) K
  | .new e k, h, R, W, K => runP cal (k h.length) (h ++ [e]) R (h.length :: W) K
  | .chk c k, h, R, W, K => cond c (runP cal k h R W K) none
  | .br c k₁ k₂, h, R, W, K => cond c (runP cal k₁ h R W K) (runP cal k₂ h R W K)
  | .call f ds k, h, R, W, K => (cal f ds).bind fun r => runP cal (k r) h R W K
  | .fail, _, _, _, _ => none

/-! operands -/
def constAV : Value → AV
  | .int k n => .int k n
  | .bool b => .bool b
  | .string s => .str s
  | .slice none 0 0 => .nils
  | _ => .un
def opd (fr : List AV) : Operand → AV
  | .tmp t => fr.getD t .un
  | .const v => constAV v
  | .func f => .fn f []
  | .global _ => .un
/-- a literal nil becomes an entry of its type -/
def fixNil {α : Type} (e : CTy) (v : AV) (K : AV → Prog α) : Prog α :=
  match v with
  | .nils => match e with
    | .sl (.rows z) => .new (.rows true true z []) fun id => K (.sl id none)
    | .sl e => match e.arr with
      | some a => .new (.arr true true a) fun id => K (.sl id none)
      | none => .fail
    | _ => .fail
  | v => K v
def fixT {α : Type} (P : Program) (t : TypeId) (v : AV) (K : AV → Prog α) : Prog α :=
  match v with
  | .nils => match cty P t with
    | [c] => fixNil c .nils K
    | _ => .fail
  | v => K v
def fixs {α : Type} : List CTy → List AV → (List AV → Prog α) → Prog α
  | c :: cs, v :: vs, K => fixNil c v fun v => fixs cs vs fun vs => K (v :: vs)
  | _, [], K => K []
  | [], _ :: _, _ => .fail
def AV.cells : AV → List AV
  | .agg cs => cs
  | v => [v]
def zeroCells (P : Program) (t : TypeId) : Option (List AV) := ((P.info? t).bind (·.zero)).map fun z => z.cells.toList.map constAV

/-! reading data off -/
/-- the entries that were met, and whether they may be turned -/
abbrev Met := List (Nat × Bool)
mutual
def gcell0 {α : Type} (m : Bool) : AV → Met → (D → Met → Prog α) → Prog α
  | .int k n, q, K => K (.int k n) q
  | .bool b, q, K => K (.bool b) q
  | .str s, q, K => K (.str s) q
  | .sl id w, q, K => .rd id fun e => match e with
    | .arr own nil a => match w with
      | none => K (.arr (m && own) nil a) (q ++ [(id, m && own)])
      | some (o, n) => if m then .fail else K (.arr false nil (a.sub o n)) (q ++ [(id, false)])
    | .rows _ nil z l => match w with
      | none => if m then .fail else K (.rows nil z l) (q ++ [(id, false), (id, false)])
      | some _ => .fail
    | _ => .fail
  | .agg cs, q, K => gcells0 m cs q fun l q => K (.agg l) q
  | .fn f cs, q, K => gcells0 m cs q fun l q => K (.fn f l) q
  | _, _, _ => .fail
def gcells0 {α : Type} (m : Bool) : List AV → Met → (List D → Met → Prog α) → Prog α
  | [], q, K => K [] q
  | c :: cs, q, K => gcell0 m c q fun d q => gcells0 m cs q fun l q => K (d :: l) q
end
mutual
def gcell {α : Type} (m : Bool) (n : Option Nat) : AV → Met → (D → Met → Prog α) → Prog α
  | .ptr id i o, q, K => .rd id fun e => match i, e with
    | 0, .box own cs => .chk (!m || (Nat.beq o 0 && Nat.ble cs.length (n.getD cs.length))) <| gcells0 m ((cs.drop o).take (n.getD cs.length)) q fun l q => K (.ptr (m && own) l) (q ++ [(id, m && own)])
    | _, _ => .fail
  | .fn f cs, q, K => gcells m cs q fun l q => K (.fn f l) q
  | .agg cs, q, K => gcells m cs q fun l q => K (.agg l) q
  | v, q, K => gcell0 m v q K
def gcells {α : Type} (m : Bool) : List AV → Met → (List D → Met → Prog α) → Prog α
  | [], q, K => K [] q
  | c :: cs, q, K => gcell m none c q fun d q => gcells m cs q fun l q => K (d :: l) q
end
/-- the arguments of a call: 'ms' tells which may be turned, 'ns' how many cells lie behind a pointer -/
def gargs {α : Type} : List Bool → List (Option Nat) → List AV → Met → (List D → Met → Prog α) → Prog α
  | _, _, [], q, K => K [] q
  | ms, ns, c :: cs, q, K => gcell (ms.headD false) (ns.headD none) c q fun d q => gargs ms.tail ns.tail cs q fun l q => K (d :: l) q
/-- nothing that may be turned was met twice -/
def sepIds : Met → Bool
  | [] => true
  | (i, b) :: l => l.all (fun q => !(Nat.beq q.1 i) || !(b || q.2)) && sepIds l

/-! results back into values -/
def wrapC {α : Type} (c : CTy) (d : D) (K : AV → Prog α) : Prog α :=
  match c with
  | .int k => K (.int k d.toInt)
  | .bool => K (.bool d.toBool)
  | .str => K (.str d.toStr)
  | .sl e => .new (.arr true d.nil (e.like d)) fun id => K (.sl id none)
  | _ => .fail
def wrapCs {α : Type} : List CTy → D → Nat → (List AV → Prog α) → Prog α
  | [], _, _, K => K []
  | c :: cs, d, j, K => wrapC c (d.cell j) fun v => wrapCs cs d (j + 1) fun vs => K (v :: vs)
def wrapT {α : Type} (P : Program) (t : TypeId) (d : D) (K : AV → Prog α) : Prog α :=
  if isAggT P t then wrapCs (cty P t) d 0 fun vs => K (.agg vs)
  else match cty P t with
    | [c] => wrapC c d K
    | _ => .fail
def wrapTs {α : Type} (P : Program) (rs : List D) : List TypeId → Nat → (List AV → Prog α) → Prog α
  | [], _, K => K []
  | t :: ts, j, K => wrapT P t (nth rs j) fun v => wrapTs P rs ts (j + 1) fun vs => K (v :: vs)
/-- a variable's cell behind a call that may have turned it -/
def scatC {α : Type} (v : AV) (d : D) (K : AV → Prog α) : Prog α :=
  match v with
  | .int k _ => K (.int k d.toInt)
  | .bool _ => K (.bool d.toBool)
  | .str _ => K (.str d.toStr)
  | .sl id none => .rd id fun e => match e with
    | .arr true _ a => .wr id .dead (.new (.arr true d.nil (a.like d)) fun id' => K (.sl id' none))
    | .arr false _ _ => K (.sl id none)
    | _ => .fail
  | _ => .fail
def scatCs {α : Type} : List AV → D → Nat → (List AV → Prog α) → Prog α
  | [], _, _, K => K []
  | c :: cs, d, j, K => scatC c (d.cell j) fun v => scatCs cs d (j + 1) fun vs => K (v :: vs)
mutual
def scat {α : Type} : AV → D → Prog α → Prog α
  | .sl id none, d, K => .rd id fun e => match e with
    | .arr true nil a => .wr id (.arr true nil (a.like d)) K
    | .arr false _ _ => K
    | _ => .fail
  | .ptr id _ _, d, K => .rd id fun e => match e with
    | .box true cs => scatCs cs d 0 fun vs => .wr id (.box true vs) K
    | _ => .fail
  | .fn _ cs, d, K => scats cs d 0 K
  | .sl _ (some _), _, _ => .fail
  | .agg cs, d, K => scats cs d 0 K
  | _, _, K => K
def scats {α : Type} : List AV → D → Nat → Prog α → Prog α
  | [], _, _, K => K
  | c :: cs, d, j, K => scat c (d.cell j) (scats cs d (j + 1) K)
end
mutual
/-- what was given away is no longer held -/
def dropV {α : Type} : AV → Prog α → Prog α
  | .sl id none, K => .rd id fun e => match e with
    | .arr true _ _ => .wr id .dead K
    | _ => K
  | .agg cs, K => dropVs cs K
  | .int _ _, K => K
  | .bool _, K => K
  | .str _, K => K
  | _, _ => .fail
def dropVs {α : Type} : List AV → Prog α → Prog α
  | [], K => K
  | c :: cs, K => dropV c (dropVs cs K)
end
/-- the values behind a call: turned arguments come back, given ones are gone -/
def scatArgs {α : Type} (rs : List D) : List Bool → List Bool → List AV → Nat → Prog α → Prog α
  | _, _, [], _, K => K
  | ms, gs, c :: cs, j, K => if ms.headD false then scat c (nth rs j) (scatArgs rs ms.tail gs.tail cs (j + 1) K) else
      if gs.headD false then dropV c (scatArgs rs ms.tail gs.tail cs j K) else scatArgs rs ms.tail gs.tail cs j K
def orL : List Bool → List Bool → List Bool
  | [], gs => gs
  | ms, [] => ms
  | m :: ms, g :: gs => (m || g) :: orL ms gs

structure Ann where
  keep : Nat → Nat → Option (List Nat)
  mode : Nat → List Bool
  inl : Nat → Bool
  ext : Nat → Option (List D → Option (List D))
  give : Nat → List Bool

def ptrCells (P : Program) (t : TypeId) : Option Nat := match under P t with
  | .pointer e => some (P.cellsOf e)
  | _ => none
def retV : List AV → AV
  | [v] => v
  | vs => .tup vs
def callK (P : Program) (A : Ann) (f : Nat) (vs : List AV) (K : AV → Prog AV) : Prog AV :=
  match P.funcs[f]? with
  | none => .fail
  | some fn =>
    gargs (orL (A.mode f) (A.give f)) (fn.params.toList.map (ptrCells P)) vs [] fun ds q =>
    .chk (sepIds q) <| .call f ds fun rs =>
    wrapTs P rs fn.resultTypes.toList 0 fun out =>
    scatArgs rs (A.mode f) (A.give f) vs fn.resultTypes.size (K (retV out))
/-- in which part of a variable some cells lie -/
def findPart (o n i1 i2 i3 o1 n1 : Nat) : Option (Nat × Nat) := cond (Nat.ble (o1 + n1) o) (some (0, i1)) (cond (Nat.ble o o1 && Nat.ble (o1 + n1) (o + n)) (some (o, i2)) (cond (Nat.ble (o + n) o1) (some (o + n, i3)) none))
/-- a part of a variable is lent to a call as a variable of its own, and joined again behind it -/
def joinP (id i2 i3 o n : Nat) (k : Prog AV) : Prog AV :=
  .rd id fun e1 => .rd i2 fun e2 => .rd i3 fun e3 => match e1, e2, e3 with
    | .box true c1, .box true c2, .box true c3 => .chk (Nat.beq c1.length o && Nat.beq c2.length n) <| .wr i2 .dead <| .wr i3 .dead <| .wr id (.box true (c1 ++ (c2 ++ c3))) k
    | _, _, _ => .fail
def lendGo (P : Program) (A : Ann) (f : Nat) : List AV → List Bool → List (Option Nat) → List AV → (AV → Prog AV) → Prog AV
  | [], _, _, done, K => callK P A f done K
  | v :: rest, ms, ns, done, K => match v, ms.headD false, ns.headD none with
    | .ptr id 0 o, true, some n => .rd id fun e => match e with
      | .box true cs => cond (Nat.beq o 0 && Nat.ble cs.length n) (lendGo P A f rest ms.tail ns.tail (done ++ [.ptr id 0 o]) K)
          (.chk (Nat.ble (o + n) cs.length) <| .wr id (.box true (cs.take o)) <| .new (.box true ((cs.drop o).take n)) fun i2 => .new (.box true (cs.drop (o + n))) fun i3 =>
            lendGo P A f rest ms.tail ns.tail (done ++ [.ptr i2 0 0]) fun v => joinP id i2 i3 o n (K v))
      | .parts o0 n0 i1 i2 i3 => match findPart o0 n0 i1 i2 i3 o n with
        | some (o', j) => cond (Nat.beq o o') (lendGo P A f rest ms.tail ns.tail (done ++ [.ptr j 0 0]) K) (lendGo P A f rest ms.tail ns.tail (done ++ [.ptr id 0 o]) K)
        | none => lendGo P A f rest ms.tail ns.tail (done ++ [.ptr id 0 o]) K
      | _ => lendGo P A f rest ms.tail ns.tail (done ++ [.ptr id 0 o]) K
    | v, _, _ => lendGo P A f rest ms.tail ns.tail (done ++ [v]) K
def callP (P : Program) (A : Ann) (f : Nat) (vs : List AV) : Prog AV :=
  match P.funcs[f]? with
  | none => .fail
  | some fn => lendGo P A f vs (A.mode f) (fn.params.toList.map (ptrCells P)) [] .ret

/-! numbers -/
def shiftN (k : IntKind) (y : Int) : Nat := min y.toNat k.bits
def bitN (op : BinOp) (k : IntKind) (x y : Int) : Int :=
  let a := BitVec.ofInt k.bits x
  let b := BitVec.ofInt k.bits y
  match op with
  | .and => k.wrap (a &&& b).toNat
  | .or => k.wrap (a ||| b).toNat
  | .xor => k.wrap (a ^^^ b).toNat
  | _ => k.wrap (a &&& ~~~b).toNat
def intOp {α : Type} (op : BinOp) (k : IntKind) (x y : Int) (K : AV → Prog α) : Prog α :=
  match op with
  | .add => K (.int k (k.wrap (x + y)))
  | .sub => K (.int k (k.wrap (x - y)))
  | .mul => K (.int k (k.wrap (x * y)))
  | .quo => .chk (!decide (y = 0)) (K (.int k (k.wrap (x.tdiv y))))
  | .rem => .chk (!decide (y = 0)) (K (.int k (x.tmod y)))
  | .and => K (.int k (bitN .and k x y))
  | .or => K (.int k (bitN .or k x y))
  | .xor => K (.int k (bitN .xor k x y))
  | .andNot => K (.int k (bitN .andNot k x y))
  | .eql => K (.bool (decide (x = y)))
  | .neq => K (.bool (!decide (x = y)))
  | .lss => K (.bool (decide (x < y)))
  | .leq => K (.bool (decide (x ≤ y)))
  | .gtr => K (.bool (decide (y < x)))
  | .geq => K (.bool (decide (y ≤ x)))
  | .shl => .chk (decide (0 ≤ y)) (K (.int k (k.wrap (x * 2 ^ shiftN k y))))
  | .shr => .chk (decide (0 ≤ y)) (K (.int k (x.fdiv (2 ^ shiftN k y))))
/-- '==' of two values of type t, cell by cell -/
def eqD (P : Program) : Nat → TypeId → List AV → List AV → Option Bool
  | 0, _, _, _ => none
  | n + 1, t, xs, ys => match under P t with
    | .int _ => match xs, ys with
      | [.int k a], [.int k' b] => if k = k' then some (decide (a = b)) else none
      | _, _ => none
    | .bool => match xs, ys with
      | [.bool a], [.bool b] => some (a == b)
      | _, _ => none
    | .string => match xs, ys with
      | [.str a], [.str b] => some (decide (a = b))
      | _, _ => none
    | .struct fs => if P.stoodInHeld t then none else
      fs.toList.foldr (init := some true) fun f acc => if f.name = "_" then acc else
        match eqD P n f.type ((xs.drop f.offset).take (P.cellsOf f.type)) ((ys.drop f.offset).take (P.cellsOf f.type)), acc with
        | some b, some c => some (b && c)
        | _, _ => none
    | _ => none
def binP (P : Program) (t : TypeId) (op : BinOp) (x y : AV) : Prog AV :=
  match x, y with
  | .int k a, .int k' b => match op with
    | .shl => intOp .shl k a b .ret
    | .shr => intOp .shr k a b .ret
    | op => if k = k' then intOp op k a b .ret else .fail
  | .bool a, .bool b => match under P t, op with
    | .bool, .eql => .ret (.bool (a == b))
    | .bool, .neq => .ret (.bool (!(a == b)))
    | _, _ => .fail
  | .str a, .str b => match op with
    | .add => .chk (decide (a.size + b.size ≤ 4611686018427387904)) (.ret (.str (a ++ b)))
    | .eql => .ret (.bool (decide (a = b)))
    | .neq => .ret (.bool (!decide (a = b)))
    | _ => .fail
  | .agg a, .agg b => .chk (isAggT P t && !P.eqGuardType P.depth t) (match op, eqD P 8 t a b with
    | .eql, some c => .ret (.bool c)
    | .neq, some c => .ret (.bool (!c))
    | _, _ => .fail)
  | .sl id none, .nils => .rd id fun e => match e, under P t, op with
    | .arr _ nil _, .slice _, .eql => .ret (.bool nil)
    | .arr _ nil _, .slice _, .neq => .ret (.bool (!nil))
    | _, _, _ => .fail
  | _, _ => .fail
def unP (op : UnOp) (x : AV) : Prog AV :=
  match op, x with
  | .neg, .int k n => .ret (.int k (k.wrap (0 - n)))
  | .not, .bool b => .ret (.bool (!b))
  | _, _ => .fail

/-! strings and bytes -/
def bytesL (s : ByteArray) : List Int := s.data.toList.map fun b => (b.toNat : Int)
def strL (l : List Int) : ByteArray := ⟨(l.map fun n => UInt8.ofNat n.toNat).toArray⟩
def strAt (s : ByteArray) (i : Nat) : Int := ((s.data.toList.getD i 0).toNat : Int)
def convP (P : Program) (src dst : TypeId) (x : AV) : Prog AV :=
  match under P src, under P dst, x with
  | .int _, .int k, .int _ n => .ret (.int k (k.wrap n))
  | .string, .string, .str s => .ret (.str s)
  | .string, .slice e, .str s => match under P e with
    | .int .u8 => .new (.arr false false (.ints .u8 (bytesL s))) fun id => .ret (.sl id none)
    | _ => .fail
  | .slice e, .string, .sl id w => match under P e with
    | .int .u8 => .rd id fun en => match en with
      | .arr _ _ a => match w with
        | none => match a with
          | .ints .u8 l => .ret (.str (strL l))
          | _ => .fail
        | some (o, n) => match a with
          | .ints .u8 l => .ret (.str (strL ((l.drop o).take n)))
          | _ => .fail
      | _ => .fail
    | _ => .fail
  | _, _, _ => .fail

/-! slices -/
def lenW (w : Option (Nat × Nat)) (a : Arr) : Nat := match w with
  | none => a.len
  | some (_, n) => n
def offW (w : Option (Nat × Nat)) : Nat := match w with
  | none => 0
  | some (o, _) => o
def idxW (w : Option (Nat × Nat)) (m : Nat) : Nat := match w with
  | none => m
  | some (o, _) => o + m
theorem idxW_eq (w : Option (Nat × Nat)) (m : Nat) : idxW w m = offW w + m := by cases w <;> simp [idxW, offW]
def optI : Option AV → Int → Option Int
  | none, d => some d
  | some (.int _ n), _ => some n
  | _, _ => none
def sliceP (P : Program) (t : TypeId) (x : AV) (lo hi mx : Option AV) : Prog AV :=
  match mx with
  | some _ => .fail
  | none => match under P t, x with
    | .string, .str s => match optI lo 0, optI hi s.size with
      | some l, some h => .chk (decide (0 ≤ l) && decide (l ≤ h) && decide (h ≤ s.size)) (.ret (.str (s.extract l.toNat h.toNat)))
      | _, _ => .fail
    | .slice el, .sl id w => .rd id fun e => match e with
      | .arr _ _ a => .chk (Nat.beq a.size (P.cellsOf el)) (match optI lo 0, optI hi (lenW w a) with
        | some l, some h => .chk (decide (0 ≤ l) && decide (l ≤ h) && decide (h ≤ lenW w a)) (.ret (.sl id (some (offW w + l.toNat, h.toNat - l.toNat))))
        | _, _ => .fail)
      | _ => .fail
    | _, _ => .fail
def bigLen : Nat := 1099511627776
def append2 (P : Program) (t t2 : TypeId) (id : Nat) (nil : Bool) (a : Arr) (x : AV) : Prog AV :=
  match x with
  | .sl id2 w2 => .chk (Nat.beq t t2) (.rd id2 fun e2 => match e2 with
    | .arr _ _ b => match a.app (match w2 with | none => b | some (o, n) => b.sub o n) with
      | some c => .chk (decide (c.len ≤ bigLen)) (.chk (!(Nat.beq id id2)) (.wr id .dead (.new (.arr true (nil && decide (c.len = 0)) c) fun id' => .ret (.sl id' none))))
      | none => .fail
    | _ => .fail)
  | .str q => match a, under P t2 with
    | .ints .u8 l, .string => .chk (decide (l.length + q.size ≤ bigLen)) (.wr id .dead (.new (.arr true (nil && decide (q.size = 0)) (.ints .u8 (l ++ bytesL q))) fun id' => .ret (.sl id' none)))
    | _, _ => .fail
  | .nils => .chk (Nat.beq t t2) (.ret (.sl id none))
  | _ => .fail
def rowMax : Nat := 1048576
/-- records behind records -/
def appendR (P : Program) (t t2 : TypeId) (id : Nat) (nil : Bool) (z : List RK) (l : List (List RC)) (x : AV) : Prog AV :=
  match x with
  | .sl id2 none => .chk (Nat.beq t t2) (.rd id2 fun e2 => match e2 with
    | .rows _ _ z2 m => .chk (decide (z2 = z)) (.chk (!(Nat.beq id id2)) (.chk (decide (l.length + m.length ≤ rowMax)) (.wr id .dead (.new (.rows true (nil && decide ((l ++ m).length = 0)) z (l ++ m)) fun id' => .ret (.sl id' none)))))
    | _ => .fail)
  | .nils => .chk (Nat.beq t t2) (.ret (.sl id none))
  | _ => .fail
def append1 (P : Program) (t t2 : TypeId) (x s : AV) : Prog AV :=
  match under P t, s with
  | .slice el, .sl id none => .rd id fun e => match e with
    | .arr true nil a => .chk (elemOk P el a.size) (append2 P t t2 id nil a x)
    | .rows true nil z l => .chk (elemOkR P el z.length) (appendR P t t2 id nil z l x)
    | _ => .fail
  | _, _ => .fail
def appendP (P : Program) (t t2 : TypeId) (s x : AV) : Prog AV := fixT P t s (append1 P t t2 x)
def lenP (P : Program) (t : TypeId) (x : AV) : Prog AV :=
  match under P t, x with
  | .string, .str s => .ret (.int .i64 s.size)
  | .slice _, .sl id w => .rd id fun e => match e with
    | .arr _ _ a => .ret (.int .i64 (lenW w a))
    | .rows _ _ _ l => match w with
      | none => .ret (.int .i64 l.length)
      | some _ => .fail
    | _ => .fail
  | .slice _, .nils => .ret (.int .i64 0)
  | _, _ => .fail
def maxP : List AV → Prog AV
  | [.int k x, .int _ y] => .ret (.int k (if y > x then y else x))
  | _ => .fail
def minP : List AV → Prog AV
  | [.int k x, .int _ y] => .ret (.int k (if y < x then y else x))
  | _ => .fail
def builtinP (P : Program) (b : Builtin) (ts : List TypeId) (vs : List AV) : Prog AV :=
  match b, ts, vs with
  | .len, [t], [x] => lenP P t x
  | .append, [t, t2], [s, x] => appendP P t t2 s x
  | .max, _, vs => maxP vs
  | .min, _, vs => minP vs
  | _, _, _ => .fail

def aggN (agg : Bool) (cs : List AV) : Prog AV :=
  if agg then .ret (.agg cs) else match cs with
    | [c] => .ret c
    | _ => .fail
/-- a number brought to its form -/
def forceP {α : Type} (n : Nat) (K : Nat → Prog α) : Prog α := cond (Nat.beq n 0) (K 0) (cond (Nat.beq n 1) (K 1) (cond (Nat.beq n 2) (K 2) (cond (Nat.beq n 3) (K 3) (cond (Nat.beq n 4) (K 4) (cond (Nat.beq n 5) (K 5) (cond (Nat.beq n 6) (K 6) (cond (Nat.beq n 7) (K 7) (cond (Nat.beq n 8) (K 8) (cond (Nat.beq n 9) (K 9) (cond (Nat.beq n 10) (K 10) (cond (Nat.beq n 11) (K 11) (K n))))))))))))
/-- the columns from c on of one record, as values: what lies behind them is only read -/
def rowGo (r : List RC) : List RK → Nat → (List AV → Prog AV) → Prog AV
  | [], _, K => K []
  | .n :: z, c, K => rowGo r z (c + 1) fun vs => K (.int .i64 (rcAt r c).num :: vs)
  | .is :: z, c, K => .new (.arr false (rcAt r c).nil (.ints .i64 (rcAt r c).ints)) fun id => rowGo r z (c + 1) fun vs => K (.sl id none :: vs)
  | .r3 :: z, c, K => .new (.arr false (rcAt r c).nil (.r3 (rcAt r c).r3s)) fun id => rowGo r z (c + 1) fun vs => K (.sl id none :: vs)
def loadP (P : Program) (t : TypeId) (x : AV) : Prog AV :=
  match x with
  | .ptr id i o => .chk (known P t) <| .rd id fun e => match e with
    | .box _ cs => match i with
      | 0 => .chk (Nat.beq ((cs.drop o).take (P.cellsOf t)).length (P.cellsOf t)) (aggN (isAggT P t) ((cs.drop o).take (P.cellsOf t)))
      | _ => .fail
    | .arr _ _ a => .chk (Nat.beq (((a.get i).drop o).take (P.cellsOf t)).length (P.cellsOf t)) (aggN (isAggT P t) (((a.get i).drop o).take (P.cellsOf t)))
    | .rows _ _ z l => .chk (Nat.ble (o + P.cellsOf t) z.length) (forceP o fun o => rowGo (rrow l i) ((z.drop o).take (P.cellsOf t)) o (aggN (isAggT P t)))
    | .parts o0 n0 i1 i2 i3 => match i with
      | 0 => match findPart o0 n0 i1 i2 i3 o (P.cellsOf t) with
        | some (o', j) => .rd j fun e' => match e' with
          | .box _ cs => .chk (Nat.beq ((cs.drop (o - o')).take (P.cellsOf t)).length (P.cellsOf t)) (aggN (isAggT P t) ((cs.drop (o - o')).take (P.cellsOf t)))
          | _ => .fail
        | none => .fail
      | _ => .fail
    | _ => .fail
  | _ => .fail
def AV.one : AV → Bool
  | .un => false
  | .agg _ => false
  | .tup _ => false
  | .mp _ => false
  | _ => true
def storeP (P : Program) (t : TypeId) (x v : AV) : Prog AV :=
  match x with
  | .ptr id i o => .chk (known P t) <| fixT P t v fun v => .chk (v.cells.all AV.one && Nat.beq v.cells.length (P.cellsOf t)) <| .rd id fun e => match e with
    | .box true cs => match i with
      | 0 => .chk (Nat.ble (o + v.cells.length) cs.length) (.wr id (.box true (cs.take o ++ v.cells ++ cs.drop (o + v.cells.length))) (.ret .un))
      | _ => .fail
    | .arr true nil a => match a.set i o v.cells with
      | some b => .wr id (.arr true nil b) (.ret .un)
      | none => .fail
    | .parts o0 n0 i1 i2 i3 => match i with
      | 0 => match findPart o0 n0 i1 i2 i3 o v.cells.length with
        | some (o', j) => .rd j fun e' => match e' with
          | .box true cs => .chk (Nat.ble (o - o' + v.cells.length) cs.length) (.wr j (.box true (cs.take (o - o') ++ v.cells ++ cs.drop (o - o' + v.cells.length))) (.ret .un))
          | _ => .fail
        | none => .fail
      | _ => .fail
    | _ => .fail
  | _ => .fail
def buildGo (P : Program) (fs : List Field) : List AV → List (Nat × AV) → Option (List AV)
  | cs, [] => some cs
  | cs, (i, v) :: rest => match fs[i]? with
    | none => none
    | some f => if v.cells.all AV.one = true ∧ v.cells.length = P.cellsOf f.type ∧ f.offset + v.cells.length ≤ cs.length then buildGo P fs (cs.take f.offset ++ v.cells ++ cs.drop (f.offset + v.cells.length)) rest else none
def buildP (P : Program) (t : TypeId) (parts : List (Nat × AV)) : Prog AV :=
  match under P t with
  | .struct fs => match zeroCells P t with
    | some z => match buildGo P fs.toList z parts with
      | some cs => .chk (fs.all fun f => !(Nat.beq (P.cellsOf f.type) 0)) (fixs (cty P t) cs fun cs => .ret (.agg cs))
      | none => .fail
    | none => .fail
  | _ => .fail
/-- the zero of an element type, in cells -/
def zeroOk (P : Program) (el : TypeId) (e : ETy) : Bool := match zeroCells P el, e with
  | some [.int k n], .int k' => k == k' && n == 0
  | some [.bool b], .bool => !b
  | some [.str s], .str => decide (s = .empty)
  | some [.int .i64 a, .int .i64 b, .int .i64 c], .r3 => a == 0 && b == 0 && c == 0
  | some [.int .i64 a, .int .i64 b, .int .i64 c, .int .i64 d], .r4 => a == 0 && b == 0 && c == 0 && d == 0
  | _, _ => false
def inOrder : Nat → List (Nat × AV) → Bool
  | _, [] => true
  | n, (i, _) :: l => i == n && inOrder (n + 1) l
/-- a record's column out of a cell: what lies behind it may from now on only be read -/
def rowC {α : Type} (k : RK) (c : AV) (K : RC → Prog α) : Prog α :=
  match k with
  | .n => match c with
    | .int .i64 x => K (.n x)
    | _ => .fail
  | .is => match c with
    | .sl id none => .rd id fun e => match e with
      | .arr true nil (.ints .i64 l) => .wr id (.arr false nil (.ints .i64 l)) (K (.is nil l))
      | .arr false nil (.ints .i64 l) => K (.is nil l)
      | _ => .fail
    | _ => .fail
  | .r3 => match c with
    | .sl id none => .rd id fun e => match e with
      | .arr true nil (.r3 l) => .wr id (.arr false nil (.r3 l)) (K (.r3 nil l))
      | .arr false nil (.r3 l) => K (.r3 nil l)
      | _ => .fail
    | _ => .fail
def rowB {α : Type} : List RK → List AV → (List RC → Prog α) → Prog α
  | [], cs, K => match cs with
    | [] => K []
    | _ => .fail
  | k :: z, cs, K => match cs with
    | [] => .fail
    | c :: cs => rowC k c fun x => rowB z cs fun r => K (x :: r)
def rowsB {α : Type} (z : List RK) : List (List AV) → (List (List RC) → Prog α) → Prog α
  | [], K => K []
  | c :: cs, K => rowB z c fun r => rowsB z cs fun l => K (r :: l)
def buildSliceP (P : Program) (t : TypeId) (n : Nat) (parts : List (Nat × AV)) : Prog AV :=
  match under P t with
  | .slice el => .chk (inOrder 0 parts && parts.length == n && decide (n ≤ 1000)) (match elemTy P t with
    | .rows z => .chk (elemOkR P el z.length && (decide (z.length ≤ 64) && parts.all fun c => c.2.cells.all AV.one && Nat.beq c.2.cells.length z.length)) (rowsB z (parts.map (·.2.cells)) fun l => .new (.rows true false z l) fun id => .ret (.sl id none))
    | et => match et.of (parts.map (·.2.cells)) with
      | some a => .chk (elemOk P el a.size) (.new (.arr true false a) fun id => .ret (.sl id none))
      | none => .fail)
  | _ => .fail
def makeSliceP (P : Program) (t : TypeId) (l c : AV) : Prog AV :=
  match under P t, l, c with
  | .slice el, .int _ l, .int _ c => .chk (decide (0 ≤ l) && decide (l ≤ c) && decide (c ≤ bigLen)) (match (elemTy P t).zeros l.toNat with
    | some a => .chk (elemOk P el a.size && zeroOk P el (elemTy P t)) (.new (.arr true false a) fun id => .ret (.sl id none))
    | none => .fail)
  | _, _, _ => .fail
def indexAddrP (P : Program) (t : TypeId) (x ix : AV) : Prog AV :=
  match under P t, x, ix with
  | .slice el, .sl id w, .int _ n => .rd id fun e => match e with
    | .arr _ _ a => .chk (Nat.beq a.size (P.cellsOf el)) (.chk (decide (0 ≤ n) && decide (n < lenW w a)) (.ret (.ptr id (idxW w n.toNat) 0)))
    | .rows _ _ z l => match w with
      | none => .chk (Nat.beq z.length (P.cellsOf el) && Nat.ble 1 z.length) (.chk (decide (0 ≤ n) && decide (n < l.length)) (.ret (.ptr id n.toNat 0)))
      | some _ => .fail
    | _ => .fail
  | _, _, _ => .fail
def indexP (P : Program) (t : TypeId) (x ix : AV) : Prog AV :=
  match under P t, x, ix with
  | .string, .str s, .int _ n => .chk (decide (0 ≤ n) && decide (n < s.size)) (.ret (.int .u8 (strAt s n.toNat)))
  | _, _, _ => .fail
def fieldP (P : Program) (t : TypeId) (x : AV) (f : Nat) : Prog AV :=
  match fieldOf P t f, x with
  | some f, .agg cs => .chk (known P f.type) <| aggN (isAggT P f.type) ((cs.drop f.offset).take (P.cellsOf f.type))
  | _, _ => .fail

/-! maps that hold 'true' for some keys of three numbers -/
def okF (P : Program) (f : Field) (i : Nat) : Bool := if f.name = "_" then false else match under P f.type with
  | .int .i64 => Nat.beq f.offset i && Nat.beq (P.cellsOf f.type) 1
  | _ => false
def keyOk (P : Program) (k : TypeId) : Bool := match under P k with
  | .struct fs => match fs.toList with
    | [f1, f2, f3] => !P.stoodInHeld k && (okF P f1 0 && (okF P f2 1 && okF P f3 2))
    | _ => false
  | _ => false
def AV.key : AV → Option (Int × Int × Int)
  | .agg [.int .i64 a, .int .i64 b, .int .i64 c] => some (a, b, c)
  | _ => none
def eqK (k x : Int × Int × Int) : Bool := decide (k.1 = x.1) && (decide (k.2.1 = x.2.1) && decide (k.2.2 = x.2.2))
def hasK (l : List (Int × Int × Int)) (k : Int × Int × Int) : Bool := l.any (eqK k)
def mapNewP (P : Program) (t : TypeId) : Prog AV := match under P t with
  | .map k _ => .chk (keyOk P k) (.new (.mp []) fun id => .ret (.mp id))
  | _ => .fail
def mapPutP (P : Program) (t : TypeId) (m k v : AV) : Prog AV := match under P t, m, k.key, v with
  | .map kt _, .mp id, some x, .bool true => .chk (keyOk P kt) (.rd id fun e => match e with
    | .mp l => .wr id (.mp (l ++ [x])) (.ret .un)
    | _ => .fail)
  | _, _, _, _ => .fail
def mapGetP (P : Program) (t : TypeId) (m k : AV) : Prog AV := match under P t, m, k.key with
  | .map kt et, .mp id, some x => match (P.info? et).bind (·.zero) with
    | some (.bool false) => .chk (keyOk P kt) (.rd id fun e => match e with
      | .mp l => .ret (.bool (hasK l x))
      | _ => .fail)
    | _ => .fail
  | _, _, _ => .fail

def operands (fr : List AV) (xs : Array Operand) : List AV := xs.toList.map (opd fr)
def stepP (P : Program) (A : Ann) (o : Oper) (fr : List AV) : Prog AV :=
  match o.op with
  | .move x | .assign x => fixT P o.type (opd fr x) .ret
  | .pick c a b => match opd fr c with
    | .bool c => .br c (fixT P o.type (opd fr a) .ret) (fixT P o.type (opd fr b) .ret)
    | _ => .fail
  | .alloc t => match zeroCells P t with
    | some z => fixs (cty P t) z fun cs => .new (.box true cs) fun id => .ret (.ptr id 0 0)
    | none => .fail
  | .box t x => fixT P t (opd fr x) fun v => .chk (v.cells.all AV.one) (.new (.box true v.cells) fun id => .ret (.ptr id 0 0))
  | .build t parts => buildP P t (parts.toList.map fun (i, x) => (i, opd fr x))
  | .buildSlice t n parts => buildSliceP P t n (parts.toList.map fun (i, x) => (i, opd fr x))
  | .load t x => loadP P t (opd fr x)
  | .store t x v => storeP P t (opd fr x) (opd fr v)
  | .nilCheck x => match opd fr x with
    | .ptr id i o => .ret (.ptr id i o)
    | .fn f cs => .ret (.fn f cs)
    | _ => .fail
  | .binOp op t x y _ => binP P t op (opd fr x) (opd fr y)
  | .unOp op _ x => unP op (opd fr x)
  | .convert s d x => convP P s d (opd fr x)
  | .makeFunc (.func f) first caps => if first.isEmpty then .ret (.fn f (operands fr caps)) else .fail
  | .makeSlice t l c => makeSliceP P t (opd fr l) (opd fr c)
  | .slice t x lo hi mx => sliceP P t (opd fr x) (lo.map (opd fr)) (hi.map (opd fr)) (mx.map (opd fr))
  | .fieldAddr s x f => match opd fr x, fieldOf P s f with
    | .ptr id i o, some f => .chk (!(Nat.beq (P.cellsOf f.type) 0)) (.ret (.ptr id i (o + f.offset)))
    | _, _ => .fail
  | .field t x f => fieldP P t (opd fr x) f
  | .indexAddr t x ix => indexAddrP P t (opd fr x) (opd fr ix)
  | .index t x ix => indexP P t (opd fr x) (opd fr ix)
  | .extract x i => match opd fr x with
    | .tup vs => match vs[i]? with
      | some v => .ret v
      | none => .fail
    | _ => .fail
  | .call c => match c.callee with
    | .builtin b => builtinP P b c.argTypes.toList (operands fr c.args)
    | .value f => match opd fr f with
      | .fn f caps => callP P A f (operands fr c.args ++ caps)
      | _ => .fail
    | _ => .fail
  | .makeMap t r => if r.isNone then mapNewP P t else .fail
  | .mapUpdate t m k v => mapPutP P t (opd fr m) (opd fr k) (opd fr v)
  | .lookup t m k ok => if ok then .fail else mapGetP P t (opd fr m) (opd fr k)
  | _ => .fail

/-! a copy of what some slots hold, with the entries numbered anew -/
def find (m : List (Nat × Nat)) (id : Nat) : Option Nat := (m.find? (·.1 == id)).map (·.2)
structure Cp where
  m : List (Nat × Nat)
  h : List Ent
mutual
def cpy0 (h : List Ent) : AV → Cp → AV × Cp
  | .sl id w, c => match ent h id with
    | .arr own nil a => match find c.m id with
      | some j => (.sl j w, c)
      | none => (.sl c.h.length w, ⟨(id, c.h.length) :: c.m, c.h ++ [.arr own nil a]⟩)
    | .rows own nil z l => match find c.m id with
      | some j => (.sl j w, c)
      | none => (.sl c.h.length w, ⟨(id, c.h.length) :: c.m, c.h ++ [.rows own nil z l]⟩)
    | _ => (.un, c)
  | .agg cs, c => let r := cpys0 h cs c; (.agg r.1, r.2)
  | .fn f cs, c => let r := cpys0 h cs c; (.fn f r.1, r.2)
  | .int k n, c => (.int k n, c)
  | .bool b, c => (.bool b, c)
  | .str s, c => (.str s, c)
  | .nils, c => (.nils, c)
  | .mp id, c => match ent h id with
    | .mp l => match find c.m id with
      | some j => (.mp j, c)
      | none => (.mp c.h.length, ⟨(id, c.h.length) :: c.m, c.h ++ [.mp l]⟩)
    | _ => (.un, c)
  | _, c => (.un, c)
def cpys0 (h : List Ent) : List AV → Cp → List AV × Cp
  | [], c => ([], c)
  | v :: vs, c => let r := cpy0 h v c; let q := cpys0 h vs r.2; (r.1 :: q.1, q.2)
end
mutual
def cpy (h : List Ent) : AV → Cp → AV × Cp
  | .ptr id i o, c => match ent h id with
    | .box own cs => match find c.m id with
      | some j => (.ptr j i o, c)
      | none => let r := cpys0 h cs c; (.ptr r.2.h.length i o, ⟨(id, r.2.h.length) :: r.2.m, r.2.h ++ [.box own r.1]⟩)
    | .arr own nil a => match find c.m id with
      | some j => (.ptr j i o, c)
      | none => (.ptr c.h.length i o, ⟨(id, c.h.length) :: c.m, c.h ++ [.arr own nil a]⟩)
    | _ => (.un, c)
  | .fn f cs, c => let r := cpys h cs c; (.fn f r.1, r.2)
  | v, c => cpy0 h v c
def cpys (h : List Ent) : List AV → Cp → List AV × Cp
  | [], c => ([], c)
  | v :: vs, c => let r := cpy h v c; let q := cpys h vs r.2; (r.1 :: q.1, q.2)
end
/-- the state of one activation: its slots, what stays pinned (the callers' and the turned arguments' values), its entries -/
structure St where
  fr : List AV
  pn : List AV
  h : List Ent
def canonGo (fr : List AV) (h : List Ent) : List Nat → List AV → Cp → List AV × Cp
  | [], out, c => (out, c)
  | t :: ts, out, c => let r := cpy h (fr.getD t .un) c; canonGo fr h ts (out.set t r.1) r.2
def canon (keep : List Nat) (s : St) : St :=
  let r := canonGo s.fr s.h keep (s.fr.map fun _ => .un) ⟨[], []⟩
  let q := cpys s.h s.pn r.2
  ⟨r.1, q.1, q.2.h⟩

/-! code -/
inductive Ex where
  | normal
  | exit (id : Nat)
  | ret
def firstRegion : Code → Option Nat
  | .region id _ _ => some id
  | .seq a b => match firstRegion a with
    | some i => some i
    | none => firstRegion b
  | .block _ c => firstRegion c
  | .loop c => firstRegion c
  | _ => none
abbrev R := Option (List D)
abbrev Kont := Ex → St → R
/-! every part of a state brought to its form -/
def forceN (n : Nat) (K : Nat → R) : R := cond (Nat.beq n 0) (K 0) (cond (Nat.beq n 1) (K 1) (cond (Nat.beq n 2) (K 2) (cond (Nat.beq n 3) (K 3) (cond (Nat.beq n 4) (K 4) (cond (Nat.beq n 5) (K 5) (cond (Nat.beq n 6) (K 6) (cond (Nat.beq n 7) (K 7) (cond (Nat.beq n 8) (K 8) (cond (Nat.beq n 9) (K 9) (cond (Nat.beq n 10) (K 10) (cond (Nat.beq n 11) (K 11) (cond (Nat.beq n 12) (K 12) (cond (Nat.beq n 13) (K 13) (cond (Nat.beq n 14) (K 14) (cond (Nat.beq n 15) (K 15) (cond (Nat.beq n 16) (K 16) (cond (Nat.beq n 17) (K 17) (cond (Nat.beq n 18) (K 18) (cond (Nat.beq n 19) (K 19) (cond (Nat.beq n 20) (K 20) (cond (Nat.beq n 21) (K 21) (cond (Nat.beq n 22) (K 22) (cond (Nat.beq n 23) (K 23) (cond (Nat.beq n 24) (K 24) (cond (Nat.beq n 25) (K 25) (cond (Nat.beq n 26) (K 26) (cond (Nat.beq n 27) (K 27) (cond (Nat.beq n 28) (K 28) (cond (Nat.beq n 29) (K 29) (cond (Nat.beq n 30) (K 30) (cond (Nat.beq n 31) (K 31) (cond (Nat.beq n 32) (K 32) (cond (Nat.beq n 33) (K 33) (cond (Nat.beq n 34) (K 34) (cond (Nat.beq n 35) (K 35) (cond (Nat.beq n 36) (K 36) (cond (Nat.beq n 37) (K 37) (cond (Nat.beq n 38) (K 38) (cond (Nat.beq n 39) (K 39) (cond (Nat.beq n 40) (K 40) (cond (Nat.beq n 41) (K 41) (cond (Nat.beq n 42) (K 42) (cond (Nat.beq n 43) (K 43) (cond (Nat.beq n 44) (K 44) (cond (Nat.beq n 45) (K 45) (cond (Nat.beq n 46) (K 46) (cond (Nat.beq n 47) (K 47) (K n))))))))))))))))))))))))))))))))))))))))))))))))
mutual
def forceAV : AV → (AV → R) → R
  | .un, K => K .un
  | .nils, K => K .nils
  | .int k n, K => K (.int k n)
  | .bool b, K => K (.bool b)
  | .str s, K => K (.str s)
  | .sl id w, K => forceN id fun id => match w with
    | none => K (.sl id none)
    | some (o, n) => K (.sl id (some (o, n)))
  | .ptr id i o, K => forceN id fun id => K (.ptr id i o)
  | .agg cs, K => forceAVs cs fun cs => K (.agg cs)
  | .tup cs, K => forceAVs cs fun cs => K (.tup cs)
  | .fn f cs, K => forceAVs cs fun cs => K (.fn f cs)
  | .mp id, K => forceN id fun id => K (.mp id)
def forceAVs : List AV → (List AV → R) → R
  | [], K => K []
  | c :: cs, K => forceAV c fun c => forceAVs cs fun cs => K (c :: cs)
end
def forceArr : Arr → (Arr → R) → R
  | .ints k l, K => K (.ints k l)
  | .bools l, K => K (.bools l)
  | .strs l, K => K (.strs l)
  | .r3 l, K => K (.r3 l)
  | .r4 l, K => K (.r4 l)
def forceB (b : Bool) (K : Bool → R) : R := match b with
  | true => K true
  | false => K false
def forceEnt : Ent → (Ent → R) → R
  | .dead, K => K .dead
  | .box own cs, K => forceB own fun own => forceAVs cs fun cs => K (.box own cs)
  | .arr own nil a, K => forceB own fun own => forceArr a fun a => K (.arr own nil a)
  | .mp l, K => K (.mp l)
  | .parts o n i1 i2 i3, K => K (.parts o n i1 i2 i3)
  | .rows own nil z l, K => forceB own fun own => K (.rows own nil z l)
def forceEnts : List Ent → (List Ent → R) → R
  | [], K => K []
  | c :: cs, K => forceEnt c fun c => forceEnts cs fun cs => K (c :: cs)
def forceSt : St → (St → R) → R
  | ⟨fr, pn, h⟩, K => forceEnts h fun h => forceAVs fr fun fr => forceAVs pn fun pn => K ⟨fr, pn, h⟩
def canonAt (A : Ann) (f : Nat) (c : Code) (s : St) (K : St → R) : R :=
  match firstRegion c with
  | some r => match A.keep f r with
    | some l => forceSt (canon l s) K
    | none => forceSt s K
  | none => K s
def put (dst : Option Tmp) (v : AV) (s : St) : St := match dst with
  | some d => { s with fr := s.fr.set d v }
  | none => s
def St.at (s : St) (t : Nat) (v : AV) : St := { s with fr := s.fr.set t v }
abbrev Inl := Nat → List AV → St → (AV → St → R) → R

/-- through a drawn region a variable may be held in three parts -/
def partIn (t o n : Nat) (s : St) (K : Nat → St → R) : R := match s.fr.getD t .un with
  | .ptr id 0 0 => match ent s.h id with
    | .box true cs => cond (Nat.ble (o + n) cs.length) (K id { s with h := (((s.h.set id (.parts o n s.h.length (s.h.length + 1) (s.h.length + 2))) ++ [.box true (cs.take o)]) ++ [.box true ((cs.drop o).take n)]) ++ [.box true (cs.drop (o + n))] }) none
    | _ => none
  | _ => none
def partOut (id : Nat) (s : St) (K : St → R) : R := match ent s.h id with
  | .parts o n i1 i2 i3 => match ent s.h i1, ent s.h i2, ent s.h i3 with
    | .box true c1, .box true c2, .box true c3 => cond (Nat.beq c1.length o && (Nat.beq c2.length n && (!(Nat.beq i1 i2) && (!(Nat.beq i1 i3) && !(Nat.beq i2 i3)))))
        (K { s with h := (((s.h.set i2 .dead).set i3 .dead).set i1 .dead).set id (.box true (c1 ++ (c2 ++ c3))) }) none
    | _, _, _ => none
  | _ => none

/-- which operations must stand ahead of which: a row of bits each, the last operation's row first -/
def hasB (n i : Nat) : Bool := Nat.beq (Nat.land (Nat.shiftRight n i) 1) 1
def ancLook (k : Nat) (acc : List Nat) (i : Nat) : Nat := cond (Nat.ble k i) 0 (acc.getD (k - (i + 1)) 0)
def ancRow (k : Nat) (acc : List Nat) (o : Oper) : Nat :=
  o.after.toList.foldl (init := 0) fun s e => cond (Region.binds .any e) (Nat.lor (Nat.lor (Nat.shiftLeft 1 e.on) (ancLook k acc e.on)) s) s
def ancGo : List Oper → Nat → List Nat → List Nat
  | [], _, acc => acc
  | o :: rest, k, acc => ancGo rest (k + 1) (ancRow k acc o :: acc)
def ahead (ops : List Oper) (j i : Nat) : Bool := hasB (ancLook ops.length (ancGo ops 0 []) j) i
def looks (ops : List Oper) (o : Oper) : List Nat :=
  (o.op.operands.toList.filterMap fun | .tmp t => some t | _ => none) ++ (match o.guard with
    | some (g, _) => ((ops[g]?).bind (·.dst)).toList
    | none => [])
def apart (ops : List Oper) (a b : Oper) (ra wa rb wb : List Nat) : Bool :=
  (match a.dst with | some d => !(looks ops b).contains d && b.dst != some d | none => true) &&
  (match b.dst with | some d => !(looks ops a).contains d | none => true) &&
  wa.all (fun x => !rb.contains x && !wb.contains x) && wb.all (fun x => !ra.contains x)
/-- every two operations that may change places do not meet -/
def bern (ops : List Oper) (tr : List (List Nat × List Nat)) : Bool :=
  (List.range ops.length).all fun j =>
    (match ops[j]? with | some o => o.after.toList.all fun e => !Region.binds .any e || decide (e.on < j) | none => false) &&
    (List.range j).all fun i =>
    ahead ops j i || match ops[i]?, ops[j]?, tr[i]?, tr[j]? with
      | some a, some b, some ta, some tb => apart ops a b ta.1 ta.2 tb.1 tb.2
      | _, _, _, _ => false

section
variable (P : Program) (A : Ann) (cal : Nat → List D → Option (List D)) (inl : Inl) (f : Nat)

def evPlain (o : Oper) (s : St) (K : AV → St → List Nat × List Nat → R) : R :=
  runP cal (stepP P A o s.fr) s.h [] [] fun v h r w => K v { s with h := h } (r, w)
def evOp (draw : Bool) (o : Oper) (s : St) (K : AV → St → List Nat × List Nat → R) : R :=
  match o.op with
  | .call c => match c.callee with
    | .value (.func g) => cond (A.inl g && !draw) (inl g (operands s.fr c.args) s fun v s => K v s ([], [])) (evPlain P A cal o s K)
    | _ => evPlain P A cal o s K
  | _ => evPlain P A cal o s K
def evOps (draw : Bool) (ops : List Oper) : List Oper → St → List (List Nat × List Nat) → (St → List (List Nat × List Nat) → R) → R
  | [], s, tr, K => K s tr
  | o :: rest, s, tr, K => match o.guard with
    | none => evOp P A cal inl draw o s fun v s t => evOps draw ops rest (put o.dst v s) (tr ++ [t]) K
    | some (g, want) => match (ops[g]?).bind (·.dst) with
      | none => none
      | some t => match s.fr.getD t .un with
        | .bool b => cond b
          (cond want (evOp P A cal inl draw o (s.at t (.bool true)) fun v s t => evOps draw ops rest (put o.dst v s) (tr ++ [t]) K)
            (evOps draw ops rest (put o.dst (.tup []) (s.at t (.bool true))) (tr ++ [([], [])]) K))
          (cond want (evOps draw ops rest (put o.dst (.tup []) (s.at t (.bool false))) (tr ++ [([], [])]) K)
            (evOp P A cal inl draw o (s.at t (.bool false)) fun v s t => evOps draw ops rest (put o.dst v s) (tr ++ [t]) K))
        | .tup [] => evOps draw ops rest (put o.dst (.tup []) s) (tr ++ [([], [])]) K
        | _ => none

def evLoop (body : St → Kont → R) (cn : St → (St → R) → R) : Nat → St → Kont → R
  | 0, _, _ => none
  | k + 1, s, K => body s fun e s => match e with
    | .normal => cn s fun s => evLoop body cn k s K
    | .exit id => K (.exit id) s
    | .ret => K .ret s

def evC (lf : Nat) : Code → St → Kont → R
  | .skip, s, K => K .normal s
  | .region id ops draw, s, K => match cond draw (A.keep f (1000000 + id)) none with
    | some [t, o, n] => partIn t o n s fun v s => evOps P A cal inl draw ops.toList ops.toList s [] fun s tr =>
      cond draw (cond (bern ops.toList tr) (partOut v s fun s => K .normal s) none) (partOut v s fun s => K .normal s)
    | _ => evOps P A cal inl draw ops.toList ops.toList s [] fun s tr =>
      cond draw (cond (bern ops.toList tr) (K .normal s) none) (K .normal s)
  | .seq a b, s, K => evC lf a s fun e s => match e with
    | .normal => canonAt A f b s fun s => evC lf b s K
    | .exit id => K (.exit id) s
    | .ret => K .ret s
  | .cond c a b, s, K => match opd s.fr c with
    | .bool t => cond t (evC lf a s K) (evC lf b s K)
    | _ => none
  | .block id c, s, K => evC lf c s fun e s => match e with
    | .exit id' => cond (Nat.beq id' id) (K .normal s) (K (.exit id') s)
    | .normal => K .normal s
    | .ret => K .ret s
  | .loop c, s, K => canonAt A f c s fun s => evLoop (evC lf c) (canonAt A f c) lf s K
  | .exit id, s, K => K (.exit id) s
  | .ret, s, K => K .ret s
  | _, _, _ => none
end

/-! entering and leaving -/
mutual
def entD : D → List Ent → AV × List Ent
  | .int k n, h => (.int k n, h)
  | .bool b, h => (.bool b, h)
  | .str s, h => (.str s, h)
  | .arr own nil a, h => (.sl h.length none, h ++ [.arr own nil a])
  | .agg l, h => let r := entDs l h; (.agg r.1, r.2)
  | .ptr own l, h => let r := entDs l h; (.ptr r.2.length 0 0, r.2 ++ [.box own r.1])
  | .fn f l, h => let r := entDs l h; (.fn f r.1, r.2)
  | .rows nil z l, h => (.sl h.length none, h ++ [.rows false nil z l])
def entDs : List D → List Ent → List AV × List Ent
  | [], h => ([], h)
  | d :: ds, h => let r := entD d h; let q := entDs ds r.2; (r.1 :: q.1, q.2)
end
def aggN' {α : Type} (agg : Bool) (cs : List AV) (K : AV → Prog α) : Prog α :=
  if agg then K (.agg cs) else match cs with
    | [c] => K c
    | _ => .fail
def loadP' {α : Type} (P : Program) (t : TypeId) (x : AV) (K : AV → Prog α) : Prog α :=
  match x with
  | .ptr id i o => .chk (known P t) <| .rd id fun e => match e with
    | .box _ cs => match i with
      | 0 => .chk (Nat.beq ((cs.drop o).take (P.cellsOf t)).length (P.cellsOf t)) (aggN' (isAggT P t) ((cs.drop o).take (P.cellsOf t)) K)
      | _ => .fail
    | _ => .fail
  | _ => .fail
def loadRes {α : Type} (P : Program) (fr : List AV) (r : ResultVar) (K : AV → Prog α) : Prog α :=
  match r with
  | .tmp t => K (fr.getD t .un)
  | .cell a t => loadP' P t (fr.getD a .un) K
def loadAll {α : Type} (P : Program) (fr : List AV) : List ResultVar → (List AV → Prog α) → Prog α
  | [], K => K []
  | r :: rs, K => loadRes P fr r fun v => loadAll P fr rs fun vs => K (v :: vs)
def okC : CTy → D → Bool
  | .int k, .int k' _ => k == k'
  | .bool, .bool _ => true
  | .str, .str _ => true
  | .sl (.int k), .arr true _ (.ints k' _) => k == k'
  | .sl .bool, .arr true _ (.bools _) => true
  | .sl .str, .arr true _ (.strs _) => true
  | .sl .r3, .arr true _ (.r3 _) => true
  | .sl .r4, .arr true _ (.r4 _) => true
  | _, _ => false
def okCs : List CTy → List D → Bool
  | [], [] => true
  | c :: cs, d :: ds => okC c d && okCs cs ds
  | _, _ => false
def okT (P : Program) (t : TypeId) (d : D) : Bool :=
  if isAggT P t then match d with
    | .agg l => okCs (cty P t) l
    | _ => false
  else match cty P t with
    | [c] => okC c d
    | _ => false
def okTs (P : Program) : List TypeId → List D → Bool
  | [], _ => true
  | t :: ts, d :: ds => okT P t d && okTs P ts ds
  | _, _ => false
def gmut {α : Type} : List AV → Met → (List D → Met → Prog α) → Prog α
  | [], q, K => K [] q
  | c :: cs, q, K => gcell true none c q fun d q => gmut cs q fun l q => K (d :: l) q
/-- of the variables behind turned arguments, the cells that were not their own at the begin -/
def roCells : List D → List AV → List AV
  | [], _ => []
  | .arr false _ _ :: l, cs => cs.headD .un :: roCells l cs.tail
  | _ :: l, cs => roCells l cs.tail
mutual
def roAt (h : List Ent) : D → AV → List AV
  | .ptr _ l, v => match v with
    | .ptr id _ o => match ent h id with
      | .box _ cs => roCells l (cs.drop o)
      | _ => roCells l []
    | _ => roCells l []
  | .fn _ l, v => match v with
    | .fn _ cs => roAts h l cs
    | _ => roAts h l []
  | .agg l, v => match v with
    | .agg cs => roAts h l cs
    | _ => roAts h l []
  | _, _ => []
def roAts (h : List Ent) : List D → List AV → List AV
  | [], _ => []
  | d :: ds, vs => roAt h d (vs.headD .un) ++ roAts h ds vs.tail
end
def sameSl : List AV → List AV → Bool
  | [], [] => true
  | .sl i none :: xs, .sl j none :: ys => Nat.beq i j && sameSl xs ys
  | _, _ => false
def muts {α : Type} : List Bool → List α → List α
  | _, [] => []
  | ms, c :: cs => if ms.headD false then c :: muts ms.tail cs else muts ms.tail cs
def Arr.kin : Arr → Arr → Bool
  | .ints k _, .ints k' _ => k == k'
  | .bools _, .bools _ => true
  | .strs _, .strs _ => true
  | .r3 _, .r3 _ => true
  | .r4 _, .r4 _ => true
  | _, _ => false
mutual
/-- the same form, whatever is in it -/
def alike : D → D → Bool
  | .int k _, .int k' _ => k == k'
  | .bool _, .bool _ => true
  | .str _, .str _ => true
  | .arr o _ a, .arr o' _ a' => (o == o') && a.kin a'
  | .agg l, .agg l' => alikes l l'
  | .ptr o l, .ptr o' l' => (o == o') && alikes l l'
  | .fn f l, .fn f' l' => Nat.beq f f' && alikes l l'
  | _, _ => false
def alikes : List D → List D → Bool
  | [], [] => true
  | d :: l, d' :: l' => alike d d' && alikes l l'
  | _, _ => false
end
def leaveP (P : Program) (fn : Func) (md : List D) (ms : List AV) (fr : List AV) : Prog (List D) :=
  loadAll P fr fn.results.toList fun vs => gmut vs [] fun rs q => gmut ms q fun md' q =>
    .chk (sepIds q && okTs P fn.resultTypes.toList rs && Nat.beq rs.length fn.resultTypes.size && alikes md md') (.ret (rs ++ md'))

structure Level where
  cal : Nat → List D → R
  inl : Inl

def leave (P : Program) (cal : Nat → List D → R) (fn : Func) (md : List D) (s : St) : R :=
  runP cal (leaveP P fn md (s.pn.take md.length) s.fr) s.h [] [] fun ds _ _ _ =>
    cond (sameSl (roAts s.h md (s.pn.take md.length)) (s.pn.drop md.length)) (some ds) none
def start (fn : Func) (md : List D) (mv : List AV) (vs : List AV) (h : List Ent) : St :=
  ⟨vs ++ List.replicate (fn.ntmps - vs.length) .un, mv ++ roAts h md mv, h⟩

/-- a function run where it is called: its frame above the caller's, which stays pinned -/
def inlD (P : Program) (A : Ann) (cal : Nat → List D → Option (List D)) (lf : Nat) : Nat → Inl
  | 0 => fun _ _ _ _ => none
  | d + 1 => fun f vs s K => match P.funcs[f]? with
    | none => none
    | some fn => match fn.body with
      | none => none
      | some c =>
        evC P A cal (inlD P A cal lf d) f lf c ⟨vs ++ List.replicate (fn.ntmps - vs.length) .un, s.fr ++ s.pn, s.h⟩ fun e s' => match e with
          | .exit _ => none
          | _ => runP cal (loadAll P s'.fr fn.results.toList fun vs => .ret (retV vs)) s'.h [] [] fun v h _ _ => K v ⟨s'.pn.take s.fr.length, s'.pn.drop s.fr.length, h⟩
def levelC (P : Program) (A : Ann) : Nat → Nat → List D → Option (List D)
  | 0 => fun _ _ => none
  | k + 1 => fun f ds => match A.ext f with
    | some g => g ds
    | none => match P.funcs[f]? with
      | none => none
      | some fn => match fn.body with
        | none => none
        | some c =>
          cond (sameSl (roAts (entDs ds []).2 (muts (A.mode f) ds) (muts (A.mode f) (entDs ds []).1)) (roAts (entDs ds []).2 (muts (A.mode f) ds) (muts (A.mode f) (entDs ds []).1)))
            (evC P A (levelC P A k) (inlD P A (levelC P A k) k 4) f k c
            (start fn (muts (A.mode f) ds) (muts (A.mode f) (entDs ds []).1) (entDs ds []).1 (entDs ds []).2) fun e s => match e with
          | .exit _ => none
          | .normal => leave P (levelC P A k) fn (muts (A.mode f) ds) s
          | .ret => leave P (levelC P A k) fn (muts (A.mode f) ds) s) none
def level (P : Program) (A : Ann) (k : Nat) : Level := ⟨levelC P A k, inlD P A (levelC P A k) k 4⟩

def ev (P : Program) (A : Ann) (k : Nat) (f : Nat) (ds : List D) : R := (level P A k).cal f ds
end Go.Ev
