/- The evaluator: names for the loops of a function. -/
import Derived.Test.YtfgccfajhedgdaaE25
namespace Go.Ev
section
variable (P : Program) (A : Ann) (cal : Nat → List D → Option (List D)) (inl : Inl) (f lf : Nat)
def fuelOf (fu : List (Nat × Nat)) (r : Nat) : Nat := (find fu r).getD 0
def orE {α : Type} (a b : Option α) : Option α := match a with
  | some x => some x
  | none => b
/-- the loop whose first region is tgt, and what stands behind it -/
def findK (fu : List (Nat × Nat)) (tgt : Nat) : Code → Kont → Option (Code × Kont)
  | .seq a b, K => orE (findK fu tgt a fun e s => match e with
    | .normal => canonAt A f b s fun s => evC P A cal inl f lf b s K
    | .exit id => K (.exit id) s
    | .ret => K .ret s) (findK fu tgt b K)
  | .cond _ a b, K => orE (findK fu tgt a K) (findK fu tgt b K)
  | .block id c, K => findK fu tgt c fun e s => match e with
    | .exit id' => cond (Nat.beq id' id) (K .normal s) (K (.exit id') s)
    | .normal => K .normal s
    | .ret => K .ret s
  | .loop c, K => match firstRegion c with
    | some r => cond (Nat.beq r tgt) (some (c, K)) (findK fu tgt c fun e s => match e with
      | .normal => canonAt A f c s fun s => evLoop (evC P A cal inl f lf c) (canonAt A f c) (fuelOf fu r) s K
      | .exit id => K (.exit id) s
      | .ret => K .ret s)
    | none => none
  | _, _ => none
end
/-- function f at the head of its loop tgt, with n rounds left -/
def loopAt (P : Program) (A : Ann) (k f : Nat) (md : List D) (fu : List (Nat × Nat)) (tgt n : Nat) (s : St) : R :=
  match P.funcs[f]? with
  | none => none
  | some fn => match fn.body with
    | none => none
    | some c => match findK P A (level P A k).cal (level P A k).inl f k fu tgt c (fun e s => match e with
        | .exit _ => none
        | .normal => leave P (level P A k).cal fn md s
        | .ret => leave P (level P A k).cal fn md s) with
      | some (c, K) => evLoop (evC P A (level P A k).cal (level P A k).inl f k c) (canonAt A f c) n s K
      | none => none
/-- a frame of n slots, those named filled -/
def fill (n : Nat) (l : List (Nat × AV)) : List AV := (List.range n).map fun i => ((l.find? (fun x => Nat.beq x.1 i)).map (·.2)).getD .un
def lookK (l : List (Nat × Nat × List Nat)) (f r : Nat) : Option (List Nat) := (l.find? fun x => Nat.beq x.1 f && Nat.beq x.2.1 r).map (·.2.2)
def lookM (l : List (Nat × List Bool)) (f : Nat) : List Bool := ((l.find? fun x => Nat.beq x.1 f).map (·.2)).getD []
def lookI (l : List Nat) (f : Nat) : Bool := l.any fun x => Nat.beq x f
end Go.Ev
