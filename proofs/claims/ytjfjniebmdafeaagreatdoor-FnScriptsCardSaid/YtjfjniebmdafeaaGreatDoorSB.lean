/- Functions known from outside that give a text; of no program. -/
import Derived.Test.YtjfjniebmdafeaaGreatDoorE26
import Derived.Below
import Derived.Shelf.Strconv.Itoa3
import Derived.Shelf.Strings.Builder1
namespace Go.Ev
open Go Go.RowKit Go.Sort
set_option linter.unusedVariables false
set_option linter.unusedSimpArgs false
theorem fr_of_below {M : Nat → Nat → Prop} {w w' : World} (h : Below w.heap.size w w') : Fr M w w' :=
  ⟨h.os, h.tape, h.output, h.size, fun b hb => .inr (.inl (h.block b hb))⟩
theorem below_drewN (w : World) (B k : Nat) : Below B w (w.drewN k) := ⟨rfl, rfl, rfl, Nat.le_refl _, fun _ _ => rfl⟩
theorem below_grow (w : World) (os : Array Obj) : Below w.heap.size w (grow w os) :=
  ⟨rfl, rfl, rfl, by simp [grow], fun k hk => by simp only [grow]; rw [Array.getElem?_append_left hk]⟩
/-- a function that gives a text and turns nothing that was there -/
theorem str_contract {P : Program} {F S : Nat} {fn : Func} {ds : List D} {s : ByteArray} (hf : P.funcs[F]? = some fn) (hb : fn.body.isSome = true) (hr : fn.resultTypes = #[S]) (hk : okTs P [S] [.str s] = true)
    (walk : ∀ (w : World) (args : Array Value) (FF : Feet), Kept w → RepDs w ds args.toList FF → Calls P F args w fun e w' => e = .returned (.string s) ∧ Below w.heap.size w w') : Contract P F [] ds [.str s] := by
  refine ⟨fn, hf, hb, fun w args FF hkw _ hd hsep => ?_⟩
  refine (walk w args FF hkw hd).mono ?_
  rintro en w' ⟨rfl, bel⟩
  have hm : ∀ {α : Type} (vs : List α), muts ([] : List Bool) vs = [] := by
    intro α vs
    induction vs with
    | nil => rfl
    | cons v vs ih => simp [muts, ih]
  refine ⟨[.string s], [], rfl, by rw [hr]; rfl, ?_, by simp [Sep], fr_of_below bel, ?_, by rw [hr]; exact hk, ?_, ?_⟩
  · rw [hm, List.append_nil]
    simp only [RepDs, RepD]
    exact ⟨_, [], [], [], rfl, rfl, ⟨rfl, rfl⟩, rfl, rfl⟩
  · rintro b off ⟨A, hA, _⟩
    cases hA
  · rw [hm, hr]; rfl
  · rw [hm, hm]; simp [Ros]
/-- a number in decimal -/
def inI64 (n : Int) : Bool := decide (-9223372036854775808 ≤ n) && decide (n ≤ 9223372036854775807)
def itoaGo : List D → Option (List D)
  | [.int .i64 n] => cond (inI64 n) (some [.str ⟨(Lib.itoa n).toArray⟩]) none
  | _ => none
/-- a word and numbers behind single spaces -/
def spacedL (w : List UInt8) (l : List Int) : List UInt8 := w ++ l.flatMap fun n => 32 :: Lib.itoa n
def spacedGo : List D → Option (List D)
  | [.str w, .arr false _ (.ints .i64 l)] => cond (decide (w.size ≤ 1000) && (decide (l.length ≤ 1000) && l.all inI64)) (some [.str ⟨(spacedL w.data.toList l).toArray⟩]) none
  | _ => none
/-- a mesh is well formed (as the evaluator's texts say it later) -/
def inRx (a b c : Int) : Bool := decide (b ≤ a) && decide (a ≤ c)
def pow2x (l : Int) : Int := 2 ^ l.toNat
def idOkx (r l i : Int) : Bool := inRx r 0 7 && (inRx l 0 4 && (decide (0 ≤ i) && decide (i < pow2x l)))
def widthx (l : Int) : Int := if inRx l 0 4 then 16 / pow2x l else 0
def startOfx (r l i : Int) : Int := if idOkx r l i then r * 16 + i * widthx l else -1
def meshGox (roots : Int) : Int → List (Int × Int × Int) → Bool
  | pos, [] => inRx roots 1 8 && decide (pos = roots * 16)
  | pos, x :: rest => idOkx x.1 x.2.1 x.2.2 && (decide (startOfx x.1 x.2.1 x.2.2 = pos) && meshGox roots (startOfx x.1 x.2.1 x.2.2 + widthx x.2.1) rest)
/-- what stands for leaf i -/
def fmB (l : List (Int × Int × Int)) (i : Nat) : List UInt8 := (if 0 < i ∧ ¬ (l.getD i (0, 0, 0)).1 = (l.getD (i - 1) (0, 0, 0)).1 then [124] else []) ++ Lib.itoa (l.getD i (0, 0, 0)).2.1
/-- the text of the first n leaves -/
def fmTo (l : List (Int × Int × Int)) : Nat → List UInt8
  | 0 => []
  | n + 1 => fmTo l n ++ fmB l n
def fmeshL (r : Int) (l : List (Int × Int × Int)) : List UInt8 := cond (meshGox r 0 l) (fmTo l l.length) []
def fmeshGo : List D → Option (List D)
  | [.agg [.int .i64 r, .arr false _ (.r3 l)]] => cond (decide (l.length ≤ 1048576)) (some [.str ⟨(fmeshL r l).toArray⟩]) none
  | _ => none
end Go.Ev
