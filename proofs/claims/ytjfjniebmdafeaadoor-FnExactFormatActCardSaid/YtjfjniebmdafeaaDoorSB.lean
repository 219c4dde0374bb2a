/- Functions known from outside that give a text; of no program. -/
import Derived.Test.YtjfjniebmdafeaaDoorE26
import Derived.Below
import Derived.Shelf.Strconv.Itoa3
import Derived.Shelf.Strings.Builder1
namespace Go.Ev
open Go Go.RowKit Go.Sort
set_option linter.unusedVariables false
set_option linter.unusedSimpArgs false
theorem fr_of_below {M : Nat → Nat → Prop} {w w' : World} (h : Below w.heap.size w w') : Fr M w w' :=
  ⟨h.os, h.tape, h.output, h.size, fun b hb => .inr (.inl (h.block b hb))⟩
theorem below_drewN (w : World) (B k : Nat) : Below B w (w.drewN k) := ⟨rfl, rfl, rfl, Nat.le_refl _, fun _ _ => rfl⟩
theorem below_grow (w : World) (os : Array Obj) : Below w.heap.size w (grow w os) :=
  ⟨rfl, rfl, rfl, by simp [grow], fun k hk => by simp only [grow]; rw [Array.getElem?_append_left hk]⟩
/-- a function that gives a text and turns nothing that was there -/
theorem str_contract {P : Program} {F S : Nat} {fn : Func} {ds : List D} {s : ByteArray} (hf : P.funcs[F]? = some fn) (hb : fn.body.isSome = true) (hr : fn.resultTypes = #[S]) (hk : okTs P [S] [.str s] = true)
    (walk : ∀ (w : World) (args : Array Value) (FF : Feet), Kept w → RepDs w ds args.toList FF → Calls P F args w fun e w' => e = .returned (.string s) ∧ Below w.heap.size w w') : Contract P F [] ds [.str s] := by
  refine ⟨fn, hf, hb, fun w args FF hkw _ hd hsep => ?_⟩
  refine (walk w args FF hkw hd).mono ?_
  rintro en w' ⟨rfl, bel⟩
  have hm : ∀ {α : Type} (vs : List α), muts ([] : List Bool) vs = [] := by
    intro α vs
    induction vs with
    | nil => rfl
    | cons v vs ih => simp [muts, ih]
  refine ⟨[.string s], [], rfl, by rw [hr]; rfl, ?_, by simp [Sep], fr_of_below bel, ?_, by rw [hr]; exact hk, ?_, ?_⟩
  · rw [hm, List.append_nil]
    simp only [RepDs, RepD]
    exact ⟨_, [], [], [], rfl, rfl, ⟨rfl, rfl⟩, rfl, rfl⟩
  · rintro b off ⟨A, hA, _⟩
    cases hA
  · rw [hm, hr]; rfl
  · rw [hm, hm]; simp [Ros]
/-- a number in decimal -/
def inI64 (n : Int) : Bool := decide (-9223372036854775808 ≤ n) && decide (n ≤ 9223372036854775807)
def itoaGo : List D → Option (List D)
  | [.int .i64 n] => cond (inI64 n) (some [.str ⟨(Lib.itoa n).toArray⟩]) none
  | _ => none
/-- a word and numbers behind single spaces -/
def spacedL (w : List UInt8) (l : List Int) : List UInt8 := w ++ l.flatMap fun n => 32 :: Lib.itoa n
def spacedGo : List D → Option (List D)
  | [.str w, .arr false _ (.ints .i64 l)] => cond (decide (w.size ≤ 1000) && (decide (l.length ≤ 1000) && l.all inI64)) (some [.str ⟨(spacedL w.data.toList l).toArray⟩]) none
  | _ => none
end Go.Ev
