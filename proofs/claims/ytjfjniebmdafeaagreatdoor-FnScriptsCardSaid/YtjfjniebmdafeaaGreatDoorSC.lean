/- More functions known from outside: the words of a line, words joined, a number read; of no program. -/
import Derived.Test.YtjfjniebmdafeaaGreatDoorSB
import Derived.Shelf.Strings.Fields
import Derived.Shelf.Strings.OnBuilder
import Derived.Shelf.Strconv.AtoiAll
namespace Go.Ev
open Go Go.RowKit Go.Sort
set_option linter.unusedVariables false
set_option linter.unusedSimpArgs false
/-- the value and the word of Atoi -/
def atoiV (s : List UInt8) : Int := match Lib.atoiAll s with
  | .ok v => v
  | .range => Lib.atoiSat s
  | _ => 0
def atoiB (s : List UInt8) : Bool := match Lib.atoiAll s with
  | .ok v => decide (Lib.itoa v = s)
  | _ => false
def pnumGo : List D → Option (List D)
  | [.str s] => cond (decide (s.size ≤ 1000)) (some [.int .i64 (atoiV s.data.toList), .bool (atoiB s.data.toList)]) none
  | _ => none
def wordsL (s : List UInt8) : List ByteArray := (Lib.fields s).map fun l => ⟨l.toArray⟩
def fldGo : List D → Option (List D)
  | [.str s] => cond (decide (s.size ≤ 1000) && s.data.toList.all fun b => decide (b.toNat < 128)) (some [.arr true false (.strs (wordsL s.data.toList))]) none
  | _ => none
def joinL (l : List ByteArray) (s : ByteArray) : List UInt8 := Lib.join (l.map (·.data.toList)) s.data.toList
def joinGo : List D → Option (List D)
  | [.arr false _ (.strs l), .str sep] => cond (decide ((joinL l sep).length ≤ 100000) && decide (l.length ≤ 100000)) (some [.str ⟨(joinL l sep).toArray⟩]) none
  | _ => none
/-- lines -/
def linesGo : List UInt8 → List UInt8 → List (List UInt8)
  | cur, [] => [cur]
  | cur, b :: l => cond (decide (b = 10)) (cur :: linesGo [] l) (linesGo (cur ++ [b]) l)
def linesL (s : List UInt8) : List ByteArray := (linesGo [] s).map fun l => ⟨l.toArray⟩
def splitGo : List D → Option (List D)
  | [.str s, .str sep] => cond (decide (s.size ≤ 1000000) && decide (sep.data.toList = [10])) (some [.arr true false (.strs (linesL s.data.toList))]) none
  | _ => none
/-- a function whose results are new, and that turns nothing that was there -/
theorem fresh_contract {P : Program} {F : Nat} {fn : Func} {ds rs : List D} (hf : P.funcs[F]? = some fn) (hb : fn.body.isSome = true) (hk : okTs P fn.resultTypes.toList rs = true)
    (walk : ∀ (w : World) (args : Array Value) (FF : Feet), Kept w → RepDs w ds args.toList FF → Calls P F args w fun e w' => ∃ outs F', e = .returned (retVal outs) ∧ outs.length = fn.resultTypes.size ∧ rs.length = fn.resultTypes.size ∧ RepDs w' rs outs F' ∧ Sep F' ∧ (∀ b off, ownOf F' b off → w.heap.size ≤ b) ∧ Below w.heap.size w w') : Contract P F [] ds rs := by
  refine ⟨fn, hf, hb, fun w args FF hkw _ hd hsep => ?_⟩
  refine (walk w args FF hkw hd).mono ?_
  rintro en w' ⟨outs, F', rfl, hl, hr, hrep, hs, hn, bel⟩
  have hm : ∀ {α : Type} (vs : List α), muts ([] : List Bool) vs = [] := by
    intro α vs
    induction vs with
    | nil => rfl
    | cons v vs ih => simp [muts, ih]
  refine ⟨outs, F', rfl, hl, ?_, hs, fr_of_below bel, fun b off h => .inr (hn b off h), hk, ?_, ?_⟩
  · rw [hm, List.append_nil]; exact hrep
  · rw [hm, List.drop_of_length_le (by omega)]; rfl
  · rw [hm, hm]; simp [Ros]
/-- texts in a new row -/
theorem strs_new (w : World) (l : List ByteArray) (T : TypeId) (hl : l.length ≤ 1000000) : ∃ F, RepDs (w.alloc (.cells (l.map fun s => Value.string s).toArray T)) [.arr true false (.strs l)] [.slice (some ⟨w.heap.size, 0, none⟩) l.length l.length] F ∧ Sep F ∧ ∀ b off, ownOf F b off → w.heap.size ≤ b := by
  have hc : (Arr.strs l).cells = l.map fun s => Value.string s := rfl
  have ho : (w.alloc (.cells (l.map fun s => Value.string s).toArray T)).ownsRow 0 T 1 (.slice (some ⟨w.heap.size, 0, none⟩) l.length l.length) l.length (Arr.strs l).cells := by
    refine ⟨by rw [hc]; simp, .inr ⟨w.heap.size, l.length, _, rfl, Nat.zero_le _, heap_alloc_new w _, Nat.le_refl _, ?_, ?_, ?_⟩⟩
    · simp only [maxLen]; omega
    · simp
    · rw [hc]; exact List.take_of_length_le (by simp)
  refine ⟨[(true, foot ⟨some ⟨w.heap.size, 0, none⟩, l.length, l.length, 1⟩ (.arr true false (.strs l)))], ?_, by simp [Sep], ?_⟩
  · simp only [RepDs, RepD]
    refine ⟨_, [], _, [], rfl, (List.append_nil _).symm, ⟨⟨some ⟨w.heap.size, 0, none⟩, l.length, l.length, 1⟩, rfl, ⟨rfl, rfl, by simp, by simp, fun x hx => ?_, fun _ => ⟨T, ho⟩⟩, rfl⟩, rfl, rfl⟩
    simp only [Option.some.injEq] at hx
    subst hx
    exact ⟨Nat.le_refl _, fun j u hj => ho.cells (g := w.heap.size) rfl j u hj⟩
  · rintro b off ⟨A, hA, _, h⟩
    rw [List.mem_singleton] at hA
    subst hA
    obtain ⟨x, hx, rfl, _⟩ := h
    simp only [Option.some.injEq] at hx
    subst hx
    exact Nat.le_refl _
end Go.Ev
