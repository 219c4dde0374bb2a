/- The evaluator: arguments as a claim hands them in, opened to data. -/
import Derived.Test.YtfgccfajhedgdaaE23
import Derived.ChangeArms
import Derived.WideShapes
import Derived.DataReads
namespace Go.Ev
set_option linter.unusedSimpArgs false
set_option linter.unusedVariables false
set_option linter.unnecessarySimpa false
open Go Go.RowKit
def wfI (n : Int) : Prop := (Lit.int .i64 n).wf = true
def ETy.fits : ETy → Arr → Prop
  | .int k, .ints k' l => k' = k ∧ ∀ n ∈ l, (Lit.int k n).wf = true
  | .bool, .bools _ => True
  | .str, .strs l => ∀ s ∈ l, s.size ≤ maxLen
  | .r3, .r3 l => ∀ x ∈ l, wfI x.1 ∧ wfI x.2.1 ∧ wfI x.2.2
  | .r4, .r4 l => ∀ x ∈ l, wfI x.1 ∧ wfI x.2.1 ∧ wfI x.2.2.1 ∧ wfI x.2.2.2
  | _, _ => False
def CTy.fits : CTy → D → Prop
  | .int k, d => ∃ n, d = .int k n ∧ (Lit.int k n).wf = true
  | .bool, d => ∃ b, d = .bool b
  | .str, d => ∃ s, d = .str s ∧ s.size ≤ maxLen
  | .sl e, d => ∃ nil a, d = .arr false nil a ∧ e.fits a ∧ a.len ≤ maxLen ∧ (nil = true → a.len = 0)
  | _, _ => False
def consec (P : Program) : List Field → Nat → Nat → Bool
  | [], off, tot => off == tot
  | f :: fs, off, tot => f.offset == off && consec P fs (off + P.cellsOf f.type) tot
def flatOk (P : Program) : Nat → TypeId → Bool
  | 0, _ => false
  | n + 1, t => match under P t with
    | .int _ => P.cellsOf t == 1
    | .bool => P.cellsOf t == 1
    | .string => P.cellsOf t == 1
    | .slice e => P.cellsOf t == 1 && flatOk P n e && decide (P.cellsOf e ≠ 0) && (match ctyN P (n + 1) t with
      | [.sl .other] => false
      | _ => true)
    | .struct fs => fs.toList.all (fun f => flatOk P n f.type) && consec P fs.toList 0 (P.cellsOf t)
    | _ => false
theorem build_list {β : Type} {Q : Nat → β → Prop} : ∀ (n : Nat), (∀ i, i < n → ∃ x, Q i x) → ∃ l : List β, l.length = n ∧ ∀ i x, l[i]? = some x → Q i x
  | 0, _ => ⟨[], rfl, fun i x h => by simp at h⟩
  | n + 1, h => by
    obtain ⟨l, hl, hq⟩ := build_list n fun i hi => h i (by omega)
    obtain ⟨x, hx⟩ := h n (by omega)
    refine ⟨l ++ [x], by simp [hl], fun i y hy => ?_⟩
    rcases Nat.lt_or_ge i l.length with hi | hi
    · rw [List.getElem?_append_left hi] at hy; exact hq i y hy
    · have : i = l.length := by
        have := (List.getElem?_eq_some_iff.1 hy).1
        simp at this; omega
      subst this
      simp at hy
      subst hy
      rw [hl]; exact hx
theorem cells_chunks {w : World} {a : Addr} {n : Nat} {cs : List Value} (hn : 0 < n) (h : ∀ i r u, r < n → cs[i * n + r]? = some u → w.cell? (a.add (i * n + r)) = some u) : CellsL w a cs := by
  intro j u hj
  have e : j / n * n + j % n = j := by rw [Nat.mul_comm]; exact Nat.div_add_mod j n
  have := h (j / n) (j % n) u (Nat.mod_lt _ (by omega)) (by rw [e]; exact hj)
  rwa [e] at this
theorem All2.append {α β : Type} {R : α → β → Prop} {l l' : List α} {m m' : List β} (h : All2 R l m) (k : All2 R l' m') : All2 R (l ++ l') (m ++ m') := by
  induction h with
  | nil => exact k
  | cons a b ih => exact .cons a ih
theorem flat_get3 {α : Type} {g : α → List Value} {n : Nat} (hg : ∀ x, (g x).length = n) : ∀ {l : List α} {i r : Nat} {u : Value}, r < n → (l.flatMap g)[i * n + r]? = some u → ∃ x, l[i]? = some x ∧ (g x)[r]? = some u
  | [], i, r, u, hr, h => by simp at h
  | x :: l, 0, r, u, hr, h => by
    rw [List.flatMap_cons, Nat.zero_mul, Nat.zero_add, List.getElem?_append_left (by rw [hg]; exact hr)] at h
    exact ⟨x, rfl, h⟩
  | x :: l, i + 1, r, u, hr, h => by
    rw [List.flatMap_cons, List.getElem?_append_right (by rw [hg, Nat.add_mul]; omega), hg, show (i + 1) * n + r - n = i * n + r by rw [Nat.add_mul]; omega] at h
    obtain ⟨y, h1, h2⟩ := flat_get3 hg hr h
    exact ⟨y, by simpa using h1, h2⟩
section
variable {H : Type} {enc : TypeId × Value → H} {P : Program} {w : World} {base : Nat} {sp : Nat → Bool} {held : Bool}
def Still (F : Feet) : Prop := ∀ A ∈ F, A.1 = false
theorem Still.nil : Still [] := fun A hA => by cases hA
theorem Still.append {F G : Feet} (h : Still F) (k : Still G) : Still (F ++ G) := fun A hA => by
  rcases List.mem_append.1 hA with hA | hA
  · exact h A hA
  · exact k A hA
theorem Still.sep {F : Feet} (h : Still F) : Sep F := by
  induction F with
  | nil => exact .nil
  | cons A F ih =>
    refine .cons (fun B hB hor => ?_) (ih fun B hB => h B (by simp [hB]))
    have h1 := h A (by simp)
    have h2 := h B (by simp [hB])
    rw [h1, h2] at hor
    simp at hor
theorem Still.own {F : Feet} (h : Still F) {b off : Nat} : ¬ ownOf F b off := by
  rintro ⟨A, hA, ho, _⟩
  rw [h A hA] at ho; cases ho
theorem one_rep {d : D} {v : Value} (h : RepD w d v []) : RepDs w [d] [v] [] := by
  simp only [RepDs]; exact ⟨v, [], [], [], rfl, rfl, h, rfl, rfl⟩
theorem one_rep' {d : D} {v : Value} {F : Feet} (h : RepD w d v F) : RepDs w [d] [v] F := by
  simp only [RepDs]; exact ⟨v, [], F, [], rfl, by simp, h, rfl, rfl⟩
/-- an array that is not its own, by its cells -/
theorem arr_open {a : Addr} {len cap : Nat} {ar : Arr} (hl : ar.len = len) (hc : len ≤ cap) (h : CellsL w a ar.cells) : ∃ F, RepD w (.arr false false ar) (.slice (some a) len cap) F ∧ Still F := by
  refine ⟨_, ⟨⟨some a, len, cap, ar.size⟩, rfl, ⟨hl, rfl, by simp, by simp, fun x hx => ?_, by simp⟩, rfl⟩, fun A hA => by simp at hA; rw [hA]⟩
  simp only [Option.some.injEq] at hx
  subst hx
  exact ⟨hc, h⟩
theorem open_cells (m : Nat) : ∀ (t : TypeId) (cs : List Value) (fuel : Nat) (x : DataW H × List MemPlace), flatOk P m t = true → DataW.trod enc P w base sp held fuel t cs = some x →
    ∃ ds F, RepDs w ds cs F ∧ Still F ∧ All2 CTy.fits (ctyN P m t) ds := by
  induction m with
  | zero => intro t cs fuel x h; simp [flatOk] at h
  | succ m ih =>
    intro t cs fuel x h ht
    unfold flatOk at h
    split at h
    · rename_i k hu
      obtain ⟨n, rfl, _, hw⟩ := DataW.trod_int (under_some hu (by simp)) ht
      exact ⟨[.int k n], [], one_rep (by simp [RepD]), Still.nil, by simp only [ctyN, hu]; exact .cons ⟨n, rfl, hw⟩ .nil⟩
    · rename_i hu
      obtain ⟨n, rfl, _⟩ := DataW.trod_bool (under_some hu (by simp)) ht
      exact ⟨[.bool n], [], one_rep (by simp [RepD]), Still.nil, by simp only [ctyN, hu]; exact .cons ⟨n, rfl⟩ .nil⟩
    · rename_i hu
      obtain ⟨s, rfl, _, hw⟩ := DataW.trod_string (under_some hu (by simp)) ht
      exact ⟨[.str s], [], one_rep (by simp [RepD]), Still.nil, by simp only [ctyN, hu]; exact .cons ⟨s, rfl, hw⟩ .nil⟩
    · rename_i e hu
      simp only [Bool.and_eq_true, decide_eq_true_eq, beq_iff_eq] at h
      obtain ⟨⟨⟨h1, h2⟩, h3⟩, h4⟩ := h
      have hun := under_some hu (by simp)
      have key : ∀ (ety : ETy), ctyN P (m + 1) t = [.sl ety] → (∃ ar0, ety.arr = some ar0 ∧ ety.fits ar0) → (∀ (a : Addr) (len : Nat), (∀ i, i < len → ∃ ds c1 F, w.cells? base (a.add (i * P.cellsOf e)) (P.cellsOf e) = some c1 ∧ RepDs w ds c1 F ∧ All2 CTy.fits (ctyN P m e) ds) → ∃ ar : Arr, ar.len = len ∧ ety.fits ar ∧ CellsL w a ar.cells) →
          ∃ ds F, RepDs w ds cs F ∧ Still F ∧ All2 CTy.fits (ctyN P (m + 1) t) ds := by
        intro ety hcty hnil hbuild
        rw [hcty]
        rcases DataW.trod_slice hun ht with ⟨rfl, _⟩ | ⟨a, len, cap, elems, rest, n, _, rfl, _, hb, hl, hm, hel, hE, _⟩
        · obtain ⟨ar0, ha0, hf0⟩ := hnil
          obtain ⟨z1, z2⟩ := arr_of_nil ha0
          refine ⟨[.arr false true ar0], _, one_rep' ⟨⟨none, 0, 0, ar0.size⟩, rfl, ?_, rfl⟩, fun A hA => by simp at hA; rw [hA], .cons ⟨true, ar0, rfl, hf0, by omega, fun _ => z1⟩ .nil⟩
          exact ⟨z1, rfl, by simp, by simp, by simp, by simp⟩
        · obtain ⟨ar, g1, g2, g3⟩ := hbuild a len fun i hi => by
            have hEi := hE i hi
            rw [List.getElem?_eq_getElem (by omega)] at hEi
            simp only [Option.bind_eq_some_iff] at hEi
            obtain ⟨c1, hc1, hy⟩ := hEi
            obtain ⟨ds, F, k1, _, k3⟩ := ih e c1 n _ h2 hy
            exact ⟨ds, c1, F, hc1, k1, k3⟩
          obtain ⟨F, k1, k2⟩ := arr_open (w := w) (a := a) g1 hl g3
          exact ⟨[.arr false false ar], F, one_rep' k1, k2, .cons ⟨false, ar, rfl, g2, by omega, by simp⟩ .nil⟩
      -- one cell each
      have one : ∀ {β : Type} (mk : β → Value) (Q : β → Prop) (a : Addr) (len : Nat), P.cellsOf e = 1 → (∀ ds c1 F, RepDs w ds c1 F → All2 CTy.fits (ctyN P m e) ds → ∃ y, c1 = [mk y] ∧ Q y) →
          (∀ i, i < len → ∃ ds c1 F, w.cells? base (a.add (i * P.cellsOf e)) (P.cellsOf e) = some c1 ∧ RepDs w ds c1 F ∧ All2 CTy.fits (ctyN P m e) ds) → ∃ l : List β, l.length = len ∧ (∀ y ∈ l, Q y) ∧ CellsL w a (l.map mk) := by
        intro β mk Q a len h1 hv hE
        obtain ⟨l, hl, hq⟩ := build_list (Q := fun i y => w.cell? (a.add i) = some (mk y) ∧ Q y) len fun i hi => by
          obtain ⟨ds, c1, F, k1, k2, k3⟩ := hE i hi
          obtain ⟨y, rfl, hy⟩ := hv ds c1 F k2 k3
          obtain ⟨_, _, hcell⟩ := World.cells?_some k1
          have := hcell 0 (by omega)
          rw [addr_add_zero, h1, Nat.mul_one] at this
          exact ⟨y, by simpa using this, hy⟩
        refine ⟨l, hl, fun y hy => ?_, fun j u hj => ?_⟩
        · obtain ⟨i, hi, rfl⟩ := List.getElem_of_mem hy
          exact (hq i _ (List.getElem?_eq_getElem hi)).2
        · rw [List.getElem?_map] at hj
          cases hy : l[j]? with
          | none => rw [hy] at hj; cases hj
          | some y => rw [hy] at hj; cases hj; exact (hq j y hy).1
      have many : ∀ {β : Type} (mk : β → List Value) (n : Nat) (Q : β → Prop) (a : Addr) (len : Nat), 0 < n → (∀ y, (mk y).length = n) → (∀ ds c1 F, RepDs w ds c1 F → All2 CTy.fits (ctyN P m e) ds → ∃ y, c1 = mk y ∧ Q y) →
          (∀ i, i < len → ∃ ds c1 F, w.cells? base (a.add (i * P.cellsOf e)) (P.cellsOf e) = some c1 ∧ RepDs w ds c1 F ∧ All2 CTy.fits (ctyN P m e) ds) → ∃ l : List β, l.length = len ∧ (∀ y ∈ l, Q y) ∧ CellsL w a (l.flatMap mk) := by
        intro β mk n Q a len hn hmk hv hE
        obtain ⟨l, hl, hq⟩ := build_list (Q := fun i y => (∀ r u, (mk y)[r]? = some u → w.cell? (a.add (i * n + r)) = some u) ∧ Q y) len fun i hi => by
          obtain ⟨ds, c1, F, k1, k2, k3⟩ := hE i hi
          obtain ⟨y, rfl, hy⟩ := hv ds c1 F k2 k3
          obtain ⟨_, hlen, hcell⟩ := World.cells?_some k1
          rw [hmk] at hlen
          refine ⟨y, fun r u hr => ?_, hy⟩
          have hlt := (List.getElem?_eq_some_iff.1 hr).1
          rw [hmk] at hlt
          have := hcell r (by omega)
          rw [addr_add_add, ← hlen, hr] at this
          exact this
        refine ⟨l, hl, fun y hy => ?_, cells_chunks hn fun i r u hr hj => ?_⟩
        · obtain ⟨i, hi, rfl⟩ := List.getElem_of_mem hy
          exact (hq i _ (List.getElem?_eq_getElem hi)).2
        · obtain ⟨y, h1, h2⟩ := flat_get3 hmk hr hj
          exact (hq i y h1).1 r u h2
      cases m with
      | zero => simp [flatOk] at h2
      | succ m =>
      generalize hcg : ctyN P (m + 1 + 1) t = c at h4 key ⊢
      unfold ctyN at hcg
      rw [hu] at hcg
      simp only at hcg
      split at hcg
      · rename_i _ fs hue hce
        subst hcg
        refine key .r3 rfl ⟨.r3 [], rfl, by simp [ETy.fits]⟩ fun a len hE => ?_
        obtain ⟨l, g1, g2, g3⟩ := many (fun x : Int × Int × Int => [.int .i64 x.1, .int .i64 x.2.1, .int .i64 x.2.2]) 3 (fun x => wfI x.1 ∧ wfI x.2.1 ∧ wfI x.2.2) a len (by omega) (by simp) (fun ds c1 F k1 k2 => by
          rw [hce] at k2
          cases k2 with | cons a1 k2 => cases k2 with | cons a2 k2 => cases k2 with | cons a3 k2 => cases k2 with | nil =>
          obtain ⟨n1, rfl, w1⟩ := a1
          obtain ⟨n2, rfl, w2⟩ := a2
          obtain ⟨n3, rfl, w3⟩ := a3
          simp only [RepDs, RepD] at k1
          obtain ⟨_, _, _, _, rfl, _, ⟨rfl, _⟩, _, _, _, _, rfl, _, ⟨rfl, _⟩, _, _, _, _, rfl, _, ⟨rfl, _⟩, rfl, _⟩ := k1
          exact ⟨(n1, n2, n3), rfl, w1, w2, w3⟩) hE
        exact ⟨.r3 l, g1, g2, g3⟩
      · rename_i _ fs hue hce
        subst hcg
        refine key .r4 rfl ⟨.r4 [], rfl, by simp [ETy.fits]⟩ fun a len hE => ?_
        obtain ⟨l, g1, g2, g3⟩ := many (fun x : Int × Int × Int × Int => [.int .i64 x.1, .int .i64 x.2.1, .int .i64 x.2.2.1, .int .i64 x.2.2.2]) 4 (fun x => wfI x.1 ∧ wfI x.2.1 ∧ wfI x.2.2.1 ∧ wfI x.2.2.2) a len (by omega) (by simp) (fun ds c1 F k1 k2 => by
          rw [hce] at k2
          cases k2 with | cons a1 k2 => cases k2 with | cons a2 k2 => cases k2 with | cons a3 k2 => cases k2 with | cons a4 k2 => cases k2 with | nil =>
          obtain ⟨n1, rfl, w1⟩ := a1
          obtain ⟨n2, rfl, w2⟩ := a2
          obtain ⟨n3, rfl, w3⟩ := a3
          obtain ⟨n4, rfl, w4⟩ := a4
          simp only [RepDs, RepD] at k1
          obtain ⟨_, _, _, _, rfl, _, ⟨rfl, _⟩, _, _, _, _, rfl, _, ⟨rfl, _⟩, _, _, _, _, rfl, _, ⟨rfl, _⟩, _, _, _, _, rfl, _, ⟨rfl, _⟩, rfl, _⟩ := k1
          exact ⟨(n1, n2, n3, n4), rfl, w1, w2, w3, w4⟩) hE
        exact ⟨.r4 l, g1, g2, g3⟩
      · rename_i k hue
        subst hcg
        have hce : ctyN P (m + 1) e = [.int k] := by simp only [ctyN, hue]
        have hc1 : P.cellsOf e = 1 := by unfold flatOk at h2; rw [hue] at h2; simpa using h2
        refine key (.int k) rfl ⟨.ints k [], rfl, by simp [ETy.fits]⟩ fun a len hE => ?_
        obtain ⟨l, g1, g2, g3⟩ := one (fun n : Int => .int k n) (fun n => (Lit.int k n).wf = true) a len hc1 (fun ds c1 F k1 k2 => by
          rw [hce] at k2
          cases k2 with | cons a1 k2 => cases k2 with | nil =>
          obtain ⟨n1, rfl, w1⟩ := a1
          simp only [RepDs, RepD] at k1
          obtain ⟨_, _, _, _, rfl, _, ⟨rfl, _⟩, rfl, _⟩ := k1
          exact ⟨n1, rfl, w1⟩) hE
        exact ⟨.ints k l, g1, ⟨rfl, g2⟩, g3⟩
      · rename_i hue
        subst hcg
        have hce : ctyN P (m + 1) e = [.bool] := by simp only [ctyN, hue]
        have hc1 : P.cellsOf e = 1 := by unfold flatOk at h2; rw [hue] at h2; simpa using h2
        refine key .bool rfl ⟨.bools [], rfl, by simp [ETy.fits]⟩ fun a len hE => ?_
        obtain ⟨l, g1, g2, g3⟩ := one (fun n : Bool => .bool n) (fun n => True) a len hc1 (fun ds c1 F k1 k2 => by
          rw [hce] at k2
          cases k2 with | cons a1 k2 => cases k2 with | nil =>
          obtain ⟨n1, rfl⟩ := a1
          simp only [RepDs, RepD] at k1
          obtain ⟨_, _, _, _, rfl, _, ⟨rfl, _⟩, rfl, _⟩ := k1
          exact ⟨n1, rfl, trivial⟩) hE
        exact ⟨.bools l, g1, trivial, g3⟩
      · rename_i hue
        subst hcg
        have hce : ctyN P (m + 1) e = [.str] := by simp only [ctyN, hue]
        have hc1 : P.cellsOf e = 1 := by unfold flatOk at h2; rw [hue] at h2; simpa using h2
        refine key .str rfl ⟨.strs [], rfl, by simp [ETy.fits]⟩ fun a len hE => ?_
        obtain ⟨l, g1, g2, g3⟩ := one (fun n : ByteArray => .string n) (fun s => s.size ≤ maxLen) a len hc1 (fun ds c1 F k1 k2 => by
          rw [hce] at k2
          cases k2 with | cons a1 k2 => cases k2 with | nil =>
          obtain ⟨n1, rfl, w1⟩ := a1
          simp only [RepDs, RepD] at k1
          obtain ⟨_, _, _, _, rfl, _, ⟨rfl, _⟩, rfl, _⟩ := k1
          exact ⟨n1, rfl, w1⟩) hE
        exact ⟨.strs l, g1, g2, g3⟩
      · subst hcg
        simp at h4
    · rename_i fs hu
      simp only [Bool.and_eq_true, List.all_eq_true] at h
      obtain ⟨xs, n, _, _, hlen, hxl, hF⟩ := DataW.trod_struct (under_some hu (by simp)) ht
      have main : ∀ (fl : List Field) (off : Nat), (∀ f ∈ fl, flatOk P m f.type = true) → consec P fl off (P.cellsOf t) = true → (∀ f ∈ fl, ∃ y, DataW.trod enc P w base sp held n f.type ((cs.drop f.offset).take (P.cellsOf f.type)) = some y) →
          ∃ ds F, RepDs w ds (cs.drop off) F ∧ Still F ∧ All2 CTy.fits (fl.flatMap fun f => ctyN P m f.type) ds := by
        intro fl
        induction fl with
        | nil =>
          intro off _ hc _
          simp only [consec, beq_iff_eq] at hc
          refine ⟨[], [], ?_, Still.nil, .nil⟩
          rw [List.drop_of_length_le (by omega)]
          exact ⟨rfl, rfl⟩
        | cons f fl ihf =>
          intro off hfl hc hy
          simp only [consec, Bool.and_eq_true, beq_iff_eq] at hc
          obtain ⟨y, hy1⟩ := hy f (by simp)
          obtain ⟨ds1, F1, k1, k2, k3⟩ := ih f.type _ n y (hfl f (by simp)) hy1
          obtain ⟨ds2, F2, l1, l2, l3⟩ := ihf (off + P.cellsOf f.type) (fun f hf => hfl f (by simp [hf])) hc.2 (fun f hf => hy f (by simp [hf]))
          refine ⟨ds1 ++ ds2, F1 ++ F2, ?_, k2.append l2, ?_⟩
          · rw [← hc.1] at l1
            have := k1.append l1
            rw [hc.1] at this
            rw [← List.drop_drop, List.take_append_drop] at this
            exact this
          · rw [List.flatMap_cons]
            exact k3.append l3
      obtain ⟨ds, F, k1, k2, k3⟩ := main fs.toList 0 h.1 h.2 (fun f hf => by
        obtain ⟨i, hi, rfl⟩ := List.getElem_of_mem hf
        have := hF i fs.toList[i] (by simp at hi ⊢)
        rw [this]
        exact ⟨_, List.getElem?_eq_getElem (by rw [hxl]; simpa using hi)⟩)
      exact ⟨ds, F, by simpa using k1, k2, by simpa only [ctyN, hu] using k3⟩
    · cases h
end
end Go.Ev
