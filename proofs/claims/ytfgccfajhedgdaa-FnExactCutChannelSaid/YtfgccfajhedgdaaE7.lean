/- The evaluator: structs and slices made; append; strings and bytes. -/
import Derived.Test.YtfgccfajhedgdaaE6
import Derived.Laws.MakeOwn
import Derived.Laws.IdiomStrings
import Derived.Laws.OwnMore
import Derived.Lib.AppendStr
namespace Go.Ev
set_option linter.unusedSimpArgs false
set_option linter.unusedVariables false
open Go Go.RowKit
section
variable {cal : Nat → List D → Option (List D)} {l : List Ac} {v : AV} {w0 : World} {M : Nat → Nat → Prop} {ρ : Env} {g : Hp} {w w' : World} {P : Program}

def RepP (ρ : Env) : List (Nat × AV) → List (Nat × Value) → Prop
  | [], vs => vs = []
  | c :: cs, vs => ∃ u us, vs = u :: us ∧ u.1 = c.1 ∧ RepV ρ c.2 u.2 ∧ RepP ρ cs us
theorem RepP.mono {ρ ρ' : Env} (h : Sub ρ ρ') : ∀ {cs : List (Nat × AV)} {us : List (Nat × Value)}, RepP ρ cs us → RepP ρ' cs us
  | [], _, r => r
  | c :: cs, us, r => by
    obtain ⟨u, us, rfl, h1, h2, h3⟩ := r
    exact ⟨u, us, rfl, h1, RepV.mono h _ _ h2, h3.mono h⟩
theorem fold_mid : ∀ (vs : List Value) (k off : Nat) (cells : Array Value), off + k + vs.length ≤ cells.size →
    ((vs.zipIdx k).foldl (fun cs (x : Value × Nat) => cs.setIfInBounds (off + x.2) x.1) cells).toList = mid cells.toList (off + k) vs
  | [], k, off, cells, h => by simp [mid]
  | u :: vs, k, off, cells, h => by
    simp only [List.length_cons] at h
    have ih := fold_mid vs (k + 1) off (cells.setIfInBounds (off + k) u) (by simp; omega)
    simp only [List.zipIdx_cons, List.foldl_cons]
    rw [ih]
    apply List.ext_getElem?
    intro j
    rw [mid_get (by simp; omega), mid_get (l := cells.toList) (by simp; omega)]
    by_cases h1 : off + (k + 1) ≤ j ∧ j < off + (k + 1) + vs.length
    · rw [if_pos h1, if_pos (by simp only [List.length_cons]; omega)]
      rw [show j - (off + k) = (j - (off + (k + 1))) + 1 from by omega, List.getElem?_cons_succ]
    · rw [if_neg h1]
      by_cases h2 : j = off + k
      · subst h2
        rw [if_pos (by simp only [List.length_cons]; omega)]
        simp only [Nat.sub_self, List.getElem?_cons_zero, Array.getElem?_toList]
        rw [Array.getElem?_setIfInBounds_self_of_lt (by omega)]
      · rw [if_neg (by simp only [List.length_cons]; omega)]
        simp only [Array.getElem?_toList]
        rw [Array.getElem?_setIfInBounds_ne (by omega)]
theorem fill_step {place : Nat → Option (Nat × Nat)} {i off size : Nat} {u : Value} {cells : Array Value} {rest : List (Nat × Value)} (hp : place i = some (off, size)) (h1 : u.cells.size = size) (h2 : off + size ≤ cells.size) :
    Instr.fill place cells ((i, u) :: rest) = Instr.fill place (mid cells.toList off u.cells.toList).toArray rest := by
  have hf : u.cells.zipIdx.foldl (fun cs (x : Value × Nat) => cs.setIfInBounds (off + x.2) x.1) cells = (mid cells.toList off u.cells.toList).toArray := by
    apply Array.ext'
    rw [← Array.foldl_toList]
    have := fold_mid u.cells.toList 0 off cells (by simp; omega)
    simpa using this
  have hc : ¬ (u.cells.size ≠ size ∨ off + u.cells.size > cells.size) := by omega
  conv => lhs; unfold Instr.fill
  simp only [hp]
  rw [if_neg (by simpa using hc)]
  exact congrArg (fun c => Instr.fill place c rest) hf
theorem buildGo_ok {fs : Array Field} : ∀ {parts : List (Nat × AV)} {ps : List (Nat × Value)} {cs out : List AV} {cells : Array Value}, buildGo P fs.toList cs parts = some out → RepVs ρ cs cells.toList → RepP ρ parts ps →
    ∃ cells', Instr.fill (fun i => (fs.map fun f => (f.offset, P.cellsOf f.type))[i]?) cells ps = some cells' ∧ RepVs ρ out cells'.toList
  | [], ps, cs, out, cells, h, hr, hp => by
    simp only [RepP] at hp; subst hp
    simp only [buildGo, Option.some.injEq] at h; subst h
    exact ⟨cells, rfl, hr⟩
  | (i, c) :: parts, ps, cs, out, cells, h, hr, hp => by
    obtain ⟨⟨i', u⟩, us, rfl, hi, h2, h3⟩ := hp
    simp only at hi h2
    subst hi
    simp only [buildGo] at h
    split at h
    · cases h
    · rename_i f hf
      split at h
      · rename_i hc
        obtain ⟨hone, hc1, hc2⟩ := hc
        obtain ⟨hcr, hco⟩ := cells_rep h2 hone
        have hsz : u.cells.size = P.cellsOf f.type := by have := hcr.length; simp only [Array.length_toList] at this; omega
        have hlen := hr.length
        simp only [Array.length_toList] at hlen
        have hpl : (fs.map fun f => (f.offset, P.cellsOf f.type))[i']? = some (f.offset, P.cellsOf f.type) := by
          simp only [Array.getElem?_toList] at hf
          simp [hf]
        rw [fill_step (place := fun i => (fs.map fun f => (f.offset, P.cellsOf f.type))[i]?) hpl hsz (by omega)]
        refine buildGo_ok h ?_ h3
        exact mid_rep hr hcr
      · cases h
theorem mapM_fields {fs : Array Field} (h : fs.all (fun f => !(Nat.beq (P.cellsOf f.type) 0)) = true) : (fs.mapM fun f => do pure (f.offset, ← sizeOf f.type) : Sem (Array (Nat × Nat))).run P w = .ok (fs.map fun f => (f.offset, P.cellsOf f.type)) w := by
  obtain ⟨fs⟩ := fs
  simp only [List.all_toArray] at h
  simp only [List.mapM_toArray, List.map_toArray]
  have : (fs.mapM fun f => do pure (f.offset, ← sizeOf f.type) : Sem (List (Nat × Nat))).run P w = .ok (fs.map fun f => (f.offset, P.cellsOf f.type)) w := by
    induction fs with
    | nil => simp
    | cons f fs ih =>
      simp only [List.all_cons, Bool.and_eq_true, Bool.not_eq_true'] at h
      have hne : P.cellsOf f.type ≠ 0 := by intro h0; have := h.1; rw [h0] at this; simp at this
      rw [List.mapM_cons]
      simp only [Sem.run_bind, run_sizeOf' hne, Result.andThen_ok, Sem.run_pure, ih h.2, List.map_cons]
  show (List.toArray <$> _ : Sem (Array (Nat × Nat))).run P w = _
  rw [Sem.run_map, this]
  rfl
theorem buildP_ok {t : TypeId} {parts : List (Nat × AV)} {ps : Array (Nat × Value)} (S : Sit cal (buildP P t parts) l v w0 M ρ g w) (hp : RepP ρ parts ps.toList) : SemOk P (Instr.build t ps) l v w0 M ρ g w := by
  unfold buildP at S
  split at S
  · rename_i fs hu
    have hun := under_some hu (by simp)
    split at S
    · rename_i z hz
      obtain ⟨i, zv, hi, hzv, hzr⟩ := zeroCells_ok (ρ := ρ) hz
      split at S
      · rename_i cs hcs
        have S0 := S.chk; clear S; obtain ⟨hall, S⟩ := S0
        obtain ⟨cells, hfill, hrep⟩ := buildGo_ok hcs hzr hp
        obtain ⟨cs', l1, g1, ρ1, S1, ⟨hcs', _⟩, hs, hF⟩ := fixs_ok _ _ S hrep
        refine ⟨.agg cells, w, ?_, hF _ _ (ret_ok S1 ?_)⟩
        · simp only [Instr.build, Sem.run_bind, zeroValue, typeInfo, run_program, hi, hzv, Result.andThen_ok, Sem.run_pure, run_underlying hun]
          rw [mapM_fields hall]
          simp only [Result.andThen_ok]
          have hfill' : Instr.fill (fun x => (fs.map fun f => (f.offset, P.cellsOf f.type))[x]?) zv.cells ps.toList = some cells := hfill
          rw [hfill']
          simp
        · simp only [RepV]
          exact ⟨cells, rfl, hcs'⟩
      · exact S.fail
    · exact S.fail
  · exact S.fail

/-! arrays made -/
def RepVss (ρ : Env) : List (List AV) → List (List Value) → Prop
  | [], vs => vs = []
  | c :: cs, vs => ∃ u us, vs = u :: us ∧ RepVs ρ c u ∧ RepVss ρ cs us
theorem of_spec {e : ETy} : ∀ {cs : List (List AV)} {us : List (List Value)} {a : Arr}, e.of cs = some a → RepVss ρ cs us → a.len = cs.length ∧ a.cells = us.flatten ∧ ∀ c ∈ cs, c.length = a.size
  | [], us, a, h, r => by
    simp only [RepVss] at r; subst r
    simp only [ETy.of] at h
    obtain ⟨h0, hc⟩ := arr_of_nil h
    exact ⟨by simp [h0], by simp [hc], by simp⟩
  | c :: cs, us, a, h, r => by
    obtain ⟨u, us, rfl, h1, h2⟩ := r
    simp only [ETy.of] at h
    split at h
    · rename_i k' l k n he
      split at h
      · rename_i hk; subst hk
        cases h
        obtain ⟨g1, g2, g3⟩ := of_spec he h2
        simp only [RepVs, RepV] at h1
        obtain ⟨_, _, rfl, rfl, rfl⟩ := h1
        refine ⟨by simpa [Arr.len] using g1, by simpa [Arr.cells] using g2, ?_⟩
        intro c hc
        rcases List.mem_cons.1 hc with rfl | hc
        · rfl
        · exact g3 c hc
      · cases h
    · rename_i l b he
      cases h
      obtain ⟨g1, g2, g3⟩ := of_spec he h2
      simp only [RepVs, RepV] at h1
      obtain ⟨_, _, rfl, rfl, rfl⟩ := h1
      refine ⟨by simpa [Arr.len] using g1, by simpa [Arr.cells] using g2, ?_⟩
      intro c hc
      rcases List.mem_cons.1 hc with rfl | hc
      · rfl
      · exact g3 c hc
    · rename_i l s he
      cases h
      obtain ⟨g1, g2, g3⟩ := of_spec he h2
      simp only [RepVs, RepV] at h1
      obtain ⟨_, _, rfl, rfl, rfl⟩ := h1
      refine ⟨by simpa [Arr.len] using g1, by simpa [Arr.cells] using g2, ?_⟩
      intro c hc
      rcases List.mem_cons.1 hc with rfl | hc
      · rfl
      · exact g3 c hc
    · rename_i l x y z he
      cases h
      obtain ⟨g1, g2, g3⟩ := of_spec he h2
      simp only [RepVs, RepV] at h1
      obtain ⟨_, _, rfl, rfl, _, _, rfl, rfl, _, _, rfl, rfl, rfl⟩ := h1
      refine ⟨by simpa [Arr.len] using g1, by simpa [Arr.cells] using g2, ?_⟩
      intro c hc
      rcases List.mem_cons.1 hc with rfl | hc
      · rfl
      · exact g3 c hc
    · rename_i l x y z q he
      cases h
      obtain ⟨g1, g2, g3⟩ := of_spec he h2
      simp only [RepVs, RepV] at h1
      obtain ⟨_, _, rfl, rfl, _, _, rfl, rfl, _, _, rfl, rfl, _, _, rfl, rfl, rfl⟩ := h1
      refine ⟨by simpa [Arr.len] using g1, by simpa [Arr.cells] using g2, ?_⟩
      intro c hc
      rcases List.mem_cons.1 hc with rfl | hc
      · rfl
      · exact g3 c hc
    · cases h
theorem elemOk_spec {e : TypeId} {size : Nat} (h : elemOk P e size = true) : ∃ i z, P.info? e = some i ∧ i.zero = some z ∧ z.cells.size = i.size ∧ i.size = size ∧ i.bytes ≤ 64 ∧ P.cellsOf e = size := by
  unfold elemOk at h
  split at h
  · rename_i i hi
    split at h
    · rename_i z hz
      simp only [Bool.and_eq_true, beq_iff_eq, decide_eq_true_eq] at h
      exact ⟨i, z, hi, hz, h.1.1, h.1.2, h.2, by simp [Program.cellsOf, hi, h.1.2]⟩
    · cases h
  · cases h
/-- a new array of the call's own -/
theorem newArr_ok {a : Arr} {nil : Bool} {ρ1 : Env} {g1 : Hp} {l1 : List Ac} {x : Option Addr} {cap : Nat} {e : TypeId} (S : Sit cal (.new (.arr true nil a) fun id => .ret (.sl id none)) l1 v w0 M ρ1 g1 w)
    (hw : Fr (fun _ _ => False) w w') (ho : w'.ownsRow 0 e a.size (.slice x a.len cap) a.len a.cells) (hn : nil = true ↔ x = none) (hb : ∀ y, x = some y → w.heap.size ≤ y.block) :
    Fin w0 M l1 g1 ρ1 w' (fun ρ' => RepV ρ' v (.slice x a.len cap)) := by
  obtain ⟨id, l', rfl, hid, hd, hS⟩ := S.new
  have hr : RepE (updρ ρ1 id ⟨x, a.len, cap, a.size⟩) w' ⟨x, a.len, cap, a.size⟩ (.arr true nil a) := by
    refine ⟨rfl, rfl, hn, ?_, ?_, fun _ => ⟨e, ho⟩⟩
    · intro hx
      simp only at hx
      subst hx
      rcases ho.2 with ⟨h1, h2⟩ | ⟨b, cap', cur, h1, _⟩
      · simp only [Value.slice.injEq] at h1; exact ⟨h1.2.2, h2⟩
      · simp only [Value.slice.injEq, reduceCtorEq, false_and] at h1
    · intro y hy
      simp only at hy
      subst hy
      rcases ho.2 with ⟨h1, h2⟩ | ⟨b, cap', cur, h1, _, _, h3, _⟩
      · simp only [Value.slice.injEq, reduceCtorEq, false_and] at h1
      · simp only [Value.slice.injEq, Option.some.injEq, true_and] at h1
        obtain ⟨rfl, rfl⟩ := h1
        exact ⟨h3, fun j u hj => ho.cells (g := b) rfl j u hj⟩
  have I := S.inv.new (id := id) (p := ⟨x, a.len, cap, a.size⟩) (e := .arr true nil a) hid hw hr
    (.inl ⟨rfl, fun b off hf => by obtain ⟨y, hy, rfl, _⟩ := hf; exact hb y hy⟩)
  obtain ⟨rfl, rfl⟩ := (hS _ _ I).ret
  refine Fin.new hid (Fin.here I ?_)
  simp only [RepV]
  exact ⟨_, updρ_same _ _ _, rfl⟩

/-! a slice out of its elements -/
theorem mid_end {α : Type} {A B m : List α} (h : m.length ≤ B.length) : mid (A ++ B) A.length m = (A ++ m) ++ B.drop m.length := by
  unfold mid
  rw [List.take_left, List.drop_append, List.drop_of_length_le (by omega), Nat.add_sub_cancel_left, List.nil_append]
theorem fill_row (size : Nat) : ∀ (parts : List (Nat × AV)) (ps : List (Nat × Value)) (n : Nat) (A B : List Value), RepP ρ parts ps → inOrder n parts = true → (∀ c ∈ parts.map (·.2.cells), c.length = size) → (∀ c ∈ parts, c.2.cells.all AV.one = true) →
    A.length = n * size → B.length = parts.length * size →
    Instr.fill (fun i => some (i * size, size)) (A ++ B).toArray ps = some (A ++ (ps.map fun q => q.2.cells.toList).flatten).toArray ∧ RepVss ρ (parts.map (·.2.cells)) (ps.map fun q => q.2.cells.toList)
  | [], ps, n, A, B, hp, _, _, _, _, hB => by
    simp only [RepP] at hp; subst hp
    have : B = [] := List.eq_nil_of_length_eq_zero (by simpa using hB)
    subst this
    exact ⟨by simp [Instr.fill], by simp [RepVss]⟩
  | (i, c) :: parts, ps, n, A, B, hp, ho, hc, h1, hA, hB => by
    obtain ⟨⟨i', u⟩, us, rfl, hi, h2, h3⟩ := hp
    simp only at hi h2
    subst hi
    simp only [inOrder, Bool.and_eq_true, beq_iff_eq] at ho
    obtain ⟨rfl, ho⟩ := ho
    obtain ⟨hcr, _⟩ := cells_rep h2 (h1 (i', c) (by simp))
    have hsz : u.cells.size = size := by
      have := hcr.length; simp only [Array.length_toList] at this
      rw [this]; exact hc _ (by simp)
    simp only [List.length_cons, Nat.add_mul, Nat.one_mul] at hB
    have hul : u.cells.toList.length = size := by simpa using hsz
    rw [fill_step (place := fun i => some (i * size, size)) rfl hsz (by simp only [List.size_toArray, List.length_append]; omega)]
    rw [← hA, mid_end (by omega)]
    obtain ⟨g1, g2⟩ := fill_row size parts us (i' + 1) (A ++ u.cells.toList) (B.drop u.cells.toList.length) h3 ho (fun x hx => hc x (by simp at hx ⊢; exact .inr hx)) (fun x hx => h1 x (by simp [hx]))
      (by rw [List.length_append, hA, hul, Nat.add_mul, Nat.one_mul]) (by rw [List.length_drop]; omega)
    refine ⟨?_, ?_⟩
    · rw [g1]
      simp [List.append_assoc]
    · exact ⟨_, _, rfl, hcr, g2⟩
theorem of_one {e : ETy} : ∀ {cs : List (List AV)} {a : Arr}, e.of cs = some a → ∀ c ∈ cs, c.all AV.one = true
  | [], a, h, c, hc => by cases hc
  | c :: cs, a, h, d, hd => by
    simp only [ETy.of] at h
    have key : c.all AV.one = true ∧ ∃ b, e.of cs = some b := by
      split at h
      · rename_i he; exact ⟨by simp [AV.one], _, he⟩
      · rename_i he; exact ⟨by simp [AV.one], _, he⟩
      · rename_i he; exact ⟨by simp [AV.one], _, he⟩
      · rename_i he; exact ⟨by simp [AV.one], _, he⟩
      · rename_i he; exact ⟨by simp [AV.one], _, he⟩
      · cases h
    obtain ⟨h1, b, hb⟩ := key
    rcases List.mem_cons.1 hd with rfl | hd
    · exact h1
    · exact of_one hb d hd
theorem buildSliceP_ok {t : TypeId} {n : Nat} {parts : List (Nat × AV)} {ps : Array (Nat × Value)} (S : Sit cal (buildSliceP P t n parts) l v w0 M ρ g w) (hp : RepP ρ parts ps.toList) : SemOk P (Instr.buildSlice t n ps) l v w0 M ρ g w := by
  unfold buildSliceP at S
  split at S
  · rename_i el hu
    have hun := under_some hu (by simp)
    have S0 := S.chk; clear S; obtain ⟨hc, S⟩ := S0
    simp only [Bool.and_eq_true, beq_iff_eq, decide_eq_true_eq] at hc
    obtain ⟨⟨ho, hn⟩, hle⟩ := hc
    split at S
    · rename_i a ha
      have S0 := S.chk; clear S; obtain ⟨he, S⟩ := S0
      obtain ⟨i, z, hi, hz, hzs, his, hby, hco⟩ := elemOk_spec he
      have hss := a.size_pos
      have hall := of_one ha
      have hall' : ∀ c ∈ parts, c.2.cells.all AV.one = true := fun c hc => hall _ (List.mem_map_of_mem hc)
      have hvss : RepVss ρ (parts.map (·.2.cells)) (ps.toList.map fun q => q.2.cells.toList) := by
        clear ha S
        generalize ps.toList = us at hp
        clear ho hn hall
        induction parts generalizing us with
        | nil => simp only [RepP] at hp; subst hp; simp [RepVss]
        | cons c cs ih =>
          obtain ⟨u, us, rfl, _, h2, h3⟩ := hp
          exact ⟨_, _, rfl, (cells_rep h2 (hall' c (by simp))).1, ih (fun x hx => hall' x (by simp [hx])) us h3⟩
      obtain ⟨s1, s2, s3⟩ := of_spec ha hvss
      have hfZ : ∀ Z : Array Value, Instr.fill (fun i => some (i * a.size, a.size)) ((Array.range (n * a.size)).map (Z[· % Z.size]!)) ps.toList = some (ps.toList.map fun q => q.2.cells.toList).flatten.toArray := by
        intro Z
        have hB : ((Array.range (n * a.size)).map (Z[· % Z.size]!)).toList.length = parts.length * a.size := by simp [hn]
        have hf := (fill_row a.size parts ps.toList 0 [] _ hp ho s3 hall' (by simp) hB).1
        simp only [List.nil_append] at hf
        rw [Array.toArray_toList] at hf
        exact hf
      have hcells : a.cells = (ps.toList.map fun q => q.2.cells.toList).flatten := s2
      have hlen : a.len = n := by rw [s1]; simpa using hn
      refine ⟨.slice (some ⟨w.heap.size, 0, none⟩) n n, w.alloc (.cells a.cells.toArray el), ?_, ?_⟩
      · have h24 : ¬ n * a.size > 2 ^ 24 := by
          have : a.size ≤ 4 := by cases a <;> simp [Arr.size]
          have : n * a.size ≤ 1000 * 4 := Nat.mul_le_mul hle this
          omega
        have hne : P.cellsOf el ≠ 0 := by omega
        simp only [Instr.buildSlice, Sem.run_bind, run_underlying hun, Result.andThen_ok, run_sizeOf' hne, hco, if_neg h24]
        by_cases h0 : n * a.size = 0
        · simp only [if_pos h0, Sem.run_bind, Sem.run_pure, Result.andThen_ok]
          rw [hfZ]
          simp [newRow, hcells]
        · simp only [if_neg h0, Sem.run_bind, Sem.run_pure, Result.andThen_ok, zeroValue, typeInfo, run_program, hi, hz]
          rw [hfZ]
          simp [newRow, hcells]
      · have hnew : (w.alloc (.cells a.cells.toArray el)).ownsRow 0 el a.size (.slice (some ⟨w.heap.size, 0, none⟩) a.len a.len) a.len a.cells := by
          refine ⟨a.cells_length, .inr ⟨w.heap.size, a.len, _, rfl, Nat.zero_le _, heap_alloc_new w _, Nat.le_refl _, ?_, ?_, ?_⟩⟩
          · simp only [maxLen]; omega
          · simp [a.cells_length]
          · rw [← a.cells_length]; simp
        have := newArr_ok (nil := false) S (fr_alloc w _) hnew (by simp) (fun y hy => by cases hy; exact Nat.le_refl _)
        rwa [hlen] at this
    · exact S.fail
  · exact S.fail
end
end Go.Ev
