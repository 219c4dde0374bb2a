/- The evaluator: structs and slices made; append; strings and bytes. The evaluator: make, append, strings and bytes. The evaluator: append; conversions; every operation that calls no function. -/
import Derived.Test.YtcaapedadpnjoaaE6
import Derived.Laws.MakeOwn
import Derived.Laws.IdiomStrings
import Derived.Laws.OwnMore
import Derived.Lib.AppendStr
namespace Go.Ev
set_option linter.unusedSimpArgs false
set_option linter.unusedVariables false
open Go Go.RowKit
section
variable {cal : Nat → List D → Option (List D)} {l : List Ac} {v : AV} {w0 : World} {M : Nat → Nat → Prop} {ρ : Env} {g : Hp} {w w' : World} {P : Program}

def RepP (ρ : Env) : List (Nat × AV) → List (Nat × Value) → Prop
  | [], vs => vs = []
  | c :: cs, vs => ∃ u us, vs = u :: us ∧ u.1 = c.1 ∧ RepV ρ c.2 u.2 ∧ RepP ρ cs us
theorem RepP.mono {ρ ρ' : Env} (h : Sub ρ ρ') : ∀ {cs : List (Nat × AV)} {us : List (Nat × Value)}, RepP ρ cs us → RepP ρ' cs us
  | [], _, r => r
  | c :: cs, us, r => by
    obtain ⟨u, us, rfl, h1, h2, h3⟩ := r
    exact ⟨u, us, rfl, h1, RepV.mono h _ _ h2, h3.mono h⟩
theorem fold_mid : ∀ (vs : List Value) (k off : Nat) (cells : Array Value), off + k + vs.length ≤ cells.size →
    ((vs.zipIdx k).foldl (fun cs (x : Value × Nat) => cs.setIfInBounds (off + x.2) x.1) cells).toList = mid cells.toList (off + k) vs
  | [], k, off, cells, h => by simp [mid]
  | u :: vs, k, off, cells, h => by
    simp only [List.length_cons] at h
    have ih := fold_mid vs (k + 1) off (cells.setIfInBounds (off + k) u) (by simp; omega)
    simp only [List.zipIdx_cons, List.foldl_cons]
    rw [ih]
    apply List.ext_getElem?
    intro j
    rw [mid_get (by simp; omega), mid_get (l := cells.toList) (by simp; omega)]
    by_cases h1 : off + (k + 1) ≤ j ∧ j < off + (k + 1) + vs.length
    · rw [if_pos h1, if_pos (by simp only [List.length_cons]; omega)]
      rw [show j - (off + k) = (j - (off + (k + 1))) + 1 from by omega, List.getElem?_cons_succ]
    · rw [if_neg h1]
      by_cases h2 : j = off + k
      · subst h2
        rw [if_pos (by simp only [List.length_cons]; omega)]
        simp only [Nat.sub_self, List.getElem?_cons_zero, Array.getElem?_toList]
        rw [Array.getElem?_setIfInBounds_self_of_lt (by omega)]
      · rw [if_neg (by simp only [List.length_cons]; omega)]
        simp only [Array.getElem?_toList]
        rw [Array.getElem?_setIfInBounds_ne (by omega)]
theorem fill_step {place : Nat → Option (Nat × Nat)} {i off size : Nat} {u : Value} {cells : Array Value} {rest : List (Nat × Value)} (hp : place i = some (off, size)) (h1 : u.cells.size = size) (h2 : off + size ≤ cells.size) :
    Instr.fill place cells ((i, u) :: rest) = Instr.fill place (mid cells.toList off u.cells.toList).toArray rest := by
  have hf : u.cells.zipIdx.foldl (fun cs (x : Value × Nat) => cs.setIfInBounds (off + x.2) x.1) cells = (mid cells.toList off u.cells.toList).toArray := by
    apply Array.ext'
    rw [← Array.foldl_toList]
    have := fold_mid u.cells.toList 0 off cells (by simp; omega)
    simpa using this
  have hc : ¬ (u.cells.size ≠ size ∨ off + u.cells.size > cells.size) := by omega
  conv => lhs; unfold Instr.fill
  simp only [hp]
  rw [if_neg (by simpa using hc)]
  exact congrArg (fun c => Instr.fill place c rest) hf
theorem buildGo_ok {fs : Array Field} : ∀ {parts : List (Nat × AV)} {ps : List (Nat × Value)} {cs out : List AV} {cells : Array Value}, buildGo P fs.toList cs parts = some out → RepVs ρ cs cells.toList → RepP ρ parts ps →
    ∃ cells', Instr.fill (fun i => (fs.map fun f => (f.offset, P.cellsOf f.type))[i]?) cells ps = some cells' ∧ RepVs ρ out cells'.toList
  | [], ps, cs, out, cells, h, hr, hp => by
    simp only [RepP] at hp; subst hp
    simp only [buildGo, Option.some.injEq] at h; subst h
    exact ⟨cells, rfl, hr⟩
  | (i, c) :: parts, ps, cs, out, cells, h, hr, hp => by
    obtain ⟨⟨i', u⟩, us, rfl, hi, h2, h3⟩ := hp
    simp only at hi h2
    subst hi
    simp only [buildGo] at h
    split at h
    · cases h
    · rename_i f hf
      split at h
      · rename_i hc
        obtain ⟨hone, hc1, hc2⟩ := hc
        obtain ⟨hcr, hco⟩ := cells_rep h2 hone
        have hsz : u.cells.size = P.cellsOf f.type := by have := hcr.length; simp only [Array.length_toList] at this; omega
        have hlen := hr.length
        simp only [Array.length_toList] at hlen
        have hpl : (fs.map fun f => (f.offset, P.cellsOf f.type))[i']? = some (f.offset, P.cellsOf f.type) := by
          simp only [Array.getElem?_toList] at hf
          simp [hf]
        rw [fill_step (place := fun i => (fs.map fun f => (f.offset, P.cellsOf f.type))[i]?) hpl hsz (by omega)]
        refine buildGo_ok h ?_ h3
        exact mid_rep hr hcr
      · cases h
theorem mapM_fields {fs : Array Field} (h : fs.all (fun f => !(Nat.beq (P.cellsOf f.type) 0)) = true) : (fs.mapM fun f => do pure (f.offset, ← sizeOf f.type) : Sem (Array (Nat × Nat))).run P w = .ok (fs.map fun f => (f.offset, P.cellsOf f.type)) w := by
  obtain ⟨fs⟩ := fs
  simp only [List.all_toArray] at h
  simp only [List.mapM_toArray, List.map_toArray]
  have : (fs.mapM fun f => do pure (f.offset, ← sizeOf f.type) : Sem (List (Nat × Nat))).run P w = .ok (fs.map fun f => (f.offset, P.cellsOf f.type)) w := by
    induction fs with
    | nil => simp
    | cons f fs ih =>
      simp only [List.all_cons, Bool.and_eq_true, Bool.not_eq_true'] at h
      have hne : P.cellsOf f.type ≠ 0 := by intro h0; have := h.1; rw [h0] at this; simp at this
      rw [List.mapM_cons]
      simp only [Sem.run_bind, run_sizeOf' hne, Result.andThen_ok, Sem.run_pure, ih h.2, List.map_cons]
  show (List.toArray <$> _ : Sem (Array (Nat × Nat))).run P w = _
  rw [Sem.run_map, this]
  rfl
theorem buildP_ok {t : TypeId} {parts : List (Nat × AV)} {ps : Array (Nat × Value)} (S : Sit cal (buildP P t parts) l v w0 M ρ g w) (hp : RepP ρ parts ps.toList) : SemOk P (Instr.build t ps) l v w0 M ρ g w := by
  unfold buildP at S
  split at S
  · rename_i fs hu
    have hun := under_some hu (by simp)
    split at S
    · rename_i z hz
      obtain ⟨i, zv, hi, hzv, hzr⟩ := zeroCells_ok (ρ := ρ) hz
      split at S
      · rename_i cs hcs
        have S0 := S.chk; clear S; obtain ⟨hall, S⟩ := S0
        obtain ⟨cells, hfill, hrep⟩ := buildGo_ok hcs hzr hp
        obtain ⟨cs', l1, g1, ρ1, S1, ⟨hcs', _⟩, hs, hF⟩ := fixs_ok _ _ S hrep
        refine ⟨.agg cells, w, ?_, hF _ _ (ret_ok S1 ?_)⟩
        · simp only [Instr.build, Sem.run_bind, zeroValue, typeInfo, run_program, hi, hzv, Result.andThen_ok, Sem.run_pure, run_underlying hun]
          rw [mapM_fields hall]
          simp only [Result.andThen_ok]
          have hfill' : Instr.fill (fun x => (fs.map fun f => (f.offset, P.cellsOf f.type))[x]?) zv.cells ps.toList = some cells := hfill
          rw [hfill']
          simp
        · simp only [RepV]
          exact ⟨cells, rfl, hcs'⟩
      · exact S.fail
    · exact S.fail
  · exact S.fail

theorem RepP.length {ρ : Env} : ∀ {cs : List (Nat × AV)} {us : List (Nat × Value)}, RepP ρ cs us → us.length = cs.length
  | [], us, h => by simp only [RepP] at h; subst h; rfl
  | c :: cs, us, h => by obtain ⟨u, us', rfl, _, _, h⟩ := h; simp [h.length]
/-! arrays made -/
def RepVss (ρ : Env) : List (List AV) → List (List Value) → Prop
  | [], vs => vs = []
  | c :: cs, vs => ∃ u us, vs = u :: us ∧ RepVs ρ c u ∧ RepVss ρ cs us
theorem of_spec {e : ETy} : ∀ {cs : List (List AV)} {us : List (List Value)} {a : Arr}, e.of cs = some a → RepVss ρ cs us → a.len = cs.length ∧ a.cells = us.flatten ∧ ∀ c ∈ cs, c.length = a.size
  | [], us, a, h, r => by
    simp only [RepVss] at r; subst r
    simp only [ETy.of] at h
    obtain ⟨h0, hc⟩ := arr_of_nil h
    exact ⟨by simp [h0], by simp [hc], by simp⟩
  | c :: cs, us, a, h, r => by
    obtain ⟨u, us, rfl, h1, h2⟩ := r
    simp only [ETy.of] at h
    split at h
    · rename_i k' l k n he
      split at h
      · rename_i hk; subst hk
        cases h
        obtain ⟨g1, g2, g3⟩ := of_spec he h2
        simp only [RepVs, RepV] at h1
        obtain ⟨_, _, rfl, rfl, rfl⟩ := h1
        refine ⟨by simpa [Arr.len] using g1, by simpa [Arr.cells] using g2, ?_⟩
        intro c hc
        rcases List.mem_cons.1 hc with rfl | hc
        · rfl
        · exact g3 c hc
      · cases h
    · rename_i l b he
      cases h
      obtain ⟨g1, g2, g3⟩ := of_spec he h2
      simp only [RepVs, RepV] at h1
      obtain ⟨_, _, rfl, rfl, rfl⟩ := h1
      refine ⟨by simpa [Arr.len] using g1, by simpa [Arr.cells] using g2, ?_⟩
      intro c hc
      rcases List.mem_cons.1 hc with rfl | hc
      · rfl
      · exact g3 c hc
    · rename_i l s he
      cases h
      obtain ⟨g1, g2, g3⟩ := of_spec he h2
      simp only [RepVs, RepV] at h1
      obtain ⟨_, _, rfl, rfl, rfl⟩ := h1
      refine ⟨by simpa [Arr.len] using g1, by simpa [Arr.cells] using g2, ?_⟩
      intro c hc
      rcases List.mem_cons.1 hc with rfl | hc
      · rfl
      · exact g3 c hc
    · rename_i l x y z he
      cases h
      obtain ⟨g1, g2, g3⟩ := of_spec he h2
      simp only [RepVs, RepV] at h1
      obtain ⟨_, _, rfl, rfl, _, _, rfl, rfl, _, _, rfl, rfl, rfl⟩ := h1
      refine ⟨by simpa [Arr.len] using g1, by simpa [Arr.cells] using g2, ?_⟩
      intro c hc
      rcases List.mem_cons.1 hc with rfl | hc
      · rfl
      · exact g3 c hc
    · rename_i l x y z q he
      cases h
      obtain ⟨g1, g2, g3⟩ := of_spec he h2
      simp only [RepVs, RepV] at h1
      obtain ⟨_, _, rfl, rfl, _, _, rfl, rfl, _, _, rfl, rfl, _, _, rfl, rfl, rfl⟩ := h1
      refine ⟨by simpa [Arr.len] using g1, by simpa [Arr.cells] using g2, ?_⟩
      intro c hc
      rcases List.mem_cons.1 hc with rfl | hc
      · rfl
      · exact g3 c hc
    · cases h
theorem elemOk_spec {e : TypeId} {size : Nat} (h : elemOk P e size = true) : ∃ i z, P.info? e = some i ∧ i.zero = some z ∧ z.cells.size = i.size ∧ i.size = size ∧ i.bytes ≤ 64 ∧ P.cellsOf e = size := by
  unfold elemOk at h
  split at h
  · rename_i i hi
    split at h
    · rename_i z hz
      simp only [Bool.and_eq_true, beq_iff_eq, decide_eq_true_eq] at h
      exact ⟨i, z, hi, hz, h.1.1, h.1.2, h.2, by simp [Program.cellsOf, hi, h.1.2]⟩
    · cases h
  · cases h
theorem elemOkR_spec {e : TypeId} {size : Nat} (h : elemOkR P e size = true) : ∃ i z, P.info? e = some i ∧ i.zero = some z ∧ z.cells.size = i.size ∧ i.size = size ∧ 0 < size ∧ i.bytes ≤ 1024 ∧ P.cellsOf e = size := by
  unfold elemOkR at h
  split at h
  · rename_i i hi
    split at h
    · rename_i z hz
      simp only [Bool.and_eq_true, beq_iff_eq, decide_eq_true_eq] at h
      exact ⟨i, z, hi, hz, h.1, h.2.1, h.2.2.1, h.2.2.2, by simp [Program.cellsOf, hi, h.2.1]⟩
    · cases h
  · cases h
/-- a new array of the call's own -/
theorem newArr_ok {a : Arr} {nil : Bool} {ρ1 : Env} {g1 : Hp} {l1 : List Ac} {x : Option Addr} {cap : Nat} {e : TypeId} (S : Sit cal (.new (.arr true nil a) fun id => .ret (.sl id none)) l1 v w0 M ρ1 g1 w)
    (hw : Fr (fun _ _ => False) w w') (ho : w'.ownsRow 0 e a.size (.slice x a.len cap) a.len a.cells) (hn : nil = true ↔ x = none) (hb : ∀ y, x = some y → w.heap.size ≤ y.block) :
    Fin w0 M l1 g1 ρ1 w' (fun ρ' => RepV ρ' v (.slice x a.len cap)) := by
  obtain ⟨id, l', rfl, hid, hd, hS⟩ := S.new
  have hr : RepE (updρ ρ1 id ⟨x, a.len, cap, a.size, []⟩) w' ⟨x, a.len, cap, a.size, []⟩ (.arr true nil a) := by
    refine ⟨rfl, rfl, hn, ?_, ?_, fun _ => ⟨e, ho⟩⟩
    · intro hx
      simp only at hx
      subst hx
      rcases ho.2 with ⟨h1, h2⟩ | ⟨b, cap', cur, h1, _⟩
      · simp only [Value.slice.injEq] at h1; exact ⟨h1.2.2, h2⟩
      · simp only [Value.slice.injEq, reduceCtorEq, false_and] at h1
    · intro y hy
      simp only at hy
      subst hy
      rcases ho.2 with ⟨h1, h2⟩ | ⟨b, cap', cur, h1, _, _, h3, _⟩
      · simp only [Value.slice.injEq, reduceCtorEq, false_and] at h1
      · simp only [Value.slice.injEq, Option.some.injEq, true_and] at h1
        obtain ⟨rfl, rfl⟩ := h1
        exact ⟨h3, fun j u hj => ho.cells (g := b) rfl j u hj⟩
  have I := S.inv.new (id := id) (p := ⟨x, a.len, cap, a.size, []⟩) (e := .arr true nil a) hid hw hr
    (.inl ⟨rfl, fun b off hf => by obtain ⟨y, hy, rfl, _⟩ := hf; exact hb y hy⟩)
  obtain ⟨rfl, rfl⟩ := (hS _ _ I).ret
  refine Fin.new hid (Fin.here I ?_)
  simp only [RepV]
  exact ⟨_, updρ_same _ _ _, rfl⟩

theorem Inv.new2 {id : Nat} {p : Plc} {e : Ent} (I : Inv w0 M ρ g w) (hid : ρ id = none) (hr : RepE (updρ ρ id p) w p e)
    (hs : ∀ j q, ρ j = some q → ∀ b off, (e.own = true ∨ (g j).own = true) → foot p e b off → ¬ foot q (g j) b off) (hm : e.own = true → ∀ b off, foot p e b off → M b off ∨ w0.heap.size ≤ b)
    (hi1 : e.own = true → ∀ j q, ρ j = some q → ∀ b off, foot p e b off → ¬ inn q (g j) b off) (hi2 : ∀ j q, ρ j = some q → (g j).own = true → ∀ b off, foot q (g j) b off → ¬ inn p e b off) (hi3 : e.own = true → ∀ b off, foot p e b off → ¬ inn p e b off) :
    Inv w0 M (updρ ρ id p) (upd g id e) w := by
  refine ⟨⟨?_, ?_, ?_⟩, I.fr, ?_⟩
  · intro i hi
    by_cases hii : i = id
    · subst hii; rw [upd_same] at hi ⊢; exact ⟨p, updρ_same _ _ _, hr⟩
    · rw [upd_other _ _ hii] at hi ⊢
      obtain ⟨q, hq, hrq⟩ := I.ok.rep i hi
      exact ⟨q, by rw [updρ_other _ _ hii]; exact hq, hrq.mono (sub_updρ hid)⟩
  · intro i j q r hij hq hrr ho b off hf hf'
    by_cases hii : i = id
    · subst hii
      rw [updρ_same] at hq; cases hq
      rw [upd_same] at ho hf
      have hji : j ≠ i := Ne.symm hij
      rw [updρ_other _ _ hji] at hrr
      rw [upd_other _ _ hji] at hf'
      exact hs j r hrr b off (.inl ho) hf hf'
    · rw [updρ_other _ _ hii] at hq
      rw [upd_other _ _ hii] at ho hf
      by_cases hjj : j = id
      · subst hjj
        rw [updρ_same] at hrr; cases hrr
        rw [upd_same] at hf'
        exact hs i q hq b off (.inr ho) hf' hf
      · rw [updρ_other _ _ hjj] at hrr
        rw [upd_other _ _ hjj] at hf'
        exact I.ok.sep i j q r hij hq hrr ho b off hf hf'
  · intro i j q r hq hrr ho b off hf hf'
    by_cases hii : i = id
    · subst hii
      rw [updρ_same] at hq; cases hq
      rw [upd_same] at ho hf
      by_cases hji : j = i
      · subst hji
        rw [updρ_same] at hrr; cases hrr
        rw [upd_same] at hf'
        exact hi3 ho b off hf hf'
      · rw [updρ_other _ _ hji] at hrr
        rw [upd_other _ _ hji] at hf'
        exact hi1 ho j r hrr b off hf hf'
    · rw [updρ_other _ _ hii] at hq
      rw [upd_other _ _ hii] at ho hf
      by_cases hjj : j = id
      · subst hjj
        rw [updρ_same] at hrr; cases hrr
        rw [upd_same] at hf'
        exact hi2 i q hq ho b off hf hf'
      · rw [updρ_other _ _ hjj] at hrr
        rw [upd_other _ _ hjj] at hf'
        exact I.ok.inn i j q r hq hrr ho b off hf hf'
  · intro i q hq ho b off hf
    by_cases hii : i = id
    · subst hii
      rw [updρ_same] at hq; cases hq
      rw [upd_same] at ho hf
      exact hm ho b off hf
    · rw [updρ_other _ _ hii] at hq
      rw [upd_other _ _ hii] at ho hf
      exact I.own i q hq ho b off hf
/-! records -/
theorem kspan_foot {k : RK} {p : Plc} {own nil : Bool} {a : Arr} (hk : (k = .is ∧ a.size = 1) ∨ (k = .r3 ∧ a.size = 3)) (hl : a.len = p.len) {b off : Nat} (h : kspan k (.slice p.base p.len p.cap) b off) : foot p (.arr own nil a) b off := by
  rcases hk with ⟨rfl, hs⟩ | ⟨rfl, hs⟩
  · obtain ⟨x, n, c, e, e1, e2, e3⟩ := h
    simp only [Value.slice.injEq] at e
    obtain ⟨e4, rfl, rfl⟩ := e
    exact ⟨x, e4, e1, .inr ⟨e2, by rw [hl, hs]; omega⟩⟩
  · obtain ⟨x, n, c, e, e1, e2, e3⟩ := h
    simp only [Value.slice.injEq] at e
    obtain ⟨e4, rfl, rfl⟩ := e
    exact ⟨x, e4, e1, .inr ⟨e2, by rw [hl, hs]; omega⟩⟩
/-- an array is from now on only read -/
theorem freeze_ok {k : RK} {id : Nat} {a : Arr} {nil own : Bool} {x : RC} {u : Value} {K : Prog AV} {l : List Ac} {g : Hp} (hk : (k = .is ∧ a.size = 1) ∨ (k = .r3 ∧ a.size = 3)) (hg : g id = .arr own nil a) (hu : RepV ρ (.sl id none) u)
    (S : Sit cal (cond own (.wr id (.arr false nil a) K) K) l v w0 M ρ g w) (hx : SlL w a nil u → ColL w x k u) :
    ∃ l' g', Sit cal K l' v w0 M ρ g' w ∧ ColL w x k u ∧ (∀ j q, ρ j = some q → (g' j).own = true → ∀ b off, foot q (g' j) b off → ¬ kspan k u b off) ∧ (∀ j, (g' j).own = true → g' j = g j) ∧ ∀ (X : Env → Prop) (w' : World), Fin w0 M l' g' ρ w' X → Fin w0 M l g ρ w' X := by
  simp only [RepV, RepSl] at hu
  obtain ⟨p, hp, rfl⟩ := hu
  obtain ⟨q, hq, hr⟩ := S.inv.ok.rep id (by rw [hg]; simp)
  rw [hp] at hq; cases hq
  rw [hg] at hr
  have I0 := S.inv
  obtain ⟨h1, h2, h3, h4, h5, h6⟩ := hr
  have hc : ColL w x k (.slice p.base p.len p.cap) := hx ⟨_, _, _, rfl, h1, h3, h4, h5⟩
  have dis : ∀ j q, j ≠ id → ρ j = some q → (g j).own = true → ∀ b off, foot q (g j) b off → ¬ kspan k (.slice p.base p.len p.cap) b off := fun j q hj hq ho b off hf hk' =>
    I0.ok.sep j id q p hj hq hp ho b off hf (by rw [hg]; exact kspan_foot hk h1 hk')
  cases own with
  | false =>
    refine ⟨l, g, S, hc, fun j q hq ho b off hf => dis j q (fun e => ?_) hq ho b off hf, fun _ _ => rfl, fun _ _ h => h⟩
    rw [e, hg] at ho; cases ho
  | true =>
    simp only [cond_true] at S
    obtain ⟨l', rfl, hd, hS⟩ := S.wr
    have I1 := I0.turn (id := id) (p := p) (e := .arr false nil a) hp (by rw [hg]; rfl) (Fr.refl (fun _ _ => False) w) (fun _ _ h => h.elim) ⟨h1, h2, h3, h4, h5, fun h => by cases h⟩
      (fun b off hf => by rw [hg]; obtain ⟨y, hy, hb, _⟩ := hf; exact ⟨y, hy, hb, .inl rfl⟩)
    refine ⟨l', _, hS w I1, hc, fun j q hq ho b off hf => ?_, fun j ho => ?_, fun X w' h => h.wr⟩
    · by_cases hj : j = id
      · subst hj; rw [upd_same] at ho; cases ho
      · rw [upd_other _ _ hj] at ho hf
        exact dis j q hj hq ho b off hf
    · by_cases hj : j = id
      · subst hj; rw [upd_same] at ho; cases ho
      · rw [upd_other _ _ hj]
theorem rowC_ok {k : RK} {c : AV} {u : Value} {K : RC → Prog AV} {l : List Ac} {g : Hp} (S : Sit cal (rowC k c K) l v w0 M ρ g w) (h : RepV ρ c u) :
    ∃ x l' g', Sit cal (K x) l' v w0 M ρ g' w ∧ ColL w x k u ∧ (∀ j q, ρ j = some q → (g' j).own = true → ∀ b off, foot q (g' j) b off → ¬ kspan k u b off) ∧ (∀ j, (g' j).own = true → g' j = g j) ∧ ∀ (X : Env → Prop) (w' : World), Fin w0 M l' g' ρ w' X → Fin w0 M l g ρ w' X := by
  unfold rowC at S
  split at S
  · split at S
    · rename_i x
      exact ⟨_, l, g, S, by simpa only [RepV, ColL] using h, fun _ _ _ _ _ _ _ hk => hk.elim, fun _ _ => rfl, fun _ _ h => h⟩
    · exact S.fail
  · split at S
    · rename_i id
      have S0 := S.rd; clear S; obtain ⟨l1, rfl, S⟩ := S0
      split at S
      · rename_i nl ll hg
        obtain ⟨l', g', a1, a2, a3, a4, a5⟩ := freeze_ok (k := .is) (x := .is nl ll) (own := true) (.inl ⟨rfl, rfl⟩) hg h S (fun h => h)
        exact ⟨_, l', g', a1, a2, a3, a4, fun X w' h => (a5 X w' h).rd⟩
      · rename_i nl ll hg
        obtain ⟨l', g', a1, a2, a3, a4, a5⟩ := freeze_ok (k := .is) (x := .is nl ll) (own := false) (.inl ⟨rfl, rfl⟩) hg h S (fun h => h)
        exact ⟨_, l', g', a1, a2, a3, a4, fun X w' h => (a5 X w' h).rd⟩
      · exact S.fail
    · exact S.fail
  · split at S
    · rename_i id
      have S0 := S.rd; clear S; obtain ⟨l1, rfl, S⟩ := S0
      split at S
      · rename_i nl ll hg
        obtain ⟨l', g', a1, a2, a3, a4, a5⟩ := freeze_ok (k := .r3) (x := .r3 nl ll) (own := true) (.inr ⟨rfl, rfl⟩) hg h S (fun h => h)
        exact ⟨_, l', g', a1, a2, a3, a4, fun X w' h => (a5 X w' h).rd⟩
      · rename_i nl ll hg
        obtain ⟨l', g', a1, a2, a3, a4, a5⟩ := freeze_ok (k := .r3) (x := .r3 nl ll) (own := false) (.inr ⟨rfl, rfl⟩) hg h S (fun h => h)
        exact ⟨_, l', g', a1, a2, a3, a4, fun X w' h => (a5 X w' h).rd⟩
      · exact S.fail
    · exact S.fail
theorem rowB_ok : ∀ (z : List RK) (cs : List AV) {us : List Value} {K : List RC → Prog AV} {l : List Ac} {g : Hp}, Sit cal (rowB z cs K) l v w0 M ρ g w → RepVs ρ cs us →
    ∃ r l' g', Sit cal (K r) l' v w0 M ρ g' w ∧ RowL w z us r ∧ (∀ j q, ρ j = some q → (g' j).own = true → ∀ b off, foot q (g' j) b off → ¬ innR z us b off) ∧ (∀ j, (g' j).own = true → g' j = g j) ∧ ∀ (X : Env → Prop) (w' : World), Fin w0 M l' g' ρ w' X → Fin w0 M l g ρ w' X
  | [], cs, us, K, l, g, S, h => by
    cases cs with
    | nil =>
      simp only [RepVs] at h; subst h
      exact ⟨[], l, g, S, ⟨rfl, rfl⟩, fun _ _ _ _ _ _ _ hi => by simp [innR] at hi, fun _ _ => rfl, fun _ _ h => h⟩
    | cons c cs => exact Sit.fail S
  | k :: z, cs, us, K, l, g, S, h => by
    cases cs with
    | nil => exact Sit.fail S
    | cons c cs =>
      simp only [RepVs] at h
      obtain ⟨u, us', rfl, h1, h2⟩ := h
      simp only [rowB] at S
      obtain ⟨x, l1, g1, S1, c1, d1, s1, F1⟩ := rowC_ok S h1
      obtain ⟨r, l2, g2, S2, c2, d2, s2, F2⟩ := rowB_ok z cs S1 h2
      refine ⟨x :: r, l2, g2, S2, ⟨u, us', x, r, rfl, rfl, c1, c2⟩, fun j q hq ho b off hf hi => ?_, fun j ho => ?_, fun X w' h => F1 X w' (F2 X w' h)⟩
      · rcases hi with hi | hi
        · have e := s2 j ho
          exact d1 j q hq (by rw [← e]; exact ho) b off (by rw [← e]; exact hf) hi
        · exact d2 j q hq ho b off hf hi
      · have e := s2 j ho
        rw [e, s1 j (by rw [← e]; exact ho)]
theorem rowsB_ok (z : List RK) : ∀ (css : List (List AV)) {uss : List (List Value)} {K : List (List RC) → Prog AV} {l : List Ac} {g : Hp}, Sit cal (rowsB z css K) l v w0 M ρ g w → RepVss ρ css uss →
    ∃ r l' g', Sit cal (K r) l' v w0 M ρ g' w ∧ RowsL w z uss r ∧ (∀ j q, ρ j = some q → (g' j).own = true → ∀ b off, foot q (g' j) b off → ¬ ∃ us ∈ uss, innR z us b off) ∧ (∀ j, (g' j).own = true → g' j = g j) ∧ ∀ (X : Env → Prop) (w' : World), Fin w0 M l' g' ρ w' X → Fin w0 M l g ρ w' X
  | [], uss, K, l, g, S, h => by
    simp only [RepVss] at h; subst h
    exact ⟨[], l, g, S, rfl, fun _ _ _ _ _ _ _ hi => by simp at hi, fun _ _ => rfl, fun _ _ h => h⟩
  | c :: cs, uss, K, l, g, S, h => by
    obtain ⟨u, us', rfl, h1, h2⟩ := h
    simp only [rowsB] at S
    obtain ⟨x, l1, g1, S1, c1, d1, s1, F1⟩ := rowB_ok z c S h1
    obtain ⟨r, l2, g2, S2, c2, d2, s2, F2⟩ := rowsB_ok z cs S1 h2
    refine ⟨x :: r, l2, g2, S2, ⟨x, r, rfl, c1, c2⟩, fun j q hq ho b off hf hi => ?_, fun j ho => ?_, fun X w' h => F1 X w' (F2 X w' h)⟩
    · obtain ⟨us, hu, hi⟩ := hi
      rcases List.mem_cons.1 hu with rfl | hu
      · have e := s2 j ho
        exact d1 j q hq (by rw [← e]; exact ho) b off (by rw [← e]; exact hf) hi
      · exact d2 j q hq ho b off hf ⟨us, hu, hi⟩
    · have e := s2 j ho
      rw [e, s1 j (by rw [← e]; exact ho)]
theorem RowL.one {z : List RK} {us : List Value} {r : List RC} (h : RowL w z us r) : ∀ u ∈ us, u.oneCell' = true := by
  induction z generalizing us r with
  | nil => obtain ⟨rfl, rfl⟩ := h; intro u hu; cases hu
  | cons k z ih =>
    obtain ⟨u, us', c, r', rfl, rfl, h1, h⟩ := h
    intro v hv
    rcases List.mem_cons.1 hv with rfl | hv
    · cases c <;> cases k <;> first | exact h1.elim | skip
      · have : v = _ := h1
        rw [this]; rfl
      · obtain ⟨_, _, _, rfl, _⟩ := h1; rfl
      · obtain ⟨_, _, _, rfl, _⟩ := h1; rfl
    · exact ih h v hv
theorem RowsL.one {z : List RK} {uss : List (List Value)} {l : List (List RC)} (h : RowsL w z uss l) : ∀ u ∈ uss.flatten, u.oneCell' = true := by
  induction uss generalizing l with
  | nil => intro u hu; cases hu
  | cons us uss ih =>
    obtain ⟨r, l', rfl, h1, h⟩ := h
    intro v hv
    rw [List.flatten_cons, List.mem_append] at hv
    rcases hv with hv | hv
    · exact h1.one v hv
    · exact ih h v hv
/-- the places of a new list of records -/
theorem rowsRep {ρ' : Env} {z : List RK} {uss : List (List Value)} {ll : List (List RC)} {x : Option Addr} {cap : Nat} {e : TypeId} {nil own : Bool} (hR : RowsL w' z uss ll) (ho : w'.ownsRow 0 e z.length (.slice x ll.length cap) ll.length uss.flatten) (hn : nil = true ↔ x = none) :
    RepE ρ' w' ⟨x, ll.length, cap, z.length, uss⟩ (.rows own nil z ll) := by
  refine ⟨rfl, rfl, hn, ?_, ?_, fun _ => ⟨e, ho⟩, hR⟩
  · intro hx
    simp only at hx
    subst hx
    rcases ho.2 with ⟨h1, h2⟩ | ⟨b, cap', cur, h1, _⟩
    · simp only [Value.slice.injEq] at h1; exact ⟨h1.2.2, h2⟩
    · simp only [Value.slice.injEq, reduceCtorEq, false_and] at h1
  · intro y hy
    simp only at hy
    subst hy
    rcases ho.2 with ⟨h1, h2⟩ | ⟨b, cap', cur, h1, _, _, h3, _⟩
    · simp only [Value.slice.injEq, reduceCtorEq, false_and] at h1
    · simp only [Value.slice.injEq, Option.some.injEq, true_and] at h1
      obtain ⟨rfl, rfl⟩ := h1
      exact ⟨h3, fun j u hj => ho.cells (g := b) rfl j u hj⟩
theorem newRows_ok {z : List RK} {uss : List (List Value)} {ll : List (List RC)} {l1 : List Ac} {g1 : Hp} {x : Addr} {cap : Nat} {e : TypeId} (S : Sit cal (.new (.rows true false z ll) fun id => .ret (.sl id none)) l1 v w0 M ρ g1 w)
    (hw : Fr (fun _ _ => False) w w') (hR : RowsL w z uss ll) (hd : ∀ j q, ρ j = some q → (g1 j).own = true → ∀ b off, foot q (g1 j) b off → ¬ ∃ us ∈ uss, innR z us b off) (ho : w'.ownsRow 0 e z.length (.slice (some x) ll.length cap) ll.length uss.flatten) (hb : w.heap.size ≤ x.block) :
    Fin w0 M l1 g1 ρ w' (fun ρ' => RepV ρ' v (.slice (some x) ll.length cap)) := by
  obtain ⟨id, l', rfl, hid, hdd, hS⟩ := S.new
  have I0 := S.inv
  have fresh : ∀ b off, foot ⟨some x, ll.length, cap, z.length, uss⟩ (.rows true false z ll) b off → w.heap.size ≤ b := by
    rintro b off ⟨y, hy, rfl, _⟩
    simp only [Option.some.injEq] at hy
    subst hy; exact hb
  have old : ∀ j q b off, ρ j = some q → foot q (g1 j) b off ∨ inn q (g1 j) b off → b < w.heap.size := by
    intro j q b off hq hf
    have hnd : g1 j ≠ .dead := by intro h0; rw [h0] at hf; exact hf.elim (fun h => h) (fun h => h)
    obtain ⟨q', hq', hrq⟩ := I0.ok.rep j hnd
    rw [hq] at hq'; cases hq'
    exact hf.elim (hrq.lt' b off) (hrq.ltI b off)
  have I := (I0.world hw).new2 (id := id) (p := ⟨some x, ll.length, cap, z.length, uss⟩) (e := .rows true false z ll) hid (rowsRep (hR.frame hw (fun _ _ _ h => h)) ho (by simp))
    (fun j q hq b off _ hf hf' => by have := fresh b off hf; have := old j q b off hq (.inl hf'); omega)
    (fun _ b off hf => .inr (Nat.le_trans I0.fr.size (fresh b off hf)))
    (fun _ j q hq b off hf hf' => by have := fresh b off hf; have := old j q b off hq (.inr hf'); omega)
    (fun j q hq ho b off hf hf' => hd j q hq ho b off hf hf')
    (fun _ b off hf hf' => by
      have := fresh b off hf
      obtain ⟨us, hu, hi⟩ := hf'
      have := hR.lt hu hi
      omega)
  obtain ⟨rfl, rfl⟩ := (hS _ _ I).ret
  refine Fin.new hid (Fin.here I ?_)
  simp only [RepV]
  exact ⟨_, updρ_same _ _ _, rfl⟩

/-! a slice out of its elements -/
theorem mid_end {α : Type} {A B m : List α} (h : m.length ≤ B.length) : mid (A ++ B) A.length m = (A ++ m) ++ B.drop m.length := by
  unfold mid
  rw [List.take_left, List.drop_append, List.drop_of_length_le (by omega), Nat.add_sub_cancel_left, List.nil_append]
theorem fill_row (size : Nat) : ∀ (parts : List (Nat × AV)) (ps : List (Nat × Value)) (n : Nat) (A B : List Value), RepP ρ parts ps → inOrder n parts = true → (∀ c ∈ parts.map (·.2.cells), c.length = size) → (∀ c ∈ parts, c.2.cells.all AV.one = true) →
    A.length = n * size → B.length = parts.length * size →
    Instr.fill (fun i => some (i * size, size)) (A ++ B).toArray ps = some (A ++ (ps.map fun q => q.2.cells.toList).flatten).toArray ∧ RepVss ρ (parts.map (·.2.cells)) (ps.map fun q => q.2.cells.toList)
  | [], ps, n, A, B, hp, _, _, _, _, hB => by
    simp only [RepP] at hp; subst hp
    have : B = [] := List.eq_nil_of_length_eq_zero (by simpa using hB)
    subst this
    exact ⟨by simp [Instr.fill], by simp [RepVss]⟩
  | (i, c) :: parts, ps, n, A, B, hp, ho, hc, h1, hA, hB => by
    obtain ⟨⟨i', u⟩, us, rfl, hi, h2, h3⟩ := hp
    simp only at hi h2
    subst hi
    simp only [inOrder, Bool.and_eq_true, beq_iff_eq] at ho
    obtain ⟨rfl, ho⟩ := ho
    obtain ⟨hcr, _⟩ := cells_rep h2 (h1 (i', c) (by simp))
    have hsz : u.cells.size = size := by
      have := hcr.length; simp only [Array.length_toList] at this
      rw [this]; exact hc _ (by simp)
    simp only [List.length_cons, Nat.add_mul, Nat.one_mul] at hB
    have hul : u.cells.toList.length = size := by simpa using hsz
    rw [fill_step (place := fun i => some (i * size, size)) rfl hsz (by simp only [List.size_toArray, List.length_append]; omega)]
    rw [← hA, mid_end (by omega)]
    obtain ⟨g1, g2⟩ := fill_row size parts us (i' + 1) (A ++ u.cells.toList) (B.drop u.cells.toList.length) h3 ho (fun x hx => hc x (by simp at hx ⊢; exact .inr hx)) (fun x hx => h1 x (by simp [hx]))
      (by rw [List.length_append, hA, hul, Nat.add_mul, Nat.one_mul]) (by rw [List.length_drop]; omega)
    refine ⟨?_, ?_⟩
    · rw [g1]
      simp [List.append_assoc]
    · exact ⟨_, _, rfl, hcr, g2⟩
theorem of_one {e : ETy} : ∀ {cs : List (List AV)} {a : Arr}, e.of cs = some a → ∀ c ∈ cs, c.all AV.one = true
  | [], a, h, c, hc => by cases hc
  | c :: cs, a, h, d, hd => by
    simp only [ETy.of] at h
    have key : c.all AV.one = true ∧ ∃ b, e.of cs = some b := by
      split at h
      · rename_i he; exact ⟨by simp [AV.one], _, he⟩
      · rename_i he; exact ⟨by simp [AV.one], _, he⟩
      · rename_i he; exact ⟨by simp [AV.one], _, he⟩
      · rename_i he; exact ⟨by simp [AV.one], _, he⟩
      · rename_i he; exact ⟨by simp [AV.one], _, he⟩
      · cases h
    obtain ⟨h1, b, hb⟩ := key
    rcases List.mem_cons.1 hd with rfl | hd
    · exact h1
    · exact of_one hb d hd
theorem buildSliceP_ok {t : TypeId} {n : Nat} {parts : List (Nat × AV)} {ps : Array (Nat × Value)} (S : Sit cal (buildSliceP P t n parts) l v w0 M ρ g w) (hp : RepP ρ parts ps.toList) : SemOk P (Instr.buildSlice t n ps) l v w0 M ρ g w := by
  unfold buildSliceP at S
  split at S
  · rename_i el hu
    have hun := under_some hu (by simp)
    have S0 := S.chk; clear S; obtain ⟨hc, S⟩ := S0
    simp only [Bool.and_eq_true, beq_iff_eq, decide_eq_true_eq] at hc
    obtain ⟨⟨ho, hn⟩, hle⟩ := hc
    split at S
    · rename_i z0 hz0
      have S0 := S.chk; clear S; obtain ⟨he, S⟩ := S0
      simp only [Bool.and_eq_true, decide_eq_true_eq, List.all_eq_true] at he
      obtain ⟨he, hz64, hall0⟩ := he
      obtain ⟨i, z, hi, hz, hzs, his, hss, hby, hco⟩ := elemOkR_spec he
      have hall' : ∀ c ∈ parts, c.2.cells.all AV.one = true := fun c hc => by rw [List.all_eq_true]; exact (hall0 c hc).1
      have s3 : ∀ c ∈ parts.map (·.2.cells), c.length = z0.length := fun c hc => by
        obtain ⟨d, hd, rfl⟩ := List.mem_map.1 hc
        exact Nat.eq_of_beq_eq_true (hall0 d hd).2
      have hvss : RepVss ρ (parts.map (·.2.cells)) (ps.toList.map fun q => q.2.cells.toList) := by
        clear S
        generalize ps.toList = us at hp
        clear ho hn hall0 s3
        induction parts generalizing us with
        | nil => simp only [RepP] at hp; subst hp; simp [RepVss]
        | cons c cs ih =>
          obtain ⟨u, us, rfl, _, h2, h3⟩ := hp
          exact ⟨_, _, rfl, (cells_rep h2 (hall' c (by simp))).1, ih (fun x hx => hall' x (by simp [hx])) us h3⟩
      obtain ⟨ll, l1, g1, S1, hR, hd, _, hF⟩ := rowsB_ok z0 _ S hvss
      have hlen : ll.length = n := by rw [← hR.len, List.length_map, Array.length_toList, ← hn]; exact hp.length
      have hfZ : ∀ Z : Array Value, Instr.fill (fun i => some (i * z0.length, z0.length)) ((Array.range (n * z0.length)).map (Z[· % Z.size]!)) ps.toList = some (ps.toList.map fun q => q.2.cells.toList).flatten.toArray := by
        intro Z
        have hB : ((Array.range (n * z0.length)).map (Z[· % Z.size]!)).toList.length = parts.length * z0.length := by simp [hn]
        have hf := (fill_row z0.length parts ps.toList 0 [] _ hp ho s3 hall' (by simp) hB).1
        simp only [List.nil_append] at hf
        rw [Array.toArray_toList] at hf
        exact hf
      obtain ⟨uss, huss⟩ : ∃ uss, (ps.toList.map fun q => q.2.cells.toList) = uss := ⟨_, rfl⟩
      rw [huss] at hR hd hfZ
      have hfl := hR.flat
      refine ⟨.slice (some ⟨w.heap.size, 0, none⟩) n n, w.alloc (.cells uss.flatten.toArray el), ?_, hF _ _ ?_⟩
      · have h24 : ¬ n * z0.length > 2 ^ 24 := by
          have : n * z0.length ≤ 1000 * 64 := Nat.mul_le_mul hle hz64
          omega
        have hne : P.cellsOf el ≠ 0 := by omega
        simp only [Instr.buildSlice, Sem.run_bind, run_underlying hun, Result.andThen_ok, run_sizeOf' hne, hco, if_neg h24]
        by_cases h0 : n * z0.length = 0
        · simp only [if_pos h0, Sem.run_bind, Sem.run_pure, Result.andThen_ok]
          rw [hfZ]
          simp [newRow]
        · simp only [if_neg h0, Sem.run_bind, Sem.run_pure, Result.andThen_ok, zeroValue, typeInfo, run_program, hi, hz]
          rw [hfZ]
          simp [newRow]
      · have hnew : (w.alloc (.cells uss.flatten.toArray el)).ownsRow 0 el z0.length (.slice (some ⟨w.heap.size, 0, none⟩) ll.length ll.length) ll.length uss.flatten := by
          refine ⟨hfl, .inr ⟨w.heap.size, ll.length, _, rfl, Nat.zero_le _, heap_alloc_new w _, Nat.le_refl _, ?_, ?_, ?_⟩⟩
          · simp only [maxLen]; omega
          · simp only [List.size_toArray]; exact hfl
          · rw [← hfl]; exact List.take_length
        have := newRows_ok S1 (fr_alloc w _) hR hd hnew (Nat.le_refl _)
        rwa [hlen] at this
    split at S
    · rename_i a ha
      have S0 := S.chk; clear S; obtain ⟨he, S⟩ := S0
      obtain ⟨i, z, hi, hz, hzs, his, hby, hco⟩ := elemOk_spec he
      have hss := a.size_pos
      have hall := of_one ha
      have hall' : ∀ c ∈ parts, c.2.cells.all AV.one = true := fun c hc => hall _ (List.mem_map_of_mem hc)
      have hvss : RepVss ρ (parts.map (·.2.cells)) (ps.toList.map fun q => q.2.cells.toList) := by
        clear ha S
        generalize ps.toList = us at hp
        clear ho hn hall
        induction parts generalizing us with
        | nil => simp only [RepP] at hp; subst hp; simp [RepVss]
        | cons c cs ih =>
          obtain ⟨u, us, rfl, _, h2, h3⟩ := hp
          exact ⟨_, _, rfl, (cells_rep h2 (hall' c (by simp))).1, ih (fun x hx => hall' x (by simp [hx])) us h3⟩
      obtain ⟨s1, s2, s3⟩ := of_spec ha hvss
      have hfZ : ∀ Z : Array Value, Instr.fill (fun i => some (i * a.size, a.size)) ((Array.range (n * a.size)).map (Z[· % Z.size]!)) ps.toList = some (ps.toList.map fun q => q.2.cells.toList).flatten.toArray := by
        intro Z
        have hB : ((Array.range (n * a.size)).map (Z[· % Z.size]!)).toList.length = parts.length * a.size := by simp [hn]
        have hf := (fill_row a.size parts ps.toList 0 [] _ hp ho s3 hall' (by simp) hB).1
        simp only [List.nil_append] at hf
        rw [Array.toArray_toList] at hf
        exact hf
      have hcells : a.cells = (ps.toList.map fun q => q.2.cells.toList).flatten := s2
      have hlen : a.len = n := by rw [s1]; simpa using hn
      refine ⟨.slice (some ⟨w.heap.size, 0, none⟩) n n, w.alloc (.cells a.cells.toArray el), ?_, ?_⟩
      · have h24 : ¬ n * a.size > 2 ^ 24 := by
          have : a.size ≤ 4 := by cases a <;> simp [Arr.size]
          have : n * a.size ≤ 1000 * 4 := Nat.mul_le_mul hle this
          omega
        have hne : P.cellsOf el ≠ 0 := by omega
        simp only [Instr.buildSlice, Sem.run_bind, run_underlying hun, Result.andThen_ok, run_sizeOf' hne, hco, if_neg h24]
        by_cases h0 : n * a.size = 0
        · simp only [if_pos h0, Sem.run_bind, Sem.run_pure, Result.andThen_ok]
          rw [hfZ]
          simp [newRow, hcells]
        · simp only [if_neg h0, Sem.run_bind, Sem.run_pure, Result.andThen_ok, zeroValue, typeInfo, run_program, hi, hz]
          rw [hfZ]
          simp [newRow, hcells]
      · have hnew : (w.alloc (.cells a.cells.toArray el)).ownsRow 0 el a.size (.slice (some ⟨w.heap.size, 0, none⟩) a.len a.len) a.len a.cells := by
          refine ⟨a.cells_length, .inr ⟨w.heap.size, a.len, _, rfl, Nat.zero_le _, heap_alloc_new w _, Nat.le_refl _, ?_, ?_, ?_⟩⟩
          · simp only [maxLen]; omega
          · simp [a.cells_length]
          · rw [← a.cells_length]; simp
        have := newArr_ok (nil := false) S (fr_alloc w _) hnew (by simp) (fun y hy => by cases hy; exact Nat.le_refl _)
        rwa [hlen] at this
    · exact S.fail
  · exact S.fail
end
end Go.Ev
namespace Go.Ev
set_option linter.unusedSimpArgs false
set_option linter.unusedVariables false
open Go Go.RowKit
section
variable {cal : Nat → List D → Option (List D)} {l : List Ac} {v : AV} {w0 : World} {M : Nat → Nat → Prop} {ρ : Env} {g : Hp} {w w' : World} {P : Program}

theorem constAV_int {u : Value} {k : IntKind} {n : Int} (h : constAV u = .int k n) : u = .int k n := by
  unfold constAV at h; split at h <;> simp_all
theorem constAV_bool {u : Value} {b : Bool} (h : constAV u = .bool b) : u = .bool b := by
  unfold constAV at h; split at h <;> simp_all
theorem constAV_str {u : Value} {s : ByteArray} (h : constAV u = .str s) : u = .string s := by
  unfold constAV at h; split at h <;> simp_all
theorem flatMap_replicate {α β : Type} (x : α) (f : α → List β) (c : β) (m : Nat) (h : f x = List.replicate m c) : ∀ n, (List.replicate n x).flatMap f = List.replicate (n * m) c
  | 0 => by simp
  | n + 1 => by rw [List.replicate_succ, List.flatMap_cons, h, flatMap_replicate x f c m h n, List.replicate_append_replicate, Nat.add_mul]; congr 1; omega
theorem zeros_ok {el : TypeId} {e : ETy} {n : Nat} {a : Arr} (h : e.zeros n = some a) (hz : zeroOk P el e = true) :
    a.len = n ∧ ∃ z i c, P.info? el = some i ∧ i.zero = some z ∧ (∀ x ∈ z.cells.toList, x = c) ∧ a.cells = List.replicate (n * a.size) c := by
  unfold zeroOk at hz
  split at hz
  all_goals (try contradiction)
  · rename_i k m k' hc
    obtain ⟨i, zv, hi, hzv, hr⟩ := zeroCells_ok (ρ := fun _ => none) hc
    simp only [Bool.and_eq_true, beq_iff_eq] at hz
    obtain ⟨rfl, rfl⟩ := hz
    simp only [ETy.zeros, Option.some.injEq] at h; subst h
    simp only [RepVs, RepV] at hr
    obtain ⟨_, _, he, rfl, rfl⟩ := hr
    exact ⟨by simp [Arr.len], zv, i, .int k 0, hi, hzv, by rw [he]; simp, by simp [Arr.cells, Arr.size]⟩
  · rename_i b hc
    obtain ⟨i, zv, hi, hzv, hr⟩ := zeroCells_ok (ρ := fun _ => none) hc
    simp only [Bool.not_eq_true'] at hz
    subst hz
    simp only [ETy.zeros, Option.some.injEq] at h; subst h
    simp only [RepVs, RepV] at hr
    obtain ⟨_, _, he, rfl, rfl⟩ := hr
    exact ⟨by simp [Arr.len], zv, i, .bool false, hi, hzv, by rw [he]; simp, by simp [Arr.cells, Arr.size]⟩
  · rename_i s hc
    obtain ⟨i, zv, hi, hzv, hr⟩ := zeroCells_ok (ρ := fun _ => none) hc
    have hz := of_decide_eq_true hz
    subst hz
    simp only [ETy.zeros, Option.some.injEq] at h; subst h
    simp only [RepVs, RepV] at hr
    obtain ⟨_, _, he, rfl, rfl⟩ := hr
    exact ⟨by simp [Arr.len], zv, i, .string .empty, hi, hzv, by rw [he]; simp, by simp [Arr.cells, Arr.size]⟩
  · rename_i x y z hc
    obtain ⟨i, zv, hi, hzv, hr⟩ := zeroCells_ok (ρ := fun _ => none) hc
    simp only [Bool.and_eq_true, beq_iff_eq] at hz
    obtain ⟨⟨rfl, rfl⟩, rfl⟩ := hz
    simp only [ETy.zeros, Option.some.injEq] at h; subst h
    simp only [RepVs, RepV] at hr
    obtain ⟨_, _, he, rfl, _, _, rfl, rfl, _, _, rfl, rfl, rfl⟩ := hr
    refine ⟨by simp [Arr.len], zv, i, .int .i64 0, hi, hzv, by rw [he]; simp, ?_⟩
    simp only [Arr.cells, Arr.size]
    exact flatMap_replicate (0, 0, 0) (fun x : Int × Int × Int => [Value.int .i64 x.1, .int .i64 x.2.1, .int .i64 x.2.2]) (.int .i64 0) 3 rfl n
  · rename_i x y z q hc
    obtain ⟨i, zv, hi, hzv, hr⟩ := zeroCells_ok (ρ := fun _ => none) hc
    simp only [Bool.and_eq_true, beq_iff_eq] at hz
    obtain ⟨⟨⟨rfl, rfl⟩, rfl⟩, rfl⟩ := hz
    simp only [ETy.zeros, Option.some.injEq] at h; subst h
    simp only [RepVs, RepV] at hr
    obtain ⟨_, _, he, rfl, _, _, rfl, rfl, _, _, rfl, rfl, _, _, rfl, rfl, rfl⟩ := hr
    refine ⟨by simp [Arr.len], zv, i, .int .i64 0, hi, hzv, by rw [he]; simp, ?_⟩
    simp only [Arr.cells, Arr.size]
    exact flatMap_replicate (0, 0, 0, 0) (fun x : Int × Int × Int × Int => [Value.int .i64 x.1, .int .i64 x.2.1, .int .i64 x.2.2.1, .int .i64 x.2.2.2]) (.int .i64 0) 4 rfl n
theorem made_const {z : Array Value} {c : Value} {n m : Nat} (h : ∀ x ∈ z.toList, x = c) (hz : 0 < z.size) (hm : m ≤ n) : (madeCells z n).toList.take m = List.replicate m c := by
  apply List.ext_getElem?
  intro j
  rw [List.getElem?_take, List.getElem?_replicate]
  by_cases hj : j < m
  · rw [if_pos hj, if_pos hj]
    have hlt : j % z.size < z.size := Nat.mod_lt _ hz
    simp only [madeCells, Array.getElem?_toList, Array.getElem?_map, Array.getElem?_range]
    rw [if_pos (by omega)]
    simp only [Option.map_some, Option.some.injEq]
    rw [getElem!_pos z _ hlt]
    exact h _ (by simp [Array.mem_toList_iff])
  · rw [if_neg hj, if_neg hj]
theorem makeSliceP_ok {t : TypeId} {x y : AV} {xv yv : Value} (S : Sit cal (makeSliceP P t x y) l v w0 M ρ g w) (hx : RepV ρ x xv) (hy : RepV ρ y yv) : SemOk P (Instr.makeSlice t xv yv) l v w0 M ρ g w := by
  unfold makeSliceP at S
  split at S
  · rename_i el kl n kc c hu
    have hun := under_some hu (by simp)
    simp only [RepV] at hx hy
    subst hx hy
    have S0 := S.chk; clear S; obtain ⟨hc, S⟩ := S0
    simp only [Bool.and_eq_true, decide_eq_true_eq] at hc
    obtain ⟨⟨h0, h1⟩, h2⟩ := hc
    split at S
    · rename_i a ha
      have S0 := S.chk; clear S; obtain ⟨he, S⟩ := S0
      simp only [Bool.and_eq_true] at he
      obtain ⟨he, hz⟩ := he
      obtain ⟨i, z, hi, hzz, hzs, his, hby, hco⟩ := elemOk_spec he
      obtain ⟨hal, z', i', cc, hi', hz', hcc, hcells⟩ := zeros_ok ha hz
      rw [hi] at hi'; cases hi'
      rw [hzz] at hz'; cases hz'
      have hss := a.size_pos
      have hb : (i.bytes : Int) * c ≤ 281474976710656 := by
        have e1 : (i.bytes : Int) * c ≤ 64 * c := Int.mul_le_mul_of_nonneg_right (by omega) (by omega)
        simp only [bigLen] at h2; omega
      have hr := run_make (P := P) w t el i z hun hi hzz kl kc n c h0 h1 hb (by simp only [bigLen] at h2; omega)
      have hnew : (w.alloc (.cells (madeCells z.cells (c.toNat * i.size)) el)).ownsRow 0 el a.size (.slice (some ⟨w.heap.size, 0, none⟩) a.len c.toNat) a.len a.cells := by
        refine ⟨a.cells_length, .inr ⟨w.heap.size, c.toNat, _, rfl, Nat.zero_le _, heap_alloc_new w _, by omega, ?_, ?_, ?_⟩⟩
        · simp only [maxLen]; simp only [bigLen] at h2; omega
        · rw [size_madeCells, his]
        · rw [hcells, hal]
          exact made_const hcc (by omega) (by rw [his]; exact Nat.mul_le_mul_right _ (by omega))
      have := newArr_ok (nil := false) S (fr_alloc w _) hnew (by simp) (fun y hy => by cases hy; exact Nat.le_refl _)
      rw [hal] at this
      exact ⟨_, _, hr, this⟩
    · exact S.fail
  · exact S.fail

/-! append -/
theorem fr_row {e : TypeId} {b : Nat} {cur new : Array Value} (h : w.heap[b]? = some (.cells cur e (0, 0))) (hs : new.size = cur.size) : Fr (fun b' _ => b' = b) w (w.setRow b new) := by
  refine ⟨rfl, rfl, rfl, by simp [World.setRow], fun k hk => ?_⟩
  by_cases hkb : k = b
  · subst hkb
    exact .inl ⟨cur, new, e, (0, 0), h, setRow_heap w k cur new e (0, 0) h, hs, fun off ho => absurd rfl ho⟩
  · exact .inr (.inl (setRow_other w b k new hkb))
theorem fr_drew (w : World) : Fr (fun _ _ => False) w w.drew := ⟨rfl, rfl, rfl, Nat.le_refl _, fun _ _ => .inr (.inl rfl)⟩
theorem not_int {d2 : TypeDesc} (hd : ∀ k, d2 ≠ .int k) : (match (generalizing := false) d2 with | .int _ => true | _ => false) = false := by
  cases d2 <;> first | rfl | exact absurd rfl (hd _)
theorem append_any {t t2 ty e e' : TypeId} {d2 : TypeDesc} {i : TypeInfo} {z : Value} (ht : P.underlying t = some (.slice e)) (hu : P.underlying t2 = some d2) (hd : ∀ k, d2 ≠ .int k) (hi : P.info? e = some i) (hz : i.zero = some z)
    (hzs : z.cells.size = i.size) (hsz : 0 < i.size) {u x : Value} {n m : Nat} {xs news : List Value} (hlo : (Builtin.lenOf x).run P w = .ok m w)
    (hf : ∀ w1, w1 = w ∨ w1 = w.drew → (Builtin.firstCells i.size m x).run P w1 = .ok news.toArray w1) (hl : news.length = m * i.size) (h1 : ∀ u ∈ news, u.oneCell' = true)
    (hown : w.ownsRow 0 e' i.size u n xs) (hle : n + m ≤ bigLen) (hfit : (n + m) * i.bytes ≤ 140737488355328) :
    ∃ u' w' e2, (Builtin.append_ #[t, t2] ty #[u, x]).run P w = .ok u' w' ∧ w'.ownsRow 0 e2 i.size u' (n + m) (xs ++ news) ∧ Fr (fun b _ => u.ownBlock = some b) w w' ∧
      (u' = .slice none 0 0 ↔ u = .slice none 0 0 ∧ m = 0) ∧ (∀ b, u'.ownBlock = some b → u.ownBlock = some b ∨ w.heap.size ≤ b) := by
  have hle' : n + m ≤ 1099511627776 := hle
  have hmatch := not_int hd
  have hlen : (xs ++ news).length = (n + m) * i.size := by rw [List.length_append, hown.1, hl, Nat.add_mul]
  have hfitB : ∀ k, k ≤ n + m → k * i.bytes ≤ 140737488355328 := by
    intro k hk
    have : k * i.bytes ≤ (n + m) * i.bytes := Nat.mul_le_mul_right _ hk
    omega
  have hml : n + m ≤ maxLen := by simp only [maxLen]; omega
  have grown : ∀ (old : Nat), (w.drew.alloc (.cells (xs.toArray ++ news.toArray ++ Builtin.zeroCells z.cells (grownCap w (n + m) old e - (n + m))) e)).ownsRow 0 e i.size
        (.slice (some ⟨w.heap.size, 0, none⟩) (n + m) (grownCap w (n + m) old e)) (n + m) (xs ++ news) := by
    intro old
    have hge := grownCap_ge w (n + m) old e
    have hcm : grownCap w (n + m) old e ≤ maxLen := grownCap_le_maxLen w (n + m) old e hml
    refine ⟨hlen, .inr ⟨w.heap.size, _, _, rfl, Nat.zero_le _, heap_alloc_new w.drew _, hge, hcm, ?_, ?_⟩⟩
    · simp only [Array.size_append, List.size_toArray, size_zeroCells, hzs, hown.1, hl, ← Nat.add_mul]
      congr 1
      omega
    · simp only [Array.toList_append, List.append_assoc]
      rw [← List.append_assoc, ← hlen]
      exact List.take_left
  have hn0 : ¬ ((n : Int) + (m : Int) > 9223372036854775807) := by omega
  rcases hown.2 with ⟨rfl, rfl⟩ | ⟨b, cap, cur, rfl, hbg, hg, hnc, hcm, hcs, htake⟩
  · have hx : xs = [] := List.eq_nil_of_length_eq_zero (by simpa using hown.1)
    subst hx
    by_cases hm : m = 0
    · subst hm
      have hn : news = [] := List.eq_nil_of_length_eq_zero (by simpa using hl)
      subst hn
      refine ⟨.slice none 0 0, w, e, ?_, World.ownsRow_nil w 0 e i.size, Fr.refl _ w, by simp, by simp [Value.ownBlock]⟩
      have h0 := hf w (.inl rfl)
      simp [Builtin.append_, run_underlying ht, run_underlying hu, hmatch, sizeOf, typeInfo, hi, hlo, h0]
    · have h0 := hf w.drew (.inr rfl)
      have hcap : ¬ (Builtin.nextslicecap m 0 * i.bytes > 2 ^ 48) := by
        rw [nextslicecap_zero (by omega)]; have := hfitB m (by omega); omega
      have hcap' : ¬ (281474976710656 < Builtin.nextslicecap m 0 * i.bytes) := by omega
      have hm63 : ¬ (9223372036854775807 < (m : Int)) := by omega
      have hg0 := grown 0
      simp only [Nat.zero_add, List.nil_append] at hg0 ⊢
      refine ⟨_, _, e, ?_, hg0, (fr_drew w).mono (fun _ _ _ h => h.elim) |>.trans ((fr_alloc w.drew _).mono fun _ _ _ h => h.elim), by simp [hm], fun b hb => by simp [Value.ownBlock] at hb; exact .inr (by omega)⟩
      simp [Builtin.append_, run_underlying ht, run_underlying hu, hmatch, sizeOf, typeInfo, zeroValue, hi, hz, hlo, hm, hcap', hm63, Question.forced, run_firstCells_none, h0, newRow, grownCap]
  · by_cases hroom : n + m ≤ cap
    · have h0 := hf w (.inl rfl)
      have hfit : n * i.size + news.length ≤ cur.size := by rw [hl, hcs, ← Nat.add_mul]; exact Nat.mul_le_mul_right _ hroom
      have hst := run_storeCells_at P b (n * i.size) e' news 0 cur w hg (by simpa using hfit) h1
      simp only [Nat.add_zero] at hst
      have hsize : (cur.toList.take (n * i.size) ++ news ++ cur.toList.drop (n * i.size + news.length)).toArray.size = cur.size := by
        simp only [List.size_toArray, List.length_append, List.length_take, List.length_drop, Array.length_toList]; omega
      refine ⟨.slice (some ⟨b, 0, none⟩) (n + m) cap, w.setRow b (cur.toList.take (n * i.size) ++ news ++ cur.toList.drop (n * i.size + news.length)).toArray, e', ?_,
        ⟨hlen, .inr ⟨b, cap, _, rfl, hbg, setRow_heap w b cur _ e' _ hg, hroom, hcm, by rw [hsize]; exact hcs, ?_⟩⟩, (fr_row hg hsize).mono (fun x y _ h => by simp [Value.ownBlock, h]), by simp, fun k hk => .inl hk⟩
      · simp [Builtin.append_, run_underlying ht, run_underlying hu, hmatch, sizeOf, typeInfo, hi, hlo, hroom, h0, Addr.add_lit, hst]
      · rw [htake, ← hlen]
        exact List.take_left
    · have h0 := hf w.drew (.inr rfl)
      have holds : ∀ j u, xs[j]? = some u → w.cell? ((⟨b, 0, none⟩ : Addr).add j) = some u := hown.cells (g := b) rfl
      have hfo := run_firstCells_some (P := P) w.drew i.size n ⟨b, 0, none⟩ n cap xs hown.1 (by simpa using holds)
      have hcap' : ¬ (281474976710656 < Builtin.nextslicecap (n + m) cap * i.bytes) := by
        have := growslice_fits (bytes := i.bytes) (show cap < n + m from by omega) (hfitB _ (Nat.le_refl _)); omega
      have hn63 : ¬ (9223372036854775807 < (n : Int) + (m : Int)) := by omega
      refine ⟨_, _, e, ?_, grown cap, (fr_drew w).mono (fun _ _ _ h => h.elim) |>.trans ((fr_alloc w.drew _).mono fun _ _ _ h => h.elim), by simp, fun k hk => by simp [Value.ownBlock] at hk; exact .inr (by omega)⟩
      simp [Builtin.append_, run_underlying ht, run_underlying hu, hmatch, sizeOf, typeInfo, zeroValue, hi, hz, hlo, hroom, hcap', hn63, Question.forced, h0, hfo, newRow, grownCap]
      congr 2
      apply Array.ext'
      simp [List.append_assoc]
end
end Go.Ev
namespace Go.Ev
set_option linter.unusedSimpArgs false
set_option linter.unusedVariables false
open Go Go.RowKit
section
variable {cal : Nat → List D → Option (List D)} {l : List Ac} {v : AV} {w0 : World} {M : Nat → Nat → Prop} {ρ : Env} {g : Hp} {w w' : World} {P : Program}

/-- the old array is given up, the new one stands for it -/
theorem grown_ok {id : Nat} {p : Plc} {nil nil2 : Bool} {a c : Arr} {u' : Value} {e2 : TypeId} {l1 : List Ac}
    (S : Sit cal (.wr id .dead (.new (.arr true nil2 c) fun id' => .ret (.sl id' none))) l1 v w0 M ρ g w) (hp : ρ id = some p) (hg : g id = .arr true nil a)
    (ho : w'.ownsRow 0 e2 c.size u' c.len c.cells) (hfr : Fr (fun b _ => (Value.slice p.base p.len p.cap).ownBlock = some b) w w') (hn : nil2 = true ↔ u' = .slice none 0 0)
    (hb : ∀ b, u'.ownBlock = some b → (Value.slice p.base p.len p.cap).ownBlock = some b ∨ w.heap.size ≤ b) :
    Fin w0 M l1 g ρ w' (fun ρ' => RepV ρ' v u') := by
  have hfoot : ∀ b off, (Value.slice p.base p.len p.cap).ownBlock = some b → foot p (g id) b off := by
    intro b off h
    rw [hg]
    cases hbb : p.base with
    | none => rw [hbb] at h; simp [Value.ownBlock] at h
    | some x => rw [hbb] at h; simp [Value.ownBlock] at h; exact ⟨x, hbb, h, .inl rfl⟩
  obtain ⟨l2, rfl, hd, hS⟩ := S.wr
  have I1 := S.inv.turn (id := id) (p := p) (e := .dead) hp (by rw [hg]; rfl) hfr hfoot trivial (fun b off h => h.elim)
  have S1 := hS w' I1
  obtain ⟨id', l3, rfl, hid, hd', hS1⟩ := S1.new
  obtain ⟨x, cap, rfl⟩ : ∃ x cap, u' = .slice x c.len cap := by
    rcases ho.2 with ⟨h1, h2⟩ | ⟨b, cap, cur, h1, _⟩
    · exact ⟨none, 0, by rw [h1, h2]⟩
    · exact ⟨_, cap, h1⟩
  have hr : RepE (updρ ρ id' ⟨x, c.len, cap, c.size, []⟩) w' ⟨x, c.len, cap, c.size, []⟩ (.arr true nil2 c) := by
    refine ⟨rfl, rfl, ?_, ?_, ?_, fun _ => ⟨e2, ho⟩⟩
    · rw [hn]
      simp only [Value.slice.injEq]
      constructor
      · exact fun h => h.1
      · intro h
        refine ⟨h, ?_⟩
        subst h
        rcases ho.2 with ⟨h1, h2⟩ | ⟨b, cap', cur, h1, _⟩
        · simp only [Value.slice.injEq] at h1; exact ⟨h1.2.1, h1.2.2⟩
        · simp only [Value.slice.injEq, reduceCtorEq, false_and] at h1
    · intro hx
      simp only at hx
      subst hx
      rcases ho.2 with ⟨h1, h2⟩ | ⟨b, cap', cur, h1, _⟩
      · simp only [Value.slice.injEq] at h1; exact ⟨h1.2.2, h2⟩
      · simp only [Value.slice.injEq, reduceCtorEq, false_and] at h1
    · intro y hy
      simp only at hy
      subst hy
      rcases ho.2 with ⟨h1, h2⟩ | ⟨b, cap', cur, h1, _, _, h3, _⟩
      · simp only [Value.slice.injEq, reduceCtorEq, false_and] at h1
      · simp only [Value.slice.injEq, Option.some.injEq, true_and] at h1
        obtain ⟨rfl, rfl⟩ := h1
        exact ⟨h3, fun j u hj => ho.cells (g := b) rfl j u hj⟩
  have hnew : ∀ b off, foot ⟨x, c.len, cap, c.size, []⟩ (.arr true nil2 c) b off → (Value.slice p.base p.len p.cap).ownBlock = some b ∨ w.heap.size ≤ b := by
    rintro b off ⟨y, hy, rfl, _⟩
    simp only at hy
    exact hb _ (by simp [Value.ownBlock, hy])
  have I2 := I1.new2 (id := id') (p := ⟨x, c.len, cap, c.size, []⟩) (e := .arr true nil2 c) hid hr
    (by
      intro j q hq b off _ hf hf'
      by_cases hj : j = id
      · subst hj; rw [upd_same] at hf'; exact hf'
      · rw [upd_other _ _ hj] at hf'
        rcases hnew b off hf with h | h
        · exact S.inv.ok.sep id j p q (Ne.symm hj) hp hq (by rw [hg]; rfl) b off (hfoot b off h) hf'
        · have hnd : g j ≠ .dead := by intro h0; rw [h0] at hf'; exact hf'
          obtain ⟨q', hq', hrq⟩ := S.inv.ok.rep j hnd
          rw [hq] at hq'; cases hq'
          have := hrq.lt' b off hf'
          omega)
    (by
      intro _ b off hf
      rcases hnew b off hf with h | h
      · exact S.inv.own id p hp (by rw [hg]; rfl) b off (hfoot b off h)
      · exact .inr (Nat.le_trans S.inv.fr.size h))
    (by
      intro _ j q hq b off hf hf'
      by_cases hj : j = id
      · subst hj; rw [upd_same] at hf'; exact hf'
      · rw [upd_other _ _ hj] at hf'
        rcases hnew b off hf with h | h
        · exact S.inv.ok.inn id j p q hp hq (by rw [hg]; rfl) b off (hfoot b off h) hf'
        · have hnd : g j ≠ .dead := by intro h0; rw [h0] at hf'; exact hf'
          obtain ⟨q', hq', hrq⟩ := S.inv.ok.rep j hnd
          rw [hq] at hq'; cases hq'
          have := hrq.ltI b off hf'
          omega)
    (fun _ _ _ _ _ _ _ h => h) (fun _ _ _ _ h => h)
  obtain ⟨rfl, rfl⟩ := (hS1 _ _ I2).ret
  refine Fin.wr (Fin.new hid (Fin.here I2 ?_))
  simp only [RepV]
  exact ⟨_, updρ_same _ _ _, rfl⟩
/-- the same for records -/
theorem grownR_ok {id : Nat} {p : Plc} {nil nil2 : Bool} {z : List RK} {a c : List (List RC)} {vss : List (List Value)} {u' : Value} {e2 : TypeId} {l1 : List Ac}
    (S : Sit cal (.wr id .dead (.new (.rows true nil2 z c) fun id' => .ret (.sl id' none))) l1 v w0 M ρ g w) (hp : ρ id = some p) (hg : g id = .rows true nil z a)
    (hR : RowsL w z (p.inn ++ vss) c) (hd2 : ∀ j q, ρ j = some q → (g j).own = true → ∀ b off, foot q (g j) b off → ¬ ∃ us ∈ vss, innR z us b off)
    (ho : w'.ownsRow 0 e2 z.length u' c.length (p.inn ++ vss).flatten) (hfr : Fr (fun b _ => (Value.slice p.base p.len p.cap).ownBlock = some b) w w') (hn : nil2 = true ↔ u' = .slice none 0 0)
    (hb : ∀ b, u'.ownBlock = some b → (Value.slice p.base p.len p.cap).ownBlock = some b ∨ w.heap.size ≤ b) :
    Fin w0 M l1 g ρ w' (fun ρ' => RepV ρ' v u') := by
  have I0 := S.inv
  have hown : (g id).own = true := by rw [hg]; rfl
  have hfoot : ∀ b off, (Value.slice p.base p.len p.cap).ownBlock = some b → foot p (g id) b off := by
    intro b off h
    rw [hg]
    cases hbb : p.base with
    | none => rw [hbb] at h; simp [Value.ownBlock] at h
    | some x => rw [hbb] at h; simp [Value.ownBlock] at h; exact ⟨x, hbb, h, .inl rfl⟩
  have hall : ∀ j q, ρ j = some q → (g j).own = true → ∀ b off, foot q (g j) b off → ¬ ∃ us ∈ p.inn ++ vss, innR z us b off := by
    rintro j q hq ho b off hf ⟨us, hu, hi⟩
    rcases List.mem_append.1 hu with hu | hu
    · exact I0.ok.inn j id q p hq hp ho b off hf (by rw [hg]; exact ⟨us, hu, hi⟩)
    · exact hd2 j q hq ho b off hf ⟨us, hu, hi⟩
  have hR' : RowsL w' z (p.inn ++ vss) c := hR.frame hfr fun b off hi hN => hall id p hp hown b off (hfoot b off hN) hi
  obtain ⟨l2, rfl, hd, hS⟩ := S.wr
  have I1 := I0.turn (id := id) (p := p) (e := .dead) hp hown hfr hfoot trivial (fun b off h => h.elim)
  have S1 := hS w' I1
  obtain ⟨id', l3, rfl, hid, hd', hS1⟩ := S1.new
  obtain ⟨x, cap, rfl⟩ : ∃ x cap, u' = .slice x c.length cap := by
    rcases ho.2 with ⟨h1, h2⟩ | ⟨b, cap, cur, h1, _⟩
    · exact ⟨none, 0, by rw [h1, h2]⟩
    · exact ⟨_, cap, h1⟩
  have hn' : nil2 = true ↔ x = none := by
    rw [hn]
    simp only [Value.slice.injEq]
    constructor
    · exact fun h => h.1
    · intro h
      refine ⟨h, ?_⟩
      subst h
      rcases ho.2 with ⟨h1, h2⟩ | ⟨b, cap', cur, h1, _⟩
      · simp only [Value.slice.injEq] at h1; exact ⟨h1.2.1, h1.2.2⟩
      · simp only [Value.slice.injEq, reduceCtorEq, false_and] at h1
  have hr : RepE (updρ ρ id' ⟨x, c.length, cap, z.length, p.inn ++ vss⟩) w' ⟨x, c.length, cap, z.length, p.inn ++ vss⟩ (.rows true nil2 z c) := rowsRep hR' ho hn'
  have hnew : ∀ b off, foot ⟨x, c.length, cap, z.length, p.inn ++ vss⟩ (.rows true nil2 z c) b off → (Value.slice p.base p.len p.cap).ownBlock = some b ∨ w.heap.size ≤ b := by
    rintro b off ⟨y, hy, rfl, _⟩
    simp only at hy
    exact hb _ (by simp [Value.ownBlock, hy])
  have old : ∀ j q b off, ρ j = some q → foot q (g j) b off ∨ inn q (g j) b off → b < w.heap.size := by
    intro j q b off hq hf
    have hnd : g j ≠ .dead := by intro h0; rw [h0] at hf; exact hf.elim (fun h => h) (fun h => h)
    obtain ⟨q', hq', hrq⟩ := I0.ok.rep j hnd
    rw [hq] at hq'; cases hq'
    exact hf.elim (hrq.lt' b off) (hrq.ltI b off)
  have I2 := I1.new2 (id := id') (p := ⟨x, c.length, cap, z.length, p.inn ++ vss⟩) (e := .rows true nil2 z c) hid hr
    (by
      intro j q hq b off _ hf hf'
      by_cases hj : j = id
      · subst hj; rw [upd_same] at hf'; exact hf'
      · rw [upd_other _ _ hj] at hf'
        rcases hnew b off hf with h | h
        · exact I0.ok.sep id j p q (Ne.symm hj) hp hq hown b off (hfoot b off h) hf'
        · have := old j q b off hq (.inl hf'); omega)
    (by
      intro _ b off hf
      rcases hnew b off hf with h | h
      · exact I0.own id p hp hown b off (hfoot b off h)
      · exact .inr (Nat.le_trans I0.fr.size h))
    (by
      intro _ j q hq b off hf hf'
      by_cases hj : j = id
      · subst hj; rw [upd_same] at hf'; exact hf'
      · rw [upd_other _ _ hj] at hf'
        rcases hnew b off hf with h | h
        · exact I0.ok.inn id j p q hp hq hown b off (hfoot b off h) hf'
        · have := old j q b off hq (.inr hf'); omega)
    (by
      intro j q hq ho b off hf hf'
      by_cases hj : j = id
      · subst hj; rw [upd_same] at hf; exact hf
      · rw [upd_other _ _ hj] at ho hf
        exact hall j q hq ho b off hf hf')
    (by
      intro _ b off hf hf'
      rcases hnew b off hf with h | h
      · exact hall id p hp hown b off (hfoot b off h) hf'
      · obtain ⟨us, hu, hi⟩ := hf'
        have := hR.lt hu hi
        omega)
  obtain ⟨rfl, rfl⟩ := (hS1 _ _ I2).ret
  refine Fin.wr (Fin.new hid (Fin.here I2 ?_))
  simp only [RepV]
  exact ⟨_, updρ_same _ _ _, rfl⟩
theorem strCells_bytesL (q : ByteArray) : Lib.strCells q = (bytesL q).map (Value.int .u8 ·) := by
  simp [Lib.strCells, bytesL]
theorem appendR_ok {t t2 ty el : TypeId} {x : AV} {xv : Value} {id : Nat} {p : Plc} {nil : Bool} {z : List RK} {a : List (List RC)} (hun : P.underlying t = some (.slice el)) (S : Sit cal (.chk (elemOkR P el z.length) (appendR P t t2 id nil z a x)) l v w0 M ρ g w)
    (hp : ρ id = some p) (hg : g id = .rows true nil z a) (hx : RepV ρ x xv) : SemOk P (Builtin.append_ #[t, t2] ty #[.slice p.base p.len p.cap, xv]) l v w0 M ρ g w := by
  have S0 := S.chk; clear S; obtain ⟨he, S⟩ := S0
  obtain ⟨i, zv, hi, hz, hzs, his, hss, hby, hco⟩ := elemOkR_spec he
  have I0 := S.inv
  obtain ⟨q, hq, hr⟩ := I0.ok.rep id (by rw [hg]; simp)
  rw [hp] at hq; cases hq
  rw [hg] at hr
  obtain ⟨h1, h2, h3, h4, h5, h6, h7⟩ := hr
  obtain ⟨e', hown⟩ := h6 rfl
  have hown' : w.ownsRow 0 e' i.size (.slice p.base p.len p.cap) a.length p.inn.flatten := by rw [his, h1, h2]; exact hown
  have hnilv : (Value.slice p.base p.len p.cap = .slice none 0 0) ↔ nil = true := by
    simp only [Value.slice.injEq]
    constructor
    · intro h; exact h3.2 h.1
    · intro h; have := h3.1 h; exact ⟨this, (h4 this).2, (h4 this).1⟩
  unfold appendR at S
  split at S
  · rename_i id2
    have S0 := S.chk; clear S; obtain ⟨htt, S⟩ := S0
    have htt := Nat.eq_of_beq_eq_true htt
    subst htt
    have S0 := S.rd; clear S; obtain ⟨l3, rfl, S⟩ := S0
    split at S
    · rename_i own2 nil2 z2 m hg2
      have S0 := S.chk; clear S; obtain ⟨hz', S⟩ := S0
      have hz' := of_decide_eq_true hz'
      subst hz'
      have S0 := S.chk; clear S; obtain ⟨hne, S⟩ := S0
      have S0 := S.chk; clear S; obtain ⟨hle, S⟩ := S0
      have hle : a.length + m.length ≤ 1048576 := of_decide_eq_true hle
      obtain ⟨p2, hq2, hr2⟩ := I0.ok.rep id2 (by rw [hg2]; simp)
      rw [hg2] at hr2
      obtain ⟨k1, k2, k3, k4, k5, k6, k7⟩ := hr2
      simp only [RepV, RepSl] at hx
      obtain ⟨p2', hp2, rfl⟩ := hx
      rw [hq2] at hp2; cases hp2
      have hfl := k7.flat
      have hnews : ∀ w1, w1 = w ∨ w1 = w.drew → (Builtin.firstCells i.size m.length (.slice p2.base p2.len p2.cap)).run P w1 = .ok p2.inn.flatten.toArray w1 := by
        intro w1 hw1
        cases hbb : p2.base with
        | none =>
          have h0 := (k4 hbb).2
          have hm : m = [] := List.eq_nil_of_length_eq_zero (by omega)
          have : p2.inn.flatten = [] := List.eq_nil_of_length_eq_zero (by rw [hfl, hm]; simp)
          rw [this, hm]
          exact run_firstCells_none _ _ _ _ _
        | some yy =>
          refine run_firstCells_some (P := P) w1 i.size m.length _ _ _ p2.inn.flatten (by rw [hfl, his]) ?_
          intro j u hj
          have hw1c : ∀ ad, w1.cell? ad = w.cell? ad := by rcases hw1 with rfl | rfl <;> simp
          rw [hw1c]
          exact (k5 yy hbb).2 j u hj
      obtain ⟨u', w', e2, hrun, ho, hfr, hn, hbk⟩ := append_any (P := P) (ty := ty) hun hun (by simp) hi hz hzs (by omega) (u := .slice p.base p.len p.cap) (x := .slice p2.base p2.len p2.cap) (n := a.length) (m := m.length) (xs := p.inn.flatten) (news := p2.inn.flatten)
        (by simp [Builtin.lenOf, k1]) hnews (by rw [hfl, his]) k7.one hown' (by unfold bigLen; omega) (by have := Nat.mul_le_mul hle hby; omega)
      refine ⟨u', w', hrun, (grownR_ok (nil := nil) (a := a) (vss := p2.inn) S hp hg (k7.app h7) (fun j q hq ho b off hf hi => I0.ok.inn j id2 q p2 hq hq2 ho b off hf (by rw [hg2]; exact hi)) (e2 := e2) (by rw [List.length_append, List.flatten_append, ← his]; exact ho) hfr ?_ hbk).rd⟩
      rw [hn, hnilv, Bool.and_eq_true, decide_eq_true_eq, List.length_append]
      constructor
      · intro h; exact ⟨h.1, by omega⟩
      · intro h
        refine ⟨h.1, ?_⟩
        have : p.len = 0 := (h4 (h3.1 h.1)).2
        omega
    · exact S.fail
  · have S0 := S.chk; clear S; obtain ⟨htt, S⟩ := S0
    have htt := Nat.eq_of_beq_eq_true htt
    subst htt
    simp only [RepV] at hx
    subst hx
    have hrun : (Builtin.append_ #[t, t] ty #[.slice p.base p.len p.cap, .slice none 0 0]).run P w = .ok (.slice p.base p.len p.cap) w := by
      rcases hown'.2 with ⟨hv, _⟩ | ⟨b, cap, cur, hv, _, _, hnc, _⟩
      · rw [hv]; simp [Builtin.append_, run_underlying hun, sizeOf, typeInfo, hi, Builtin.lenOf, Builtin.firstCells]
      · rw [hv]; simp [Builtin.append_, run_underlying hun, sizeOf, typeInfo, hi, Builtin.lenOf, Builtin.firstCells, hnc, storeCells]
    exact ⟨_, w, hrun, ret_ok S (by simp only [RepV]; exact ⟨p, hp, rfl⟩)⟩
  · exact S.fail
theorem appendP_ok {t t2 ty : TypeId} {s x : AV} {sv xv : Value} (S : Sit cal (appendP P t t2 s x) l v w0 M ρ g w) (hs : RepV ρ s sv) (hx : RepV ρ x xv) :
    SemOk P (Builtin.append_ #[t, t2] ty #[sv, xv]) l v w0 M ρ g w := by
  unfold appendP at S
  obtain ⟨s', l1, g1, ρ1, S1, hs', hsub, hF⟩ := fixT_ok S hs
  clear S
  replace hx := RepV.mono hsub _ _ hx
  suffices h : SemOk P (Builtin.append_ #[t, t2] ty #[sv, xv]) l1 v w0 M ρ1 g1 w by
    obtain ⟨vv, w', h1, h2⟩ := h
    exact ⟨vv, w', h1, hF _ _ h2⟩
  unfold append1 at S1
  split at S1
  · rename_i el id hu
    have hun := under_some hu (by simp)
    simp only [RepV] at hs'
    obtain ⟨p, hp, hsv⟩ := hs'
    simp only [RepSl] at hsv
    subst hsv
    have S0 := S1.rd; clear S1; obtain ⟨l2, rfl, S1⟩ := S0
    split at S1
    · rename_i nil a hg
      have S0 := S1.chk; clear S1; obtain ⟨he, S1⟩ := S0
      obtain ⟨i, z, hi, hz, hzs, his, hby, hco⟩ := elemOk_spec he
      have hss := a.size_pos
      obtain ⟨q, hq, hr⟩ := S1.inv.ok.rep id (by rw [hg]; simp)
      rw [hp] at hq; cases hq
      rw [hg] at hr
      obtain ⟨h1, h2, h3, h4, h5, h6⟩ := hr
      obtain ⟨e', hown⟩ := h6 rfl
      rw [← h2, ← h1] at hown
      have hown' : w.ownsRow 0 e' i.size (.slice p.base p.len p.cap) a.len a.cells := by rw [his, ← h1]; exact hown
      have hnilv : (Value.slice p.base p.len p.cap = .slice none 0 0) ↔ nil = true := by
        simp only [Value.slice.injEq]
        constructor
        · intro h; exact h3.2 h.1
        · intro h; have := h3.1 h; exact ⟨this, (h4 this).2, (h4 this).1⟩
      unfold append2 at S1
      split at S1
      · rename_i id2 w2
        have S0 := S1.chk; clear S1; obtain ⟨htt, S1⟩ := S0
        have htt := Nat.eq_of_beq_eq_true htt
        subst htt
        have S0 := S1.rd; clear S1; obtain ⟨l3, rfl, S1⟩ := S0
        split at S1
        · rename_i own2 nil2 b hg2
          split at S1
          · rename_i c hc
            have S0 := S1.chk; clear S1; obtain ⟨hle, S1⟩ := S0
            have hle := of_decide_eq_true hle
            have S0 := S1.chk; clear S1; obtain ⟨hne, S1⟩ := S0
            obtain ⟨sb, hsub2⟩ : ∃ sb, (match w2 with | none => b | some (o, n) => b.sub o n) = sb := ⟨_, rfl⟩
            have hc' : a.app sb = some c := by rw [← hsub2, ← hc]; cases w2 <;> rfl
            obtain ⟨c1, c2, c3, c4⟩ := Arr.app_spec hc'
            obtain ⟨q2, hq2, hr2⟩ := S1.inv.ok.rep id2 (by rw [hg2]; simp)
            rw [hg2] at hr2
            simp only [RepV] at hx
            obtain ⟨p2, hp2, hxs⟩ := hx
            rw [hp2] at hq2; cases hq2
            obtain ⟨y, cp, rfl, hlc, hoff, hbase⟩ := lenW_ok hr2 hxs
            obtain ⟨k1, k2, k3, k4, k5, k6⟩ := hr2
            have hsb : sb.cells = (b.cells.drop (offW w2 * b.size)).take (lenW w2 b * b.size) ∧ sb.len = lenW w2 b ∧ sb.size = b.size := by
              subst hsub2
              cases w2 with
              | none => exact ⟨by simp only [offW, lenW, Nat.zero_mul, List.drop_zero]; rw [List.take_of_length_le]; rw [b.cells_length]; exact Nat.le_refl _, rfl, rfl⟩
              | some on =>
                obtain ⟨o, n⟩ := on
                simp only [offW, lenW] at hoff ⊢
                exact ⟨b.sub_cells o n, b.sub_len o n (by omega), b.sub_size o n⟩
            obtain ⟨sb1, sb2, sb3⟩ := hsb
            have hnews : ∀ w1, w1 = w ∨ w1 = w.drew → (Builtin.firstCells i.size sb.len (.slice y (lenW w2 b) cp)).run P w1 = .ok sb.cells.toArray w1 := by
              intro w1 hw1
              by_cases h0 : lenW w2 b = 0
              · have : sb.cells = [] := List.eq_nil_of_length_eq_zero (by rw [sb.cells_length, sb2, h0]; simp)
                rw [this, sb2, h0]
                cases y with
                | none => exact run_firstCells_none _ _ _ _ _
                | some yy => exact run_firstCells_some (P := P) w1 i.size 0 yy 0 cp [] (by simp) (by simp)
              · obtain ⟨bb, hbb, rfl⟩ := hbase h0
                have hcl := (k5 bb hbb).2
                refine run_firstCells_some (P := P) w1 i.size sb.len _ _ _ sb.cells (by rw [sb.cells_length, his, c4]) ?_
                intro j u hj
                have hw1c : ∀ ad, w1.cell? ad = w.cell? ad := by rcases hw1 with rfl | rfl <;> simp
                rw [hw1c, addr_add_add]
                rw [sb1, List.getElem?_take] at hj
                split at hj
                · rw [List.getElem?_drop, k2] at hj
                  exact hcl _ u hj
                · cases hj
            obtain ⟨u', w', e2, hrun, ho, hfr, hn, hbk⟩ := append_any (P := P) (ty := ty) hun hun (by simp) hi hz hzs (by omega) (u := .slice p.base p.len p.cap) (x := .slice y (lenW w2 b) cp) (n := a.len) (m := sb.len) (xs := a.cells) (news := sb.cells)
              (by simp [Builtin.lenOf, sb2]) hnews (by rw [sb.cells_length, his, c4]) sb.cells_one hown' (by rw [← c2]; exact hle) (by
                have h0 : a.len + sb.len ≤ 1099511627776 := by rw [← c2]; exact hle
                have := Nat.mul_le_mul h0 hby; omega)
            refine ⟨u', w', hrun, (grown_ok (nil := nil) (a := a) S1 hp hg (e2 := e2) (by rw [c1, c2, c3, ← his]; exact ho) hfr ?_ hbk).rd.rd⟩
            rw [hn, hnilv, Bool.and_eq_true, decide_eq_true_eq, c2]
            constructor
            · intro h; exact ⟨h.1, by omega⟩
            · intro h
              refine ⟨h.1, ?_⟩
              have : p.len = 0 := (h4 (h3.1 h.1)).2
              omega
          · exact S1.fail
        · exact S1.fail
      · rename_i q
        split at S1
        · rename_i lz hu2
          have hun2 := under_some hu2 (by simp)
          have S0 := S1.chk; clear S1; obtain ⟨hle, S1⟩ := S0
          have hle := of_decide_eq_true hle
          simp only [RepV] at hx
          subst hx
          have hs1 : i.size = 1 := his
          have hbl : (bytesL q).length = q.size := by simp only [bytesL, List.length_map, Array.length_toList]; rfl
          obtain ⟨u', w', e2, hrun, ho, hfr, hn, hbk⟩ := append_any (P := P) (ty := ty) hun hun2 (by simp) hi hz hzs (by omega) (u := .slice p.base p.len p.cap) (x := .string q) (n := lz.length) (m := q.size) (xs := (Arr.ints .u8 lz).cells) (news := Lib.strCells q)
            (by simp [Builtin.lenOf]) (fun w1 _ => Lib.run_firstCells_string (P := P) w1 i.size q) (by rw [Lib.strCells_length, hs1, Nat.mul_one]) (Lib.strCells_oneCell q) hown' hle (by
              have h0 : lz.length + q.size ≤ 1099511627776 := hle
              have := Nat.mul_le_mul h0 hby; omega)
          have hcells : (Arr.ints .u8 (lz ++ bytesL q)).cells = (Arr.ints .u8 lz).cells ++ Lib.strCells q := by rw [strCells_bytesL]; simp [Arr.cells]
          have hlen : (Arr.ints .u8 (lz ++ bytesL q)).len = lz.length + q.size := by simp [Arr.len, hbl]
          refine ⟨u', w', hrun, (grown_ok (nil := nil) (a := .ints .u8 lz) S1 hp hg (e2 := e2) (by rw [hcells, hlen]; rw [his] at ho; exact ho) hfr ?_ hbk).rd⟩
          rw [hn, hnilv, Bool.and_eq_true, decide_eq_true_eq]
        · exact S1.fail
      · have S0 := S1.chk; clear S1; obtain ⟨htt, S1⟩ := S0
        have htt := Nat.eq_of_beq_eq_true htt
        subst htt
        simp only [RepV] at hx
        subst hx
        have hrun : (Builtin.append_ #[t, t] ty #[.slice p.base p.len p.cap, .slice none 0 0]).run P w = .ok (.slice p.base p.len p.cap) w := by
          rcases hown'.2 with ⟨hv, _⟩ | ⟨b, cap, cur, hv, _, _, hnc, _⟩
          · rw [hv]; simp [Builtin.append_, run_underlying hun, sizeOf, typeInfo, hi, Builtin.lenOf, Builtin.firstCells]
          · rw [hv]; simp [Builtin.append_, run_underlying hun, sizeOf, typeInfo, hi, Builtin.lenOf, Builtin.firstCells, hnc, storeCells]
        exact ⟨_, w, hrun, (ret_ok S1 (by simp only [RepV]; exact ⟨p, hp, rfl⟩)).rd⟩
      · exact S1.fail
    · rename_i nil z a hg
      obtain ⟨vv, w', h1, h2⟩ := appendR_ok (ty := ty) hun S1 hp hg hx
      exact ⟨vv, w', h1, h2.rd⟩
    · exact S1.fail
  · exact S1.fail
end
end Go.Ev
