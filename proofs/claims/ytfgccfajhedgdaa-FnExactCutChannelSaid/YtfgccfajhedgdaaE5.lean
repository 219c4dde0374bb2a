/- The evaluator: parts of slices and strings; variables: made, read, stored. -/
import Derived.Test.YtfgccfajhedgdaaE4
namespace Go.Ev
set_option linter.unusedSimpArgs false
set_option linter.unusedVariables false
open Go Go.RowKit
section
variable {cal : Nat → List D → Option (List D)} {l : List Ac} {v : AV} {w0 : World} {M : Nat → Nat → Prop} {ρ : Env} {g : Hp} {w w' : World} {P : Program}

def RepO (ρ : Env) : Option AV → Option Value → Prop
  | none, none => True
  | some c, some u => RepV ρ c u
  | _, _ => False
theorem bound_ok {k : IntKind} {n : Int} {y : Nat} {c : BoundsCode} (h0 : 0 ≤ n) (h1 : n ≤ y) : (Instr.sliceBound (.int k n) y c).run P w = .ok n.toNat w := by
  simp [Instr.sliceBound, asIntOf, h0, h1]
theorem sliceBounds_ok {isSlice : Bool} {len cap : Nat} {lo hi : Option AV} {low high : Option Value} {a b : Int} (hl : RepO ρ lo low) (hh : RepO ρ hi high)
    (e1 : optI lo 0 = some a) (e2 : optI hi len = some b) (h0 : 0 ≤ a) (h1 : a ≤ b) (h2 : b ≤ len) (h3 : len ≤ cap) :
    (Instr.sliceBounds isSlice len cap low high none).run P w = .ok (a.toNat, b.toNat, cap) w := by
  have hb : ∃ m : Nat, b.toNat = m ∧ (match high with | some v => Instr.sliceBound v cap (if isSlice then .sliceAcap else .sliceAlen) | none => pure len : Sem Nat).run P w = .ok m w := by
    refine ⟨b.toNat, rfl, ?_⟩
    cases hi with
    | none =>
      cases high with
      | none => simp only [optI, Option.some.injEq] at e2; subst e2; simp
      | some u => exact hh.elim
    | some c =>
      cases high with
      | none => exact hh.elim
      | some u =>
        cases c <;> simp only [optI, Option.some.injEq, reduceCtorEq] at e2
        subst e2
        simp only [RepO, RepV] at hh
        subst hh
        exact bound_ok (by omega) (by omega)
  have ha : (match low with | some v => Instr.sliceBound v b.toNat .sliceB | none => pure 0 : Sem Nat).run P w = .ok a.toNat w := by
    cases lo with
    | none =>
      cases low with
      | none => simp only [optI, Option.some.injEq] at e1; subst e1; simp
      | some u => exact hl.elim
    | some c =>
      cases low with
      | none => exact hl.elim
      | some u =>
        cases c <;> simp only [optI, Option.some.injEq, reduceCtorEq] at e1
        subst e1
        simp only [RepO, RepV] at hl
        subst hl
        exact bound_ok (by omega) (by omega)
  obtain ⟨m, hm, hb⟩ := hb
  rw [hm] at ha ⊢
  unfold Instr.sliceBounds
  cases high <;> cases low <;> simp_all
theorem sliceP_ok {t : TypeId} {x : AV} {xv : Value} {lo hi mx : Option AV} {low high max : Option Value} (S : Sit cal (sliceP P t x lo hi mx) l v w0 M ρ g w)
    (hx : RepV ρ x xv) (hl : RepO ρ lo low) (hh : RepO ρ hi high) (hm : RepO ρ mx max) : SemOk P (Instr.sliceAt t xv low high max) l v w0 M ρ g w := by
  unfold sliceP at S
  split at S
  · exact S.fail
  · cases max with
    | some u => exact hm.elim
    | none =>
    split at S
    · rename_i s hu
      have hun := under_some hu (by simp)
      simp only [RepV] at hx; subst hx
      split at S
      · rename_i a b e1 e2
        have S0 := S.chk; clear S; obtain ⟨hc, S⟩ := S0
        simp only [Bool.and_eq_true, decide_eq_true_eq] at hc
        have hb := sliceBounds_ok (P := P) (w := w) (isSlice := false) (len := s.size) (cap := s.size) hl hh e1 e2 hc.1.1 hc.1.2 hc.2 (Nat.le_refl _)
        refine ⟨.string (s.extract a.toNat b.toNat), w, ?_, ret_ok S (by simp [RepV])⟩
        simp [Instr.sliceAt, Instr.slice, run_underlying hun, hb]
      · exact S.fail
    · rename_i el id wn hu
      have hun := under_some hu (by simp)
      simp only [RepV] at hx
      obtain ⟨p, hp, hx⟩ := hx
      have S0 := S.rd; clear S; obtain ⟨l', rfl, S⟩ := S0
      split at S
      · rename_i own nil a hg
        have S0 := S.chk; clear S; obtain ⟨hs, S⟩ := S0
        split at S
        · rename_i i j e1 e2
          have S0 := S.chk; clear S; obtain ⟨hc, S⟩ := S0
          simp only [Bool.and_eq_true, decide_eq_true_eq] at hc
          obtain ⟨q, hq, hr⟩ := S.inv.ok.rep id (by rw [hg]; simp)
          rw [hp] at hq; cases hq
          rw [hg] at hr
          obtain ⟨y, c, rfl, hlc, hoff, hb⟩ := lenW_ok hr hx
          obtain ⟨hn1, hn2⟩ := nilW_ok hr hx
          have hsz : a.size = P.cellsOf el := Nat.eq_of_beq_eq_true hs
          have hne : P.cellsOf el ≠ 0 := by have := a.size_pos; omega
          have hbd := sliceBounds_ok (P := P) (w := w) (isSlice := true) hl hh e1 e2 hc.1.1 hc.1.2 hc.2 hlc
          refine ⟨.slice (if c = i.toNat then y else y.map (·.add (i.toNat * P.cellsOf el))) (j.toNat - i.toNat) (c - i.toNat), w, ?_, (ret_ok S ?_).rd⟩
          · simp [Instr.sliceAt, Instr.slice, run_underlying hun, hbd, run_sizeOf' hne]
          · simp only [RepV]
            refine ⟨p, hp, ?_⟩
            simp only [RepSl]
            refine ⟨by omega, _, _, rfl, by omega, ?_, by split <;> simp [hn1], fun h => by have := hn2 h; omega⟩
            by_cases h0 : j.toNat - i.toNat = 0
            · exact .inl h0
            · right
              obtain ⟨b, hbb, rfl⟩ := hb (by omega)
              refine ⟨b, hbb, ?_⟩
              rw [if_neg (by omega), ← hsz, hr.2.1]
              simp only [Option.map_some, addr_add_add, Nat.add_mul]
        · exact S.fail
      · exact S.fail
    · exact S.fail

/-! variables -/
theorem fr_alloc (w : World) (o : Obj) : Fr (fun _ _ => False) w (w.alloc o) :=
  ⟨rfl, rfl, rfl, by simp, fun b hb => .inr (.inl (Below.heap_alloc w o b hb))⟩
theorem cells_alloc (w : World) (vs : List Value) (t : TypeId) : CellsL (w.alloc (.cells vs.toArray t)) ⟨w.heap.size, 0, none⟩ vs := by
  intro j u hj
  have : (⟨w.heap.size, 0, none⟩ : Addr).add j = ⟨w.heap.size, j, none⟩ := by unfold Addr.add; split <;> simp_all
  rw [this]
  simp only [World.cell?_alloc_new]
  simpa using hj
theorem thawed_alloc (w : World) (c : Array Value) (t : TypeId) (n : Nat) : Thawed (w.alloc (.cells c t)) ⟨w.heap.size, 0, none⟩ n := by
  intro j hj
  have : (⟨w.heap.size, 0, none⟩ : Addr).add j = ⟨w.heap.size, j, none⟩ := by unfold Addr.add; split <;> simp_all
  rw [this, World.frozen?_alloc_new]
/-- a variable made -/
theorem newBox_ok {cs : List AV} {us : List Value} {t : TypeId} (S : Sit cal (.new (.box true cs) fun id => .ret (.ptr id 0 0)) l v w0 M ρ g w) (h : RepVs ρ cs us) :
    Fin w0 M l g ρ (w.alloc (.cells us.toArray t)) (fun ρ' => RepV ρ' v (.pointer (some ⟨w.heap.size, 0, none⟩))) := by
  obtain ⟨id, l', rfl, hn, hd, hS⟩ := S.new
  have I := S.inv.new (id := id) (p := ⟨some ⟨w.heap.size, 0, none⟩, 1, 1, 0⟩) (e := .box true cs) hn (fr_alloc w (.cells us.toArray t))
    ⟨rfl, _, us, rfl, rfl, h.mono (sub_updρ hn) _ _, cells_alloc w us t, fun _ => thawed_alloc w _ t _⟩
    (.inl ⟨rfl, fun b off hf => by obtain ⟨x, hx, rfl, _⟩ := hf; cases hx; exact Nat.le_refl _⟩)
  obtain ⟨rfl, rfl⟩ := (hS _ _ I).ret
  refine Fin.new hn (Fin.here I ?_)
  simp only [RepV]
  exact ⟨_, _, updρ_same _ _ _, rfl, by simp, by simp [addr_add_zero]⟩
theorem zeroCells_ok {t : TypeId} {z : List AV} (h : zeroCells P t = some z) : ∃ i zv, P.info? t = some i ∧ i.zero = some zv ∧ RepVs ρ z zv.cells.toList := by
  unfold zeroCells at h
  cases hi : P.info? t with
  | none => rw [hi] at h; simp at h
  | some i =>
    rw [hi] at h
    simp only [Option.bind_some, Option.map_eq_some_iff] at h
    obtain ⟨zv, hz, rfl⟩ := h
    refine ⟨i, zv, rfl, hz, ?_⟩
    generalize zv.cells.toList = us
    induction us with
    | nil => simp [RepVs]
    | cons u us ih => simpa using RepVs.cons (constAV_rep ρ u) ih
theorem alloc_ok {t : TypeId} (S : Sit cal (match zeroCells P t with
    | some z => fixs (cty P t) z fun cs => .new (.box true cs) fun id => .ret (.ptr id 0 0)
    | none => .fail) l v w0 M ρ g w) : SemOk P (Instr.alloc t true (.tuple #[])) l v w0 M ρ g w := by
  split at S
  · rename_i z hz
    obtain ⟨i, zv, hi, hzv, hr⟩ := zeroCells_ok (ρ := ρ) hz
    obtain ⟨cs, l1, g1, ρ1, S1, ⟨hcs, _⟩, hs, hF⟩ := fixs_ok _ _ S hr
    refine ⟨.pointer (some ⟨w.heap.size, 0, none⟩), w.alloc (.cells zv.cells t), ?_, hF _ _ ?_⟩
    · simp [Instr.alloc, zeroValue, typeInfo, hi, hzv, newVar, newRow]
    · have := newBox_ok (t := t) S1 hcs
      simpa using this
  · exact S.fail
theorem cells_rep {c : AV} {u : Value} (h : RepV ρ c u) (hc : c.cells.all AV.one = true) : RepVs ρ c.cells u.cells.toList ∧ ∀ x ∈ u.cells.toList, x.oneCell' = true := by
  have one : ∀ {c : AV} {u : Value}, RepV ρ c u → c.one = true → u.oneCell' = true := by
    intro c u h ho
    cases c <;> simp only [AV.one, Bool.false_eq_true] at ho <;> simp only [RepV] at h
    · subst h; rfl
    · subst h; rfl
    · subst h; rfl
    · subst h; rfl
    · rename_i wn
      obtain ⟨p, _, hs⟩ := h
      cases wn with
      | none => simp only [RepSl] at hs; subst hs; rfl
      | some on => simp only [RepSl] at hs; obtain ⟨_, _, _, rfl, _⟩ := hs; rfl
    · obtain ⟨p, a, _, _, _, rfl⟩ := h; rfl
    · obtain ⟨vs, rfl, _⟩ := h; rfl
  have ones : ∀ {cs : List AV} {us : List Value}, RepVs ρ cs us → cs.all AV.one = true → ∀ x ∈ us, x.oneCell' = true := by
    intro cs
    induction cs with
    | nil => intro us h _ x hx; simp only [RepVs] at h; subst h; cases hx
    | cons c cs ih =>
      intro us h ha x hx
      simp only [RepVs] at h
      obtain ⟨u, us, rfl, h1, h2⟩ := h
      simp only [List.all_cons, Bool.and_eq_true] at ha
      rcases List.mem_cons.1 hx with rfl | hx
      · exact one h1 ha.1
      · exact ih h2 ha.2 x hx
  have key : RepVs ρ c.cells u.cells.toList := by
    cases c with
    | agg cs =>
      simp only [RepV] at h
      obtain ⟨vs, rfl, h⟩ := h
      exact h
    | un => simp [AV.cells, AV.one] at hc
    | tup cs => simp [AV.cells, AV.one] at hc
    | mp id => simp [AV.cells, AV.one] at hc
    | nils => simp only [RepV] at h; subst h; simp [AV.cells, Value.cells, RepVs, RepV]
    | int k n => simp only [RepV] at h; subst h; simp [AV.cells, Value.cells, RepVs, RepV]
    | bool b => simp only [RepV] at h; subst h; simp [AV.cells, Value.cells, RepVs, RepV]
    | str s => simp only [RepV] at h; subst h; simp [AV.cells, Value.cells, RepVs, RepV]
    | sl id wn =>
      have h' := h
      simp only [RepV] at h
      obtain ⟨p, _, hs⟩ := h
      have : u.cells = #[u] := by
        cases wn with
        | none => simp only [RepSl] at hs; subst hs; rfl
        | some on => simp only [RepSl] at hs; obtain ⟨_, _, _, rfl, _⟩ := hs; rfl
      rw [this]
      exact RepVs.cons h' (RepVs.nil ρ)
    | ptr id i o =>
      have h' := h
      simp only [RepV] at h
      obtain ⟨p, a, _, _, _, rfl⟩ := h
      exact RepVs.cons h' (RepVs.nil ρ)
    | fn f cs =>
      have h' := h
      simp only [RepV] at h
      obtain ⟨vs, rfl, _⟩ := h
      exact RepVs.cons h' (RepVs.nil ρ)
  exact ⟨key, ones key hc⟩
theorem box_ok {t : TypeId} {x : AV} {xv : Value} (S : Sit cal (fixT P t x fun v => .chk (v.cells.all AV.one) (.new (.box true v.cells) fun id => .ret (.ptr id 0 0))) l v w0 M ρ g w) (hx : RepV ρ x xv) :
    SemOk P (Instr.box t xv) l v w0 M ρ g w := by
  obtain ⟨c, l1, g1, ρ1, S1, hc, hs, hF⟩ := fixT_ok S hx
  obtain ⟨ho, S1⟩ := S1.chk
  refine ⟨.pointer (some ⟨w.heap.size, 0, none⟩), w.alloc (.cells xv.cells t), ?_, hF _ _ ?_⟩
  · simp [Instr.box, newVar, newRow]
  · have := newBox_ok (t := t) S1 (cells_rep hc ho).1
    simpa using this

theorem loadVar_ok {t : TypeId} (hk : known P t = true) {y : Addr} {us : List Value} (h : CellsL w y us) (hl : us.length = P.cellsOf t) (h1 : isAggT P t = false → us.length = 1) :
    (loadVar t y).run P w = .ok (ofCells (isAggT P t) us) w := by
  obtain ⟨d, hd, hu⟩ := known_some hk
  unfold loadVar
  have ha : isAggT P t = isAggD d := by rw [isAggT, hu]
  simp only [Sem.run_bind, run_isAgg hd, Result.andThen_ok]
  cases hagg : isAggD d with
  | true =>
    have hc := run_loadCells_list (P := P) (w := w) y us (fun j v hj => h j v hj)
    rw [hl] at hc
    simp [ofCells, ha, hagg, run_sizeOf hd, hc]
  | false =>
    obtain ⟨u, rfl⟩ := List.length_eq_one_iff.1 (h1 (by rw [ha, hagg]))
    have := h 0 u rfl
    rw [addr_add_zero] at this
    simp [ofCells, ha, hagg, this]
theorem loadP_ok {t : TypeId} {x : AV} {xv : Value} (S : Sit cal (loadP P t x) l v w0 M ρ g w) (hx : RepV ρ x xv) : SemOk P (Instr.loadAt t xv) l v w0 M ρ g w := by
  unfold loadP at S
  split at S
  · rename_i id i o
    have S0 := S.chk; clear S; obtain ⟨hk, S⟩ := S0
    simp only [RepV] at hx
    obtain ⟨p, a, hp, hb, hi, rfl⟩ := hx
    have S0 := S.rd; clear S; obtain ⟨l', rfl, S⟩ := S0
    split at S
    · rename_i own cs hg
      split at S
      · have S0 := S.chk; clear S; obtain ⟨hl, S⟩ := S0
        obtain ⟨q, hq, hr⟩ := S.inv.ok.rep id (by rw [hg]; simp)
        rw [hp] at hq; cases hq
        rw [hg] at hr
        obtain ⟨h1, y, us, hy, hs, hus, hcl, _⟩ := hr
        rw [hb] at hy; cases hy
        have hrep := (hus.drop o).take (P.cellsOf t)
        obtain ⟨F, h1'⟩ := aggN_ok S hrep
        refine ⟨_, w, ?_, F.rd⟩
        have hcells : CellsL w (a.add (0 * p.size + o)) ((us.drop o).take (P.cellsOf t)) := by
          intro j u hj
          rw [addr_add_add]
          rw [List.getElem?_take] at hj
          split at hj
          · rw [List.getElem?_drop] at hj
            rw [show 0 * p.size + o + j = o + j from by omega]
            exact hcl _ u hj
          · cases hj
        simp only [Instr.loadAt, Instr.sureAddr, Sem.run_bind, Sem.run_pure, Result.andThen_ok]
        exact loadVar_ok hk hcells (by rw [hrep.length]; exact Nat.eq_of_beq_eq_true hl) h1'
      · exact S.fail
    · rename_i own nil ar hg
      have S0 := S.chk; clear S; obtain ⟨hl, S⟩ := S0
      obtain ⟨q, hq, hr⟩ := S.inv.ok.rep id (by rw [hg]; simp)
      rw [hp] at hq; cases hq
      rw [hg] at hr
      obtain ⟨h1, h2, h3, h4, h5, h6⟩ := hr
      obtain ⟨h7, h8⟩ := h5 a hb
      have hrep := ((ar.get_rep ρ i (by omega)).drop o).take (P.cellsOf t)
      obtain ⟨F, h1'⟩ := aggN_ok S hrep
      refine ⟨_, w, ?_, F.rd⟩
      have hcells : CellsL w (a.add (i * p.size + o)) ((((ar.cells.drop (i * ar.size)).take ar.size).drop o).take (P.cellsOf t)) := by
        intro j u hj
        rw [addr_add_add]
        rw [List.getElem?_take] at hj
        split at hj
        · rw [List.getElem?_drop, List.getElem?_take] at hj
          split at hj
          · rw [List.getElem?_drop, h2] at hj
            rw [show i * p.size + o + j = i * p.size + (o + j) from by omega]
            exact h8 _ u hj
          · cases hj
        · cases hj
      simp only [Instr.loadAt, Instr.sureAddr, Sem.run_bind, Sem.run_pure, Result.andThen_ok]
      exact loadVar_ok hk hcells (by rw [hrep.length]; exact Nat.eq_of_beq_eq_true hl) h1'
    · exact S.fail
  · exact S.fail

/-! stores -/
def Span (b lo n : Nat) : Nat → Nat → Prop := fun b' off => b' = b ∧ lo ≤ off ∧ off < lo + n
theorem storeCells_ok (x : Addr) (hx : x.spot = none) : ∀ (vs : List Value) (i : Nat) (w : World), (∀ j, j < vs.length → (∃ u, w.cell? (x.add (i + j)) = some u) ∧ w.frozen? (x.add (i + j)) = false) → (∀ u ∈ vs, u.oneCell' = true) →
    ∃ w', (storeCells x vs i).run P w = .ok () w' ∧ Fr (Span x.block (x.off + i) vs.length) w w' ∧ (∀ j u, vs[j]? = some u → w'.cell? (x.add (i + j)) = some u) ∧ ∀ y, w'.frozen? y = w.frozen? y
  | [], i, w, _, _ => ⟨w, by simp [storeCells], Fr.refl _ w, by simp, fun _ => rfl⟩
  | u :: vs, i, w, hc, h1 => by
    obtain ⟨⟨u0, hu0⟩, hf0⟩ := hc 0 (by simp)
    simp only [Nat.add_zero] at hu0 hf0
    have hst := run_store P w (x.add i) u .plain (h1 u (by simp))
    have hadd : ∀ n, x.add n = ⟨x.block, x.off + n, none⟩ := by
      intro n; unfold Addr.add; split
      · rename_i h0; subst h0; cases x; simp_all
      · rfl
    have hne : ∀ j, x.add i ≠ x.add (i + 1 + j) := by
      intro j h
      have := congrArg Addr.off h
      rw [addr_off, addr_off] at this
      omega
    obtain ⟨w', hr, hfr, hcl, hfz⟩ := storeCells_ok x hx vs (i + 1) (w.setCell (x.add i) u) (fun j hj => by
      obtain ⟨⟨u1, hu1⟩, hf1⟩ := hc (j + 1) (by simpa using hj)
      rw [show i + (j + 1) = i + 1 + j from by omega] at hu1 hf1
      exact ⟨⟨u1, by rw [World.cell?_setCell_other (h := hne j)]; exact hu1⟩, by rw [World.frozen?_setCell]; exact hf1⟩) (fun y hy => h1 y (by simp [hy]))
    have hblk := World.block_lt_of_cell? w _ hu0
    rw [addr_block] at hblk
    have hset : Fr (Span x.block (x.off + i) 1) w (w.setCell (x.add i) u) := by
      refine ⟨rfl, rfl, rfl, by simp, fun b hb => ?_⟩
      by_cases hbx : b = x.block
      · subst hbx
        have hu0' := hu0
        unfold World.cell? at hu0'
        rw [addr_block] at hu0'
        split at hu0'
        · rename_i c t z hh
          left
          refine ⟨c, c.setIfInBounds (x.off + i) u, t, z, hh, ?_, by simp, ?_⟩
          · simp only [World.setCell, Array.getElem?_modify, addr_block, if_true, hh, Option.map_some]
            rw [hadd i]; simp
          · intro off ho
            have hneq : x.off + i ≠ off := fun e => ho ⟨rfl, by omega, by omega⟩
            simp [Array.getElem?_setIfInBounds_ne hneq]
        · cases hu0'
      · refine .inr (.inl ?_)
        simp only [World.setCell, Array.getElem?_modify, addr_block]
        rw [if_neg (fun e => hbx e.symm)]
    refine ⟨w', ?_, ?_, ?_, fun y => by rw [hfz, World.frozen?_setCell]⟩
    · simp only [storeCells, Sem.run_bind]
      simp only [hst, hu0, hf0, Bool.false_eq_true, if_false, Result.andThen_ok]
      exact hr
    · have h4 : (u :: vs).length = vs.length + 1 := rfl
      refine (hset.mono (M' := Span x.block (x.off + i) (u :: vs).length) ?_).trans (hfr.mono ?_)
      · rintro a b _ ⟨h1, h2, h3⟩
        exact ⟨h1, h2, by omega⟩
      · rintro a b _ ⟨h1, h2, h3⟩
        exact ⟨h1, by omega, by omega⟩
    · intro j y hj
      cases j with
      | zero =>
        simp only [List.getElem?_cons_zero, Option.some.injEq] at hj
        subst hj
        refine hfr.cell (World.cell?_setCell_same w (x.add i) u hu0) ?_
        rw [Nat.add_zero, addr_off, addr_block]
        rintro ⟨_, h2, _⟩
        omega
      | succ j =>
        simp only [List.getElem?_cons_succ] at hj
        rw [show i + (j + 1) = i + 1 + j from by omega]
        exact hcl j y hj
end
end Go.Ev
