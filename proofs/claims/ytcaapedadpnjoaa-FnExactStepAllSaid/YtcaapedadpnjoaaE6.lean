/- The evaluator: comparisons, parts of values, addresses, slices. The evaluator: parts of slices and strings; variables: made, read, stored. The evaluator: stores. -/
import Derived.Test.YtcaapedadpnjoaaE3
import Derived.Laws.StructEq
import Derived.Laws.Cover3
namespace Go.Ev
set_option linter.unusedSimpArgs false
set_option linter.unusedVariables false
open Go Go.RowKit
section
variable {cal : Nat → List D → Option (List D)} {l : List Ac} {v : AV} {w0 : World} {M : Nat → Nat → Prop} {ρ : Env} {g : Hp} {w w' : World} {P : Program}

theorem ret_ok {c : AV} (S : Sit cal (.ret c) l v w0 M ρ g w) {vv : Value} (h : RepV ρ c vv) : Fin w0 M l g ρ w (fun ρ' => RepV ρ' v vv) := by
  obtain ⟨rfl, rfl⟩ := S.ret
  exact Fin.here S.inv h

/-- a value out of its cells -/
def ofCells (agg : Bool) (us : List Value) : Value := if agg then .agg us.toArray else us.headD undef
theorem run_part {t : TypeId} (hk : known P t = true) (us : Array Value) (off : Nat) (hlen : isAggT P t = false → ((us.toList.drop off).take (P.cellsOf t)).length = 1) :
    (part t us off).run P w = .ok (ofCells (isAggT P t) ((us.toList.drop off).take (P.cellsOf t))) w := by
  obtain ⟨d, hd, hu⟩ := known_some hk
  unfold part
  have ha : isAggT P t = isAggD d := by rw [isAggT, hu]
  simp only [Sem.run_bind, run_isAgg hd, Result.andThen_ok]
  cases hagg : isAggD d with
  | true =>
    simp only [if_true, Sem.run_bind, run_sizeOf hd, Result.andThen_ok, Sem.run_pure, ofCells, ha, hagg]
    congr 2
    apply Array.ext'
    simp [Array.toList_extract, List.extract_eq_take_drop]
  | false =>
    have h1 := hlen (by rw [ha, hagg])
    simp only [Bool.false_eq_true, if_false, ofCells, ha, hagg]
    obtain ⟨u, hu1⟩ := List.length_eq_one_iff.1 h1
    have h0 : us[off]? = some u := by
      have : ((us.toList.drop off).take (P.cellsOf t))[0]? = some u := by rw [hu1]; rfl
      rw [List.getElem?_take] at this
      split at this
      · rw [List.getElem?_drop] at this; simpa using this
      · cases this
    rw [h0, hu1]
    simp

theorem eqD_ok : ∀ (n : Nat) (t : TypeId) (xs ys : List AV) (us vs : List Value) (b : Bool) (d : Nat), eqD P n t xs ys = some b → RepVs ρ xs us → RepVs ρ ys vs →
    (Op.equalIn (d + n) t (ofCells (isAggT P t) us) (ofCells (isAggT P t) vs)).run P w = .ok b w ∧ known P t = true ∧ (isAggT P t = false → us.length = 1 ∧ vs.length = 1)
  | 0, t, xs, ys, us, vs, b, d, h, _, _ => by simp [eqD] at h
  | n + 1, t, xs, ys, us, vs, b, d, h, hx, hy => by
    have e : d + (n + 1) = (d + n) + 1 := by omega
    rw [e]
    unfold eqD at h
    split at h
    · rename_i k0 hu
      have hun := under_some hu (by simp)
      split at h
      · rename_i k a k' a'
        split at h
        · rename_i hk; subst hk
          cases h
          simp only [RepVs, RepV] at hx hy
          obtain ⟨_, _, rfl, rfl, rfl⟩ := hx
          obtain ⟨_, _, rfl, rfl, rfl⟩ := hy
          have ha : isAggT P t = false := by simp [isAggT, hu, isAggD]
          simp only [ha, ofCells, Bool.false_eq_true, if_false, List.headD_cons]
          refine ⟨?_, by simp [known, hu], fun _ => by simp⟩
          rw [run_equalIn_int w (d + n) t k k0 a a' hun]; rfl
        · cases h
      · cases h
    · rename_i hu
      have hun := under_some hu (by simp)
      split at h
      · cases h
        simp only [RepVs, RepV] at hx hy
        obtain ⟨_, _, rfl, rfl, rfl⟩ := hx
        obtain ⟨_, _, rfl, rfl, rfl⟩ := hy
        have ha : isAggT P t = false := by simp [isAggT, hu, isAggD]
        simp only [ha, ofCells, Bool.false_eq_true, if_false, List.headD_cons]
        exact ⟨run_equalIn_bool w (d + n) t _ _ hun, by simp [known, hu], fun _ => by simp⟩
      · cases h
    · rename_i hu
      have hun := under_some hu (by simp)
      split at h
      · rename_i a a'
        cases h
        simp only [RepVs, RepV] at hx hy
        obtain ⟨_, _, rfl, rfl, rfl⟩ := hx
        obtain ⟨_, _, rfl, rfl, rfl⟩ := hy
        have ha : isAggT P t = false := by simp [isAggT, hu, isAggD]
        simp only [ha, ofCells, Bool.false_eq_true, if_false, List.headD_cons]
        refine ⟨?_, by simp [known, hu], fun _ => by simp⟩
        rw [run_equalIn_string w (d + n) t _ _ hun, ← beq_toListBytes]
        congr 1
        by_cases hh : a = a'
        · subst hh
          simp only [decide_true]
          rw [beq_toListBytes]; simp
        · rw [decide_eq_false hh, beq_toListBytes, ByteArray.toList_eq, ByteArray.toList_eq]
          rw [beq_eq_false_iff_ne]
          intro hl
          exact hh (ByteArray.ext (Array.toList_inj.mp hl))
      · cases h
    · rename_i fs hu
      have hun := under_some hu (by simp)
      have ha : isAggT P t = true := by simp [isAggT, hu, isAggD]
      split at h
      · cases h
      · rename_i hst
        have hst' : P.stoodInHeld t = false := by simpa using hst
        have hf : P.fieldsOf t = fs := by simp [Program.fieldsOf, hun]
        refine ⟨?_, by simp [known, hu], fun h0 => by rw [ha] at h0; cases h0⟩
        simp only [ha, ofCells, if_true]
        rw [run_equalIn_struct w (d + n) t us.toArray vs.toArray (by rw [hf]; exact hun) hst', hf]
        clear hf hun hu
        generalize fs.toList = l at h
        induction l generalizing b with
        | nil => simp only [List.foldr_nil, Option.some.injEq] at h; subst h; simp [Op.eqFields]
        | cons f l ih =>
          simp only [List.foldr_cons] at h
          by_cases hn : f.name = "_"
          · rw [if_pos hn] at h
            simp only [Op.eqFields, hn, ne_eq, not_true_eq_false, if_false]
            exact ih b h
          · rw [if_neg hn] at h
            split at h
            · rename_i b1 c1 e1 e2
              cases h
              obtain ⟨h1, h2, h3⟩ := eqD_ok n f.type _ _ _ _ b1 d e1 ((hx.drop f.offset).take (P.cellsOf f.type)) ((hy.drop f.offset).take (P.cellsOf f.type))
              simp only [Op.eqFields, ne_eq, hn, not_false_eq_true, if_true, Sem.run_bind]
              rw [run_part h2 us.toArray f.offset (fun h0 => by simpa using (h3 h0).1)]
              simp only [Result.andThen_ok]
              rw [run_part h2 vs.toArray f.offset (fun h0 => by simpa using (h3 h0).2)]
              simp only [Result.andThen_ok, h1]
              cases b1
              · simp
              · simp only [Bool.not_true, Bool.false_eq_true, if_false, Bool.true_and]
                exact ih c1 e2
            · cases h
    · cases h

theorem binP_ok {t : TypeId} {op : BinOp} {x y : AV} {xv yv : Value} {ox oy : Operand} (S : Sit cal (binP P t op x y) l v w0 M ρ g w) (hx : RepV ρ x xv) (hy : RepV ρ y yv) :
    SemOk P (do eqGuard op t ox oy xv yv; binOp op t xv yv) l v w0 M ρ g w := by
  unfold binP at S
  split at S
  · rename_i k a k' b
    simp only [RepV] at hx hy
    subst hx hy
    split at S
    · exact intOp_ok (.inl rfl) S
    · exact intOp_ok (.inr (.inl rfl)) S
    · split at S
      · rename_i hk; exact intOp_ok (.inr (.inr hk)) S
      · exact S.fail
  · rename_i a b
    simp only [RepV] at hx hy
    subst hx hy
    split at S
    · rename_i hu
      exact ⟨.bool (a == b), w, by simp [eqGuard, binOp, run_equal_bool w t a b (under_some hu (by simp))], ret_ok S (by simp [RepV])⟩
    · rename_i hu
      exact ⟨.bool (!(a == b)), w, by simp [eqGuard, binOp, run_equal_bool w t a b (under_some hu (by simp))], ret_ok S (by simp [RepV])⟩
    · exact S.fail
  · rename_i a b
    simp only [RepV] at hx hy
    subst hx hy
    have he : (a.toList == b.toList) = decide (a = b) := by
      rw [ByteArray.toList_eq, ByteArray.toList_eq]
      by_cases hh : a = b
      · subst hh; simp
      · rw [decide_eq_false hh, beq_eq_false_iff_ne]
        intro hl
        exact hh (ByteArray.ext (Array.toList_inj.mp hl))
    split at S
    · have S0 := S.chk; clear S; obtain ⟨hc, S⟩ := S0
      have hlt : ¬ ((a.size + b.size : Nat) : Int) > IntKind.i64.max := by
        have := of_decide_eq_true hc
        simp only [IntKind.max, IntKind.signed, IntKind.bits, if_true]
        omega
      refine ⟨.string (a ++ b), w, ?_, ret_ok S (by simp [RepV])⟩
      have hlt' : ¬ ((a.size : Int) + (b.size : Int)) > IntKind.i64.max := by simpa using hlt
      simp only [eqGuard, binOp, Op.stringOp]
      rw [if_neg hlt]
      simp
    · exact ⟨.bool (decide (a = b)), w, by simp [eqGuard, binOp, Op.stringOp, he], ret_ok S (by simp [RepV])⟩
    · exact ⟨.bool (!decide (a = b)), w, by simp [eqGuard, binOp, Op.stringOp, he], ret_ok S (by simp [RepV])⟩
    · exact S.fail
  · rename_i a b
    simp only [RepV] at hx hy
    obtain ⟨us, rfl, hx⟩ := hx
    obtain ⟨vs, rfl, hy⟩ := hy
    have S0 := S.chk; clear S; obtain ⟨hc, S⟩ := S0
    simp only [Bool.and_eq_true, Bool.not_eq_true'] at hc
    obtain ⟨ha, hg⟩ := hc
    split at S
    · rename_i c he
      have h1 := (eqD_ok (w := w) 8 t a b us.toList vs.toList _ 9992 he hx hy).1
      simp only [ofCells, ha, if_true, Array.toArray_toList] at h1
      refine ⟨.bool c, w, ?_, ret_ok S (by simp [RepV])⟩
      simp only [Sem.run_bind, run_eqGuard_agg w .eql t ox oy us vs hg, Result.andThen_ok, run_eql_struct, h1]
    · rename_i c he
      have h1 := (eqD_ok (w := w) 8 t a b us.toList vs.toList _ 9992 he hx hy).1
      simp only [ofCells, ha, if_true, Array.toArray_toList] at h1
      refine ⟨.bool (!c), w, ?_, ret_ok S (by simp [RepV])⟩
      simp only [Sem.run_bind, run_eqGuard_agg w .neq t ox oy us vs hg, Result.andThen_ok, run_neq_struct, h1]
    · exact S.fail
  · rename_i id
    simp only [RepV] at hx hy
    obtain ⟨p, hp, hx⟩ := hx
    subst hy
    simp only [RepSl] at hx
    subst hx
    have S0 := S.rd; clear S; obtain ⟨l', rfl, S⟩ := S0
    split at S
    · rename_i own nil a e hge hu
      obtain ⟨q, hq, hr⟩ := S.inv.ok.rep id (by rw [hge]; simp)
      rw [hp] at hq; cases hq
      rw [hge] at hr
      have hn := hr.2.2.1
      have hb : p.base.isNone = nil := by cases nil <;> cases hbb : p.base <;> simp_all
      refine ⟨.bool nil, w, ?_, (ret_ok S (by simp [RepV])).rd⟩
      simp [eqGuard, binOp, run_equal_slice_nil w t e p.base p.len p.cap (under_some hu (by simp)), hb]
    · rename_i own nil a e hge hu
      obtain ⟨q, hq, hr⟩ := S.inv.ok.rep id (by rw [hge]; simp)
      rw [hp] at hq; cases hq
      rw [hge] at hr
      have hn := hr.2.2.1
      have hb : p.base.isNone = nil := by cases nil <;> cases hbb : p.base <;> simp_all
      refine ⟨.bool (!nil), w, ?_, (ret_ok S (by simp [RepV])).rd⟩
      simp [eqGuard, binOp, run_equal_slice_nil w t e p.base p.len p.cap (under_some hu (by simp)), hb]
    · exact S.fail
  · exact S.fail

theorem unP_ok {op : UnOp} {x : AV} {xv : Value} (S : Sit cal (unP op x) l v w0 M ρ g w) (hx : RepV ρ x xv) : SemOk P (Op.unary op xv) l v w0 M ρ g w := by
  unfold unP at S
  split at S
  · simp only [RepV] at hx; subst hx
    exact ⟨_, w, by simp [Op.unary, Op.intArith]; rfl, ret_ok S (by simp [RepV])⟩
  · simp only [RepV] at hx; subst hx
    exact ⟨_, w, by simp [Op.unary]; rfl, ret_ok S (by simp [RepV])⟩
  · exact S.fail

theorem aggN_ok {agg : Bool} {cs : List AV} {us : List Value} (S : Sit cal (aggN agg cs) l v w0 M ρ g w) (h : RepVs ρ cs us) :
    Fin w0 M l g ρ w (fun ρ' => RepV ρ' v (ofCells agg us)) ∧ (agg = false → us.length = 1) := by
  unfold aggN at S
  split at S
  · rename_i ha
    refine ⟨ret_ok S ?_, fun h0 => by rw [ha] at h0; cases h0⟩
    simp only [RepV, ofCells, ha, if_true]
    exact ⟨us.toArray, rfl, by simpa using h⟩
  · rename_i ha
    split at S
    · simp only [RepVs] at h
      obtain ⟨u, us, rfl, h1, rfl⟩ := h
      refine ⟨ret_ok S ?_, fun _ => rfl⟩
      simpa [ofCells, ha] using h1
    · exact S.fail
theorem fieldP_ok {t : TypeId} {x : AV} {xv : Value} {f : Nat} (S : Sit cal (fieldP P t x f) l v w0 M ρ g w) (hx : RepV ρ x xv) : SemOk P (Instr.field t xv f) l v w0 M ρ g w := by
  unfold fieldP at S
  split at S
  · rename_i fd cs hf
    simp only [RepV] at hx
    obtain ⟨us, rfl, hx⟩ := hx
    have S0 := S.chk; clear S; obtain ⟨hk, S⟩ := S0
    unfold fieldOf at hf
    split at hf
    · rename_i fs hu
      have hun := under_some hu (by simp)
      obtain ⟨F, h1⟩ := aggN_ok S ((hx.drop fd.offset).take (P.cellsOf fd.type))
      refine ⟨_, w, ?_, F⟩
      simp only [Instr.field, Sem.run_bind, run_underlying hun, Result.andThen_ok, hf, asAgg, Sem.run_pure]
      exact run_part hk us fd.offset h1
    · cases hf
  · exact S.fail
theorem fieldAddr_ok {s : TypeId} {x : AV} {xv : Value} {f : Nat} (S : Sit cal (match x, fieldOf P s f with
    | .ptr id i o, some f => .chk (!(Nat.beq (P.cellsOf f.type) 0)) (.ret (.ptr id i (o + f.offset)))
    | _, _ => .fail) l v w0 M ρ g w) (hx : RepV ρ x xv) : SemOk P (Instr.fieldAt s xv f) l v w0 M ρ g w := by
  split at S
  · rename_i id i o fd hf
    have S0 := S.chk; clear S; obtain ⟨hk, S⟩ := S0
    simp only [RepV] at hx
    obtain ⟨p, a, hp, hb, hi, rfl⟩ := hx
    have hne : P.cellsOf fd.type ≠ 0 := by
      intro h0; rw [h0] at hk; simp at hk
    unfold fieldOf at hf
    split at hf
    · rename_i fs hu
      have hun := under_some hu (by simp)
      refine ⟨.pointer (some ((a.add (i * p.size + o)).add fd.offset)), w, ?_, ret_ok S ?_⟩
      · simp [Instr.fieldAt, run_underlying hun, hf, Instr.sureAddr, fieldPlace, run_sizeOf' hne, hne]
      · simp only [RepV]
        exact ⟨p, a, hp, hb, hi, by rw [addr_add_add]; congr 3; omega⟩
    · cases hf
  · exact S.fail

theorem lenW_ok {p : Plc} {wn : Option (Nat × Nat)} {a : Arr} {xv : Value} {own nil : Bool} (hr : RepE ρ w p (.arr own nil a)) (hx : RepSl p wn xv) :
    ∃ x c, xv = .slice x (lenW wn a) c ∧ lenW wn a ≤ c ∧ offW wn + lenW wn a ≤ p.len ∧ (lenW wn a ≠ 0 → ∃ b, p.base = some b ∧ x = some (b.add (offW wn * p.size))) := by
  obtain ⟨h1, h2, h3, h4, h5, h6⟩ := hr
  cases wn with
  | none =>
    simp only [RepSl] at hx
    refine ⟨p.base, p.cap, ?_, ?_, ?_, ?_⟩
    · rw [hx]; simp [lenW, h1]
    · simp only [lenW, h1]
      cases hb : p.base with
      | none => have := h4 hb; omega
      | some x => exact (h5 x hb).1
    · simp [lenW, offW, h1]
    · intro hne
      cases hb : p.base with
      | none => have := h4 hb; simp only [lenW, h1] at hne; omega
      | some x => exact ⟨x, rfl, by simp [offW, addr_add_zero]⟩
  | some on =>
    obtain ⟨o, n⟩ := on
    simp only [RepSl] at hx
    obtain ⟨ho, x, c, rfl, hc, hz, _⟩ := hx
    refine ⟨x, c, rfl, hc, ho, fun hne => ?_⟩
    rcases hz with h0 | ⟨b, hb, hx⟩
    · exact absurd h0 hne
    · exact ⟨b, hb, hx⟩

theorem nilW_ok {p : Plc} {wn : Option (Nat × Nat)} {a : Arr} {x : Option Addr} {n c : Nat} {own nil : Bool} (hr : RepE ρ w p (.arr own nil a)) (hx : RepSl p wn (.slice x n c)) :
    (x = none ↔ p.base = none) ∧ (p.base = none → c = 0) := by
  cases wn with
  | none =>
    simp only [RepSl, Value.slice.injEq] at hx
    obtain ⟨rfl, rfl, rfl⟩ := hx
    exact ⟨Iff.rfl, fun h => (hr.2.2.2.1 h).1⟩
  | some on =>
    obtain ⟨o, m⟩ := on
    simp only [RepSl, Value.slice.injEq] at hx
    obtain ⟨_, x, c, ⟨rfl, rfl, rfl⟩, _, _, h⟩ := hx
    exact h

theorem indexAddrP_ok {t : TypeId} {x ix : AV} {xv iv : Value} (S : Sit cal (indexAddrP P t x ix) l v w0 M ρ g w) (hx : RepV ρ x xv) (hi : RepV ρ ix iv) : SemOk P (Instr.indexAt t xv iv) l v w0 M ρ g w := by
  unfold indexAddrP at S
  simp only [idxW_eq] at S
  split at S
  · rename_i el id wn k n hu
    have hun := under_some hu (by simp)
    simp only [RepV] at hx hi
    obtain ⟨p, hp, hx⟩ := hx
    subst hi
    have S0 := S.rd; clear S; obtain ⟨l', rfl, S⟩ := S0
    split at S
    · rename_i own nil a hg
      have S0 := S.chk; clear S; obtain ⟨hs, S⟩ := S0
      have S0 := S.chk; clear S; obtain ⟨hc, S⟩ := S0
      obtain ⟨q, hq, hr⟩ := S.inv.ok.rep id (by rw [hg]; simp)
      rw [hp] at hq; cases hq
      rw [hg] at hr
      simp only [Bool.and_eq_true, decide_eq_true_eq] at hc
      obtain ⟨y, c, rfl, hlc, hoff, hb⟩ := lenW_ok hr hx
      obtain ⟨b, hbb, rfl⟩ := hb (by omega)
      have hsz : a.size = P.cellsOf el := Nat.eq_of_beq_eq_true hs
      have hne : P.cellsOf el ≠ 0 := by have := a.size_pos; omega
      refine ⟨.pointer (some ((b.add (offW wn * p.size)).add (n.toNat * P.cellsOf el))), w, ?_, (ret_ok S ?_).rd⟩
      · simp [Instr.indexAt, asIntOf, run_underlying hun, hc.1, hc.2, run_sizeOf' hne]
      · simp only [RepV]
        refine ⟨p, b, hp, hbb, by omega, ?_⟩
        rw [addr_add_add, ← hsz, hr.2.1, Nat.add_mul, Nat.add_zero]
    · rename_i own nil z l0 hg
      cases wn with
      | some _ => exact S.fail
      | none =>
        simp only at S
        have S0 := S.chk; clear S; obtain ⟨hs, S⟩ := S0
        have S0 := S.chk; clear S; obtain ⟨hc, S⟩ := S0
        obtain ⟨q, hq, hr⟩ := S.inv.ok.rep id (by rw [hg]; simp)
        rw [hp] at hq; cases hq
        rw [hg] at hr
        obtain ⟨h1, h2, h3, h4, h5, h6, h7⟩ := hr
        simp only [Bool.and_eq_true, decide_eq_true_eq] at hc hs
        simp only [RepSl] at hx
        subst hx
        obtain ⟨b, hbb⟩ : ∃ b, p.base = some b := by
          cases hb : p.base with
          | none => have := (h4 hb).2; omega
          | some b => exact ⟨b, rfl⟩
        have hsz : z.length = P.cellsOf el := Nat.eq_of_beq_eq_true hs.1
        have hz1 := Nat.le_of_ble_eq_true hs.2
        have hne : P.cellsOf el ≠ 0 := by omega
        have hc2 : n < (p.len : Int) := by rw [← h1]; exact hc.2
        refine ⟨.pointer (some (b.add (n.toNat * P.cellsOf el))), w, ?_, (ret_ok S ?_).rd⟩
        · simp [Instr.indexAt, asIntOf, run_underlying hun, hc.1, hc2, run_sizeOf' hne, hbb]
        · simp only [RepV]
          refine ⟨p, b, hp, hbb, by omega, ?_⟩
          rw [← hsz, h2, Nat.add_zero]
    · exact S.fail
  · exact S.fail
theorem indexP_ok {t : TypeId} {x ix : AV} {xv iv : Value} (S : Sit cal (indexP P t x ix) l v w0 M ρ g w) (hx : RepV ρ x xv) (hi : RepV ρ ix iv) : SemOk P (Instr.index t xv iv) l v w0 M ρ g w := by
  unfold indexP at S
  split at S
  · rename_i s k n hu
    have hun := under_some hu (by simp)
    simp only [RepV] at hx hi
    subst hx hi
    have S0 := S.chk; clear S; obtain ⟨hc, S⟩ := S0
    simp only [Bool.and_eq_true, decide_eq_true_eq] at hc
    have hlt : n.toNat < s.size := by omega
    have hlt' : n.toNat < s.data.toList.length := by simpa using hlt
    refine ⟨.int .u8 (strAt s n.toNat), w, ?_, ret_ok S (by simp [RepV])⟩
    have h0 : s[n.toNat]? = some s[n.toNat] := by simp [hlt]
    have he : ((s[n.toNat]).toNat : Int) = strAt s n.toNat := by
      unfold strAt
      rw [getD_of_lt hlt']
      rfl
    simp [Instr.index, asIntOf, run_underlying hun, hc.1, h0, he]
  · exact S.fail
theorem lenP_ok {t : TypeId} {x : AV} {xv : Value} {ts : Array TypeId} {ty : TypeId} {vs : Array Value} (ht : ts[0]? = some t) (hv : vs[0]? = some xv) (S : Sit cal (lenP P t x) l v w0 M ρ g w) (hx : RepV ρ x xv) :
    SemOk P (Builtin.len_ ts ty vs) l v w0 M ρ g w := by
  unfold lenP at S
  split at S
  · rename_i s hu
    simp only [RepV] at hx; subst hx
    exact ⟨_, w, by simp [Builtin.len_, ht, hv, run_underlying (under_some hu (by simp))]; rfl, ret_ok S (by simp [RepV, goInt])⟩
  · rename_i el id wn hu
    simp only [RepV] at hx
    obtain ⟨p, hp, hx⟩ := hx
    have S0 := S.rd; clear S; obtain ⟨l', rfl, S⟩ := S0
    split at S
    · rename_i own nil a hg
      obtain ⟨q, hq, hr⟩ := S.inv.ok.rep id (by rw [hg]; simp)
      rw [hp] at hq; cases hq
      rw [hg] at hr
      obtain ⟨y, c, rfl, hlc, hoff, hb⟩ := lenW_ok hr hx
      exact ⟨_, w, by simp [Builtin.len_, ht, hv, run_underlying (under_some hu (by simp))]; rfl, (ret_ok S (by simp [RepV, goInt])).rd⟩
    · rename_i own nil z l0 hg
      cases wn with
      | some _ => exact S.fail
      | none =>
        simp only at S
        obtain ⟨q, hq, hr⟩ := S.inv.ok.rep id (by rw [hg]; simp)
        rw [hp] at hq; cases hq
        rw [hg] at hr
        have h1 := hr.1
        simp only [RepSl] at hx
        subst hx
        exact ⟨_, w, by simp [Builtin.len_, ht, hv, run_underlying (under_some hu (by simp))]; rfl, (ret_ok S (by simp [RepV, goInt, h1])).rd⟩
    · exact S.fail
  · rename_i el hu
    simp only [RepV] at hx; subst hx
    exact ⟨_, w, by simp [Builtin.len_, ht, hv, run_underlying (under_some hu (by simp))]; rfl, ret_ok S (by simp [RepV, goInt])⟩
  · exact S.fail
theorem maxP_ok {xs : List AV} {vs : Array Value} {ts : Array TypeId} {ty : TypeId} (S : Sit cal (maxP xs) l v w0 M ρ g w) (hx : RepVs ρ xs vs.toList) : SemOk P (Builtin.max_ ts ty vs) l v w0 M ρ g w := by
  unfold maxP at S
  split at S
  · simp only [RepVs, RepV] at hx
    obtain ⟨_, _, he, rfl, _, _, rfl, rfl, rfl⟩ := hx
    exact ⟨_, w, by simp [Builtin.max_, he, Builtin.max2]; rfl, ret_ok S (by simp [RepV])⟩
  · exact S.fail
theorem minP_ok {xs : List AV} {vs : Array Value} {ts : Array TypeId} {ty : TypeId} (S : Sit cal (minP xs) l v w0 M ρ g w) (hx : RepVs ρ xs vs.toList) : SemOk P (Builtin.min_ ts ty vs) l v w0 M ρ g w := by
  unfold minP at S
  split at S
  · simp only [RepVs, RepV] at hx
    obtain ⟨_, _, he, rfl, _, _, rfl, rfl, rfl⟩ := hx
    exact ⟨_, w, by simp [Builtin.min_, he, Builtin.min2]; rfl, ret_ok S (by simp [RepV])⟩
  · exact S.fail
end
end Go.Ev
namespace Go.Ev
set_option linter.unusedSimpArgs false
set_option linter.unusedVariables false
open Go Go.RowKit
section
variable {cal : Nat → List D → Option (List D)} {l : List Ac} {v : AV} {w0 : World} {M : Nat → Nat → Prop} {ρ : Env} {g : Hp} {w w' : World} {P : Program}

def RepO (ρ : Env) : Option AV → Option Value → Prop
  | none, none => True
  | some c, some u => RepV ρ c u
  | _, _ => False
theorem bound_ok {k : IntKind} {n : Int} {y : Nat} {c : BoundsCode} (h0 : 0 ≤ n) (h1 : n ≤ y) : (Instr.sliceBound (.int k n) y c).run P w = .ok n.toNat w := by
  simp [Instr.sliceBound, asIntOf, h0, h1]
theorem sliceBounds_ok {isSlice : Bool} {len cap : Nat} {lo hi : Option AV} {low high : Option Value} {a b : Int} (hl : RepO ρ lo low) (hh : RepO ρ hi high)
    (e1 : optI lo 0 = some a) (e2 : optI hi len = some b) (h0 : 0 ≤ a) (h1 : a ≤ b) (h2 : b ≤ len) (h3 : len ≤ cap) :
    (Instr.sliceBounds isSlice len cap low high none).run P w = .ok (a.toNat, b.toNat, cap) w := by
  have hb : ∃ m : Nat, b.toNat = m ∧ (match high with | some v => Instr.sliceBound v cap (if isSlice then .sliceAcap else .sliceAlen) | none => pure len : Sem Nat).run P w = .ok m w := by
    refine ⟨b.toNat, rfl, ?_⟩
    cases hi with
    | none =>
      cases high with
      | none => simp only [optI, Option.some.injEq] at e2; subst e2; simp
      | some u => exact hh.elim
    | some c =>
      cases high with
      | none => exact hh.elim
      | some u =>
        cases c <;> simp only [optI, Option.some.injEq, reduceCtorEq] at e2
        subst e2
        simp only [RepO, RepV] at hh
        subst hh
        exact bound_ok (by omega) (by omega)
  have ha : (match low with | some v => Instr.sliceBound v b.toNat .sliceB | none => pure 0 : Sem Nat).run P w = .ok a.toNat w := by
    cases lo with
    | none =>
      cases low with
      | none => simp only [optI, Option.some.injEq] at e1; subst e1; simp
      | some u => exact hl.elim
    | some c =>
      cases low with
      | none => exact hl.elim
      | some u =>
        cases c <;> simp only [optI, Option.some.injEq, reduceCtorEq] at e1
        subst e1
        simp only [RepO, RepV] at hl
        subst hl
        exact bound_ok (by omega) (by omega)
  obtain ⟨m, hm, hb⟩ := hb
  rw [hm] at ha ⊢
  unfold Instr.sliceBounds
  cases high <;> cases low <;> simp_all
theorem sliceP_ok {t : TypeId} {x : AV} {xv : Value} {lo hi mx : Option AV} {low high max : Option Value} (S : Sit cal (sliceP P t x lo hi mx) l v w0 M ρ g w)
    (hx : RepV ρ x xv) (hl : RepO ρ lo low) (hh : RepO ρ hi high) (hm : RepO ρ mx max) : SemOk P (Instr.sliceAt t xv low high max) l v w0 M ρ g w := by
  unfold sliceP at S
  split at S
  · exact S.fail
  · cases max with
    | some u => exact hm.elim
    | none =>
    split at S
    · rename_i s hu
      have hun := under_some hu (by simp)
      simp only [RepV] at hx; subst hx
      split at S
      · rename_i a b e1 e2
        have S0 := S.chk; clear S; obtain ⟨hc, S⟩ := S0
        simp only [Bool.and_eq_true, decide_eq_true_eq] at hc
        have hb := sliceBounds_ok (P := P) (w := w) (isSlice := false) (len := s.size) (cap := s.size) hl hh e1 e2 hc.1.1 hc.1.2 hc.2 (Nat.le_refl _)
        refine ⟨.string (s.extract a.toNat b.toNat), w, ?_, ret_ok S (by simp [RepV])⟩
        simp [Instr.sliceAt, Instr.slice, run_underlying hun, hb]
      · exact S.fail
    · rename_i el id wn hu
      have hun := under_some hu (by simp)
      simp only [RepV] at hx
      obtain ⟨p, hp, hx⟩ := hx
      have S0 := S.rd; clear S; obtain ⟨l', rfl, S⟩ := S0
      split at S
      · rename_i own nil a hg
        have S0 := S.chk; clear S; obtain ⟨hs, S⟩ := S0
        split at S
        · rename_i i j e1 e2
          have S0 := S.chk; clear S; obtain ⟨hc, S⟩ := S0
          simp only [Bool.and_eq_true, decide_eq_true_eq] at hc
          obtain ⟨q, hq, hr⟩ := S.inv.ok.rep id (by rw [hg]; simp)
          rw [hp] at hq; cases hq
          rw [hg] at hr
          obtain ⟨y, c, rfl, hlc, hoff, hb⟩ := lenW_ok hr hx
          obtain ⟨hn1, hn2⟩ := nilW_ok hr hx
          have hsz : a.size = P.cellsOf el := Nat.eq_of_beq_eq_true hs
          have hne : P.cellsOf el ≠ 0 := by have := a.size_pos; omega
          have hbd := sliceBounds_ok (P := P) (w := w) (isSlice := true) hl hh e1 e2 hc.1.1 hc.1.2 hc.2 hlc
          refine ⟨.slice (if c = i.toNat then y else y.map (·.add (i.toNat * P.cellsOf el))) (j.toNat - i.toNat) (c - i.toNat), w, ?_, (ret_ok S ?_).rd⟩
          · simp [Instr.sliceAt, Instr.slice, run_underlying hun, hbd, run_sizeOf' hne]
          · simp only [RepV]
            refine ⟨p, hp, ?_⟩
            simp only [RepSl]
            refine ⟨by omega, _, _, rfl, by omega, ?_, by split <;> simp [hn1], fun h => by have := hn2 h; omega⟩
            by_cases h0 : j.toNat - i.toNat = 0
            · exact .inl h0
            · right
              obtain ⟨b, hbb, rfl⟩ := hb (by omega)
              refine ⟨b, hbb, ?_⟩
              rw [if_neg (by omega), ← hsz, hr.2.1]
              simp only [Option.map_some, addr_add_add, Nat.add_mul]
        · exact S.fail
      · exact S.fail
    · exact S.fail

/-! variables -/
theorem fr_alloc (w : World) (o : Obj) : Fr (fun _ _ => False) w (w.alloc o) :=
  ⟨rfl, rfl, rfl, by simp, fun b hb => .inr (.inl (Below.heap_alloc w o b hb))⟩
theorem cells_alloc (w : World) (vs : List Value) (t : TypeId) : CellsL (w.alloc (.cells vs.toArray t)) ⟨w.heap.size, 0, none⟩ vs := by
  intro j u hj
  have : (⟨w.heap.size, 0, none⟩ : Addr).add j = ⟨w.heap.size, j, none⟩ := by unfold Addr.add; split <;> simp_all
  rw [this]
  simp only [World.cell?_alloc_new]
  simpa using hj
theorem thawed_alloc (w : World) (c : Array Value) (t : TypeId) (n : Nat) : Thawed (w.alloc (.cells c t)) ⟨w.heap.size, 0, none⟩ n := by
  intro j hj
  have : (⟨w.heap.size, 0, none⟩ : Addr).add j = ⟨w.heap.size, j, none⟩ := by unfold Addr.add; split <;> simp_all
  rw [this, World.frozen?_alloc_new]
/-- a variable made -/
theorem newBox_ok {cs : List AV} {us : List Value} {t : TypeId} (S : Sit cal (.new (.box true cs) fun id => .ret (.ptr id 0 0)) l v w0 M ρ g w) (h : RepVs ρ cs us) :
    Fin w0 M l g ρ (w.alloc (.cells us.toArray t)) (fun ρ' => RepV ρ' v (.pointer (some ⟨w.heap.size, 0, none⟩))) := by
  obtain ⟨id, l', rfl, hn, hd, hS⟩ := S.new
  have I := S.inv.new (id := id) (p := ⟨some ⟨w.heap.size, 0, none⟩, 1, 1, 0, []⟩) (e := .box true cs) hn (fr_alloc w (.cells us.toArray t))
    ⟨rfl, _, us, rfl, rfl, h.mono (sub_updρ hn) _ _, cells_alloc w us t, fun _ => thawed_alloc w _ t _⟩
    (.inl ⟨rfl, fun b off hf => by obtain ⟨x, hx, rfl, _⟩ := hf; cases hx; exact Nat.le_refl _⟩)
  obtain ⟨rfl, rfl⟩ := (hS _ _ I).ret
  refine Fin.new hn (Fin.here I ?_)
  simp only [RepV]
  exact ⟨_, _, updρ_same _ _ _, rfl, by simp, by simp [addr_add_zero]⟩
theorem zeroCells_ok {t : TypeId} {z : List AV} (h : zeroCells P t = some z) : ∃ i zv, P.info? t = some i ∧ i.zero = some zv ∧ RepVs ρ z zv.cells.toList := by
  unfold zeroCells at h
  cases hi : P.info? t with
  | none => rw [hi] at h; simp at h
  | some i =>
    rw [hi] at h
    simp only [Option.bind_some, Option.map_eq_some_iff] at h
    obtain ⟨zv, hz, rfl⟩ := h
    refine ⟨i, zv, rfl, hz, ?_⟩
    generalize zv.cells.toList = us
    induction us with
    | nil => simp [RepVs]
    | cons u us ih => simpa using RepVs.cons (constAV_rep ρ u) ih
theorem alloc_ok {t : TypeId} (S : Sit cal (match zeroCells P t with
    | some z => fixs (cty P t) z fun cs => .new (.box true cs) fun id => .ret (.ptr id 0 0)
    | none => .fail) l v w0 M ρ g w) : SemOk P (Instr.alloc t true (.tuple #[])) l v w0 M ρ g w := by
  split at S
  · rename_i z hz
    obtain ⟨i, zv, hi, hzv, hr⟩ := zeroCells_ok (ρ := ρ) hz
    obtain ⟨cs, l1, g1, ρ1, S1, ⟨hcs, _⟩, hs, hF⟩ := fixs_ok _ _ S hr
    refine ⟨.pointer (some ⟨w.heap.size, 0, none⟩), w.alloc (.cells zv.cells t), ?_, hF _ _ ?_⟩
    · simp [Instr.alloc, zeroValue, typeInfo, hi, hzv, newVar, newRow]
    · have := newBox_ok (t := t) S1 hcs
      simpa using this
  · exact S.fail
theorem cells_rep {c : AV} {u : Value} (h : RepV ρ c u) (hc : c.cells.all AV.one = true) : RepVs ρ c.cells u.cells.toList ∧ ∀ x ∈ u.cells.toList, x.oneCell' = true := by
  have one : ∀ {c : AV} {u : Value}, RepV ρ c u → c.one = true → u.oneCell' = true := by
    intro c u h ho
    cases c <;> simp only [AV.one, Bool.false_eq_true] at ho <;> simp only [RepV] at h
    · subst h; rfl
    · subst h; rfl
    · subst h; rfl
    · subst h; rfl
    · rename_i wn
      obtain ⟨p, _, hs⟩ := h
      cases wn with
      | none => simp only [RepSl] at hs; subst hs; rfl
      | some on => simp only [RepSl] at hs; obtain ⟨_, _, _, rfl, _⟩ := hs; rfl
    · obtain ⟨p, a, _, _, _, rfl⟩ := h; rfl
    · obtain ⟨vs, rfl, _⟩ := h; rfl
  have ones : ∀ {cs : List AV} {us : List Value}, RepVs ρ cs us → cs.all AV.one = true → ∀ x ∈ us, x.oneCell' = true := by
    intro cs
    induction cs with
    | nil => intro us h _ x hx; simp only [RepVs] at h; subst h; cases hx
    | cons c cs ih =>
      intro us h ha x hx
      simp only [RepVs] at h
      obtain ⟨u, us, rfl, h1, h2⟩ := h
      simp only [List.all_cons, Bool.and_eq_true] at ha
      rcases List.mem_cons.1 hx with rfl | hx
      · exact one h1 ha.1
      · exact ih h2 ha.2 x hx
  have key : RepVs ρ c.cells u.cells.toList := by
    cases c with
    | agg cs =>
      simp only [RepV] at h
      obtain ⟨vs, rfl, h⟩ := h
      exact h
    | un => simp [AV.cells, AV.one] at hc
    | tup cs => simp [AV.cells, AV.one] at hc
    | mp id => simp [AV.cells, AV.one] at hc
    | nils => simp only [RepV] at h; subst h; simp [AV.cells, Value.cells, RepVs, RepV]
    | int k n => simp only [RepV] at h; subst h; simp [AV.cells, Value.cells, RepVs, RepV]
    | bool b => simp only [RepV] at h; subst h; simp [AV.cells, Value.cells, RepVs, RepV]
    | str s => simp only [RepV] at h; subst h; simp [AV.cells, Value.cells, RepVs, RepV]
    | sl id wn =>
      have h' := h
      simp only [RepV] at h
      obtain ⟨p, _, hs⟩ := h
      have : u.cells = #[u] := by
        cases wn with
        | none => simp only [RepSl] at hs; subst hs; rfl
        | some on => simp only [RepSl] at hs; obtain ⟨_, _, _, rfl, _⟩ := hs; rfl
      rw [this]
      exact RepVs.cons h' (RepVs.nil ρ)
    | ptr id i o =>
      have h' := h
      simp only [RepV] at h
      obtain ⟨p, a, _, _, _, rfl⟩ := h
      exact RepVs.cons h' (RepVs.nil ρ)
    | fn f cs =>
      have h' := h
      simp only [RepV] at h
      obtain ⟨vs, rfl, _⟩ := h
      exact RepVs.cons h' (RepVs.nil ρ)
  exact ⟨key, ones key hc⟩
theorem box_ok {t : TypeId} {x : AV} {xv : Value} (S : Sit cal (fixT P t x fun v => .chk (v.cells.all AV.one) (.new (.box true v.cells) fun id => .ret (.ptr id 0 0))) l v w0 M ρ g w) (hx : RepV ρ x xv) :
    SemOk P (Instr.box t xv) l v w0 M ρ g w := by
  obtain ⟨c, l1, g1, ρ1, S1, hc, hs, hF⟩ := fixT_ok S hx
  obtain ⟨ho, S1⟩ := S1.chk
  refine ⟨.pointer (some ⟨w.heap.size, 0, none⟩), w.alloc (.cells xv.cells t), ?_, hF _ _ ?_⟩
  · simp [Instr.box, newVar, newRow]
  · have := newBox_ok (t := t) S1 (cells_rep hc ho).1
    simpa using this

theorem loadVar_ok {t : TypeId} (hk : known P t = true) {y : Addr} {us : List Value} (h : CellsL w y us) (hl : us.length = P.cellsOf t) (h1 : isAggT P t = false → us.length = 1) :
    (loadVar t y).run P w = .ok (ofCells (isAggT P t) us) w := by
  obtain ⟨d, hd, hu⟩ := known_some hk
  unfold loadVar
  have ha : isAggT P t = isAggD d := by rw [isAggT, hu]
  simp only [Sem.run_bind, run_isAgg hd, Result.andThen_ok]
  cases hagg : isAggD d with
  | true =>
    have hc := run_loadCells_list (P := P) (w := w) y us (fun j v hj => h j v hj)
    rw [hl] at hc
    simp [ofCells, ha, hagg, run_sizeOf hd, hc]
  | false =>
    obtain ⟨u, rfl⟩ := List.length_eq_one_iff.1 (h1 (by rw [ha, hagg]))
    have := h 0 u rfl
    rw [addr_add_zero] at this
    simp [ofCells, ha, hagg, this]
theorem findPart_spec {o n i1 i2 i3 o1 n1 o' j : Nat} (h : findPart o n i1 i2 i3 o1 n1 = some (o', j)) : o' ≤ o1 ∧ ((o' = 0 ∧ j = i1) ∨ (o' = o ∧ j = i2) ∨ (o' = o + n ∧ j = i3)) := by
  unfold findPart at h
  cases h1 : Nat.ble (o1 + n1) o with
  | true => rw [h1] at h; simp only [cond_true, Option.some.injEq, Prod.mk.injEq] at h; exact ⟨by omega, .inl ⟨h.1.symm, h.2.symm⟩⟩
  | false =>
    rw [h1] at h; simp only [cond_false] at h
    cases h2 : (Nat.ble o o1 && Nat.ble (o1 + n1) (o + n)) with
    | true =>
      rw [h2] at h; simp only [cond_true, Option.some.injEq, Prod.mk.injEq] at h
      rw [Bool.and_eq_true] at h2
      have := Nat.le_of_ble_eq_true h2.1
      exact ⟨by omega, .inr (.inl ⟨h.1.symm, h.2.symm⟩)⟩
    | false =>
      rw [h2] at h; simp only [cond_false] at h
      cases h3 : Nat.ble (o + n) o1 with
      | true =>
        rw [h3] at h; simp only [cond_true, Option.some.injEq, Prod.mk.injEq] at h
        have := Nat.le_of_ble_eq_true h3
        exact ⟨by omega, .inr (.inr ⟨h.1.symm, h.2.symm⟩)⟩
      | false => rw [h3] at h; cases h
theorem parts_at {p : Plc} {o n i1 i2 i3 o1 n1 o' j : Nat} {a : Addr} (r : RepE ρ w p (.parts o n i1 i2 i3)) (h : findPart o n i1 i2 i3 o1 n1 = some (o', j)) (hb : p.base = some a) : o' ≤ o1 ∧ ∃ q, ρ j = some q ∧ q.base = some (a.add o') ∧ q.len = 1 := by
  obtain ⟨h1, x, q1, q2, q3, h2, a1, b1, c1, a2, b2, c2, a3, b3, c3⟩ := r
  rw [hb] at h2; cases h2
  obtain ⟨ho, ⟨rfl, rfl⟩ | ⟨rfl, rfl⟩ | ⟨rfl, rfl⟩⟩ := findPart_spec h
  · exact ⟨ho, q1, a1, by rw [b1, addr_add_zero], c1⟩
  · exact ⟨ho, q2, a2, b2, c2⟩
  · exact ⟨ho, q3, a3, b3, c3⟩
theorem fP1 {α : Type} (n m : Nat) (a : Prog α) (K : Nat → Prog α) (h : a = K n) : cond (Nat.beq n m) (K m) a = K n := by
  cases e : Nat.beq n m
  · exact h
  · rw [Nat.eq_of_beq_eq_true e]; rfl
theorem forceP_eq {α : Type} (n : Nat) (K : Nat → Prog α) : forceP n K = K n := by
  unfold forceP
  iterate 12 refine fP1 _ _ _ _ ?_
  rfl
theorem rowGo_ok (rr : List RC) : ∀ (z : List RK) (c : Nat) {us : List Value} {r' : List RC} {K : List AV → Prog AV} {l : List Ac} {ρ : Env} {g : Hp}, Sit cal (rowGo rr z c K) l v w0 M ρ g w → RowL w z us r' → r' = (rr.drop c).take z.length →
    (∀ j q, ρ j = some q → (g j).own = true → ∀ b off, foot q (g j) b off → ¬ innR z us b off) → Ahead cal K (fun ρ' vs => RepVs ρ' vs us) l v w0 M ρ g w
  | [], c, us, r', K, l, ρ, g, S, h, hr, hd => by
    obtain ⟨rfl, rfl⟩ := h
    exact Ahead.here (by simpa only [rowGo] using S) (RepVs.nil ρ)
  | k :: z, c, us, r', K, l, ρ, g, S, h, hr, hd => by
    obtain ⟨u, us', c0, r1, rfl, rfl, hc, h⟩ := h
    have e0 : rcAt rr c = c0 := by
      have := congrArg (fun l => l.getD 0 (.n 0)) hr
      simp only [List.getD_cons_zero, List.length_cons] at this
      rw [this, rcAt]
      simp [List.getD_eq_getElem?_getD, List.getElem?_take, List.getElem?_drop]
    have e1 : r1 = (rr.drop (c + 1)).take z.length := by
      have := congrArg List.tail hr
      simp only [List.tail_cons, List.length_cons] at this
      rw [this]
      cases hdr : rr.drop c with
      | nil => rw [List.drop_eq_nil_iff] at hdr; rw [List.drop_of_length_le (by omega)]; simp
      | cons x xs =>
        have : rr.drop (c + 1) = xs := by
          rw [← List.drop_drop (i := 1) (j := c), hdr]; rfl
        rw [this]; rfl
    cases k with
    | n =>
      cases c0 with
      | n x =>
        have hu : u = .int .i64 x := hc
        subst hu
        simp only [rowGo, e0, RC.num] at S
        obtain ⟨b, l', g', ρ', S1, y, s, F⟩ := rowGo_ok rr z (c + 1) S h e1 (fun j q hq ho b off hf hi => hd j q hq ho b off hf (.inr hi))
        exact ⟨_, l', g', ρ', S1, RepVs.cons (by simp [RepV]) y, s, F⟩
      | _ => exact hc.elim
    | is =>
      cases c0 with
      | is nl ll =>
        obtain ⟨bb, n, cp, rfl, h1, h2, h3, h4⟩ := hc
        simp only [rowGo, e0, RC.nil, RC.ints] at S
        obtain ⟨id, l', rfl, hn, hdd, hS⟩ := S.new
        have I := S.inv.new (id := id) (p := ⟨bb, n, cp, 1, []⟩) (e := .arr false nl (.ints .i64 ll)) hn (Fr.refl _ w) ⟨h1, rfl, h2, h3, h4, fun h => by cases h⟩
          (.inr ⟨rfl, fun j q hq ho b off hf hf' => by
            obtain ⟨x, hx, e2, e3⟩ := hf'
            rcases e3 with e3 | ⟨e3, e4⟩
            · cases e3
            · rw [h1] at e4
              exact hd j q hq ho b off hf (.inl ⟨x, n, cp, by simp only at hx; rw [hx], e2, e3, by simpa [Arr.size] using e4⟩)⟩)
        obtain ⟨b, l2, g', ρ', S1, y, s, F⟩ := rowGo_ok rr z (c + 1) (hS _ w I) h e1 (fun j q hq ho b off hf hi => by
          by_cases hj : j = id
          · subst hj; rw [upd_same] at ho; cases ho
          · rw [updρ_other _ _ hj] at hq; rw [upd_other _ _ hj] at ho hf
            exact hd j q hq ho b off hf (.inr hi))
        refine ⟨_, l2, g', ρ', S1, RepVs.cons ?_ y, (sub_updρ hn).trans s, fun X w' h => (F X w' h).new hn⟩
        simp only [RepV, RepSl]
        exact ⟨_, s _ _ (updρ_same _ _ _), rfl⟩
      | _ => exact hc.elim
    | r3 =>
      cases c0 with
      | r3 nl ll =>
        obtain ⟨bb, n, cp, rfl, h1, h2, h3, h4⟩ := hc
        simp only [rowGo, e0, RC.nil, RC.r3s] at S
        obtain ⟨id, l', rfl, hn, hdd, hS⟩ := S.new
        have I := S.inv.new (id := id) (p := ⟨bb, n, cp, 3, []⟩) (e := .arr false nl (.r3 ll)) hn (Fr.refl _ w) ⟨h1, rfl, h2, h3, h4, fun h => by cases h⟩
          (.inr ⟨rfl, fun j q hq ho b off hf hf' => by
            obtain ⟨x, hx, e2, e3⟩ := hf'
            rcases e3 with e3 | ⟨e3, e4⟩
            · cases e3
            · rw [h1] at e4
              exact hd j q hq ho b off hf (.inl ⟨x, n, cp, by simp only at hx; rw [hx], e2, e3, by simpa [Arr.size] using e4⟩)⟩)
        obtain ⟨b, l2, g', ρ', S1, y, s, F⟩ := rowGo_ok rr z (c + 1) (hS _ w I) h e1 (fun j q hq ho b off hf hi => by
          by_cases hj : j = id
          · subst hj; rw [upd_same] at ho; cases ho
          · rw [updρ_other _ _ hj] at hq; rw [upd_other _ _ hj] at ho hf
            exact hd j q hq ho b off hf (.inr hi))
        refine ⟨_, l2, g', ρ', S1, RepVs.cons ?_ y, (sub_updρ hn).trans s, fun X w' h => (F X w' h).new hn⟩
        simp only [RepV, RepSl]
        exact ⟨_, s _ _ (updρ_same _ _ _), rfl⟩
      | _ => exact hc.elim
theorem loadP_ok {t : TypeId} {x : AV} {xv : Value} (S : Sit cal (loadP P t x) l v w0 M ρ g w) (hx : RepV ρ x xv) : SemOk P (Instr.loadAt t xv) l v w0 M ρ g w := by
  unfold loadP at S
  split at S
  · rename_i id i o
    have S0 := S.chk; clear S; obtain ⟨hk, S⟩ := S0
    simp only [RepV] at hx
    obtain ⟨p, a, hp, hb, hi, rfl⟩ := hx
    have S0 := S.rd; clear S; obtain ⟨l', rfl, S⟩ := S0
    split at S
    · rename_i own cs hg
      split at S
      · have S0 := S.chk; clear S; obtain ⟨hl, S⟩ := S0
        obtain ⟨q, hq, hr⟩ := S.inv.ok.rep id (by rw [hg]; simp)
        rw [hp] at hq; cases hq
        rw [hg] at hr
        obtain ⟨h1, y, us, hy, hs, hus, hcl, _⟩ := hr
        rw [hb] at hy; cases hy
        have hrep := (hus.drop o).take (P.cellsOf t)
        obtain ⟨F, h1'⟩ := aggN_ok S hrep
        refine ⟨_, w, ?_, F.rd⟩
        have hcells : CellsL w (a.add (0 * p.size + o)) ((us.drop o).take (P.cellsOf t)) := by
          intro j u hj
          rw [addr_add_add]
          rw [List.getElem?_take] at hj
          split at hj
          · rw [List.getElem?_drop] at hj
            rw [show 0 * p.size + o + j = o + j from by omega]
            exact hcl _ u hj
          · cases hj
        simp only [Instr.loadAt, Instr.sureAddr, Sem.run_bind, Sem.run_pure, Result.andThen_ok]
        exact loadVar_ok hk hcells (by rw [hrep.length]; exact Nat.eq_of_beq_eq_true hl) h1'
      · exact S.fail
    · rename_i own nil ar hg
      have S0 := S.chk; clear S; obtain ⟨hl, S⟩ := S0
      obtain ⟨q, hq, hr⟩ := S.inv.ok.rep id (by rw [hg]; simp)
      rw [hp] at hq; cases hq
      rw [hg] at hr
      obtain ⟨h1, h2, h3, h4, h5, h6⟩ := hr
      obtain ⟨h7, h8⟩ := h5 a hb
      have hrep := ((ar.get_rep ρ i (by omega)).drop o).take (P.cellsOf t)
      obtain ⟨F, h1'⟩ := aggN_ok S hrep
      refine ⟨_, w, ?_, F.rd⟩
      have hcells : CellsL w (a.add (i * p.size + o)) ((((ar.cells.drop (i * ar.size)).take ar.size).drop o).take (P.cellsOf t)) := by
        intro j u hj
        rw [addr_add_add]
        rw [List.getElem?_take] at hj
        split at hj
        · rw [List.getElem?_drop, List.getElem?_take] at hj
          split at hj
          · rw [List.getElem?_drop, h2] at hj
            rw [show i * p.size + o + j = i * p.size + (o + j) from by omega]
            exact h8 _ u hj
          · cases hj
        · cases hj
      simp only [Instr.loadAt, Instr.sureAddr, Sem.run_bind, Sem.run_pure, Result.andThen_ok]
      exact loadVar_ok hk hcells (by rw [hrep.length]; exact Nat.eq_of_beq_eq_true hl) h1'
    · rename_i own nil z l0 hg
      have S0 := S.chk; clear S; obtain ⟨hl, S⟩ := S0
      rw [forceP_eq] at S
      have hl := Nat.le_of_ble_eq_true hl
      obtain ⟨q, hq, hr⟩ := S.inv.ok.rep id (by rw [hg]; simp)
      rw [hp] at hq; cases hq
      rw [hg] at hr
      obtain ⟨h1, h2, h3, h4, h5, h6, h7⟩ := hr
      obtain ⟨h8, h9⟩ := h5 a hb
      obtain ⟨g1, g2, g3⟩ := h7.get (i := i) (by omega)
      have gp := g1.part o (P.cellsOf t)
      have zl : ((z.drop o).take (P.cellsOf t)).length = P.cellsOf t := by rw [List.length_take, List.length_drop]; omega
      obtain ⟨vs, l2, g', ρ', S1, y, s, F⟩ := rowGo_ok (rrow l0 i) _ o S gp (by rw [zl]) (fun j q hq ho b off hf hi => S.inv.ok.inn j id q p hq hp ho b off hf (by rw [hg]; exact ⟨_, g2, innR_part _ _ hi⟩))
      obtain ⟨F1, h1'⟩ := aggN_ok S1 y
      refine ⟨_, w, ?_, (F _ _ F1).rd⟩
      have hcells : CellsL w (a.add (i * p.size + o)) (((p.inn.getD i []).drop o).take (P.cellsOf t)) := by
        intro j u hj
        rw [addr_add_add]
        rw [List.getElem?_take] at hj
        split at hj
        · rw [← g3, List.getElem?_drop, List.getElem?_take] at hj
          split at hj
          · rw [List.getElem?_drop, h2] at hj
            rw [show i * p.size + o + j = i * p.size + (o + j) from by omega]
            exact h9 _ u hj
          · cases hj
        · cases hj
      simp only [Instr.loadAt, Instr.sureAddr, Sem.run_bind, Sem.run_pure, Result.andThen_ok]
      exact loadVar_ok hk hcells (by rw [gp.len.1, zl]) h1'
    · rename_i o0 n0 i1 i2 i3 hg
      split at S
      · split at S
        · rename_i o' j hf
          have S0 := S.rd; clear S; obtain ⟨l2, rfl, S⟩ := S0
          split at S
          · rename_i own cs hgj
            have S0 := S.chk; clear S; obtain ⟨hl, S⟩ := S0
            obtain ⟨q0, hq0, hr0⟩ := S.inv.ok.rep id (by rw [hg]; simp)
            rw [hp] at hq0; cases hq0
            rw [hg] at hr0
            obtain ⟨ho, q, hq, hqb, hql⟩ := parts_at hr0 hf hb
            obtain ⟨q', hq', hr⟩ := S.inv.ok.rep j (by rw [hgj]; simp)
            rw [hq] at hq'; cases hq'
            rw [hgj] at hr
            obtain ⟨h1, y, us, hy, hs, hus, hcl, _⟩ := hr
            rw [hqb] at hy; cases hy
            have hrep := (hus.drop (o - o')).take (P.cellsOf t)
            obtain ⟨F, h1'⟩ := aggN_ok S hrep
            refine ⟨_, w, ?_, F.rd.rd⟩
            have hcells : CellsL w (a.add (0 * p.size + o)) ((us.drop (o - o')).take (P.cellsOf t)) := by
              intro jj u hj
              rw [addr_add_add]
              rw [List.getElem?_take] at hj
              split at hj
              · rw [List.getElem?_drop] at hj
                have := hcl _ u hj
                rw [addr_add_add] at this
                rw [show 0 * p.size + o + jj = o' + (o - o' + jj) from by omega]
                exact this
              · cases hj
            simp only [Instr.loadAt, Instr.sureAddr, Sem.run_bind, Sem.run_pure, Result.andThen_ok]
            exact loadVar_ok hk hcells (by rw [hrep.length]; exact Nat.eq_of_beq_eq_true hl) h1'
          · exact S.fail
        · exact S.fail
      · exact S.fail
    · exact S.fail
  · exact S.fail

/-! stores -/
def Span (b lo n : Nat) : Nat → Nat → Prop := fun b' off => b' = b ∧ lo ≤ off ∧ off < lo + n
theorem storeCells_ok (x : Addr) (hx : x.spot = none) : ∀ (vs : List Value) (i : Nat) (w : World), (∀ j, j < vs.length → (∃ u, w.cell? (x.add (i + j)) = some u) ∧ w.frozen? (x.add (i + j)) = false) → (∀ u ∈ vs, u.oneCell' = true) →
    ∃ w', (storeCells x vs i).run P w = .ok () w' ∧ Fr (Span x.block (x.off + i) vs.length) w w' ∧ (∀ j u, vs[j]? = some u → w'.cell? (x.add (i + j)) = some u) ∧ ∀ y, w'.frozen? y = w.frozen? y
  | [], i, w, _, _ => ⟨w, by simp [storeCells], Fr.refl _ w, by simp, fun _ => rfl⟩
  | u :: vs, i, w, hc, h1 => by
    obtain ⟨⟨u0, hu0⟩, hf0⟩ := hc 0 (by simp)
    simp only [Nat.add_zero] at hu0 hf0
    have hst := run_store P w (x.add i) u .plain (h1 u (by simp))
    have hadd : ∀ n, x.add n = ⟨x.block, x.off + n, none⟩ := by
      intro n; unfold Addr.add; split
      · rename_i h0; subst h0; cases x; simp_all
      · rfl
    have hne : ∀ j, x.add i ≠ x.add (i + 1 + j) := by
      intro j h
      have := congrArg Addr.off h
      rw [addr_off, addr_off] at this
      omega
    obtain ⟨w', hr, hfr, hcl, hfz⟩ := storeCells_ok x hx vs (i + 1) (w.setCell (x.add i) u) (fun j hj => by
      obtain ⟨⟨u1, hu1⟩, hf1⟩ := hc (j + 1) (by simpa using hj)
      rw [show i + (j + 1) = i + 1 + j from by omega] at hu1 hf1
      exact ⟨⟨u1, by rw [World.cell?_setCell_other (h := hne j)]; exact hu1⟩, by rw [World.frozen?_setCell]; exact hf1⟩) (fun y hy => h1 y (by simp [hy]))
    have hblk := World.block_lt_of_cell? w _ hu0
    rw [addr_block] at hblk
    have hset : Fr (Span x.block (x.off + i) 1) w (w.setCell (x.add i) u) := by
      refine ⟨rfl, rfl, rfl, by simp, fun b hb => ?_⟩
      by_cases hbx : b = x.block
      · subst hbx
        have hu0' := hu0
        unfold World.cell? at hu0'
        rw [addr_block] at hu0'
        split at hu0'
        · rename_i c t z hh
          left
          refine ⟨c, c.setIfInBounds (x.off + i) u, t, z, hh, ?_, by simp, ?_⟩
          · simp only [World.setCell, Array.getElem?_modify, addr_block, if_true, hh, Option.map_some]
            rw [hadd i]; simp
          · intro off ho
            have hneq : x.off + i ≠ off := fun e => ho ⟨rfl, by omega, by omega⟩
            simp [Array.getElem?_setIfInBounds_ne hneq]
        · cases hu0'
      · refine .inr (.inl ?_)
        simp only [World.setCell, Array.getElem?_modify, addr_block]
        rw [if_neg (fun e => hbx e.symm)]
    refine ⟨w', ?_, ?_, ?_, fun y => by rw [hfz, World.frozen?_setCell]⟩
    · simp only [storeCells, Sem.run_bind]
      simp only [hst, hu0, hf0, Bool.false_eq_true, if_false, Result.andThen_ok]
      exact hr
    · have h4 : (u :: vs).length = vs.length + 1 := rfl
      refine (hset.mono (M' := Span x.block (x.off + i) (u :: vs).length) ?_).trans (hfr.mono ?_)
      · rintro a b _ ⟨h1, h2, h3⟩
        exact ⟨h1, h2, by omega⟩
      · rintro a b _ ⟨h1, h2, h3⟩
        exact ⟨h1, by omega, by omega⟩
    · intro j y hj
      cases j with
      | zero =>
        simp only [List.getElem?_cons_zero, Option.some.injEq] at hj
        subst hj
        refine hfr.cell (World.cell?_setCell_same w (x.add i) u hu0) ?_
        rw [Nat.add_zero, addr_off, addr_block]
        rintro ⟨_, h2, _⟩
        omega
      | succ j =>
        simp only [List.getElem?_cons_succ] at hj
        rw [show i + (j + 1) = i + 1 + j from by omega]
        exact hcl j y hj
end
end Go.Ev
namespace Go.Ev
set_option linter.unusedSimpArgs false
set_option linter.unusedVariables false
open Go Go.RowKit
section
variable {cal : Nat → List D → Option (List D)} {l : List Ac} {v : AV} {w0 : World} {M : Nat → Nat → Prop} {ρ : Env} {g : Hp} {w w' : World} {P : Program}

/-- a row of cells with some in the middle turned -/
def mid {α : Type} (l : List α) (k : Nat) (m : List α) : List α := l.take k ++ m ++ l.drop (k + m.length)
theorem mid_length {α : Type} {l : List α} {k : Nat} {m : List α} (h : k + m.length ≤ l.length) : (mid l k m).length = l.length := by
  simp only [mid, List.length_append, List.length_take, List.length_drop]; omega
theorem mid_get {α : Type} {l : List α} {k : Nat} {m : List α} (h : k + m.length ≤ l.length) (j : Nat) :
    (mid l k m)[j]? = if k ≤ j ∧ j < k + m.length then m[j - k]? else l[j]? := by
  unfold mid
  rcases Nat.lt_or_ge j k with h1 | h1
  · rw [if_neg (by omega), List.append_assoc, List.getElem?_append_left (by rw [List.length_take]; omega), List.getElem?_take, if_pos h1]
  · rcases Nat.lt_or_ge j (k + m.length) with h2 | h2
    · rw [if_pos ⟨h1, h2⟩, List.append_assoc, List.getElem?_append_right (by rw [List.length_take]; omega), List.getElem?_append_left (by rw [List.length_take]; omega), List.length_take, Nat.min_eq_left (by omega)]
    · rw [if_neg (by omega), List.getElem?_append_right (by rw [List.length_append, List.length_take]; omega), List.getElem?_drop, List.length_append, List.length_take, Nat.min_eq_left (by omega)]
      congr 1; omega
theorem mid_rep {cs ds : List AV} {us vs : List Value} {k : Nat} (h : RepVs ρ cs us) (hm : RepVs ρ ds vs) : RepVs ρ (mid cs k ds) (mid us k vs) := by
  unfold mid
  rw [hm.length]
  exact ((h.take k).append hm).append (h.drop _)
theorem mid_one {α : Type} {l : List α} {i : Nat} {x : α} (h : i < l.length) : l.set i x = mid l i [x] := by
  rw [List.set_eq_take_append_cons_drop, if_pos h]; simp [mid]
theorem flatMap_mid {α β : Type} {f : α → List β} {n : Nat} (hf : ∀ x, (f x).length = n) (l : List α) (i : Nat) (x : α) (h : i < l.length) :
    (l.set i x).flatMap f = mid (l.flatMap f) (i * n) (f x) := by
  rw [mid_one h]
  simp only [mid, List.flatMap_append, List.flatMap_cons, List.flatMap_nil, List.append_nil, List.length_cons, List.length_nil, Nat.zero_add, hf]
  rw [flatMap_take hf, show i * n + n = (i + 1) * n from by rw [Nat.add_mul, Nat.one_mul], flatMap_drop hf]
theorem mid_sub {α : Type} {l e e' : List α} {k o n : Nat} {m : List α} (he : (l.drop k).take n = e) (hn : e.length = n) (hk : k + n ≤ l.length) (ho : o + m.length ≤ n) (h : e' = mid e o m) :
    mid l k e' = mid l (k + o) m := by
  subst h
  have hl : (mid e o m).length = e.length := mid_length (by omega)
  apply List.ext_getElem?
  intro j
  rw [mid_get (l := l) (k := k) (m := mid e o m) (by omega), mid_get (l := l) (k := k + o) (m := m) (by omega), hl]
  by_cases h1 : k ≤ j ∧ j < k + e.length
  · rw [if_pos h1, mid_get (l := e) (k := o) (m := m) (by omega)]
    by_cases h2 : o ≤ j - k ∧ j - k < o + m.length
    · rw [if_pos h2, if_pos (by omega)]
      congr 1; omega
    · rw [if_neg h2, if_neg (by omega), ← he, List.getElem?_take, if_pos (by omega), List.getElem?_drop]
      congr 1; omega
  · rw [if_neg h1, if_neg (by omega)]
theorem Arr.elem_cells (a : Arr) (ρ : Env) (i : Nat) (h : i < a.len) : ∃ us, (a.cells.drop (i * a.size)).take a.size = us ∧ us.length = a.size ∧ RepVs ρ (a.get i) us :=
  ⟨_, rfl, by rw [List.length_take, List.length_drop, a.cells_length]; have : (i + 1) * a.size ≤ a.len * a.size := Nat.mul_le_mul_right _ h; rw [Nat.add_mul] at this; omega, a.get_rep ρ i h⟩
theorem Arr.set_spec {a b : Arr} {i o : Nat} {cs : List AV} {vs : List Value} (h : a.set i o cs = some b) (hi : i < a.len) (hr : RepVs ρ cs vs) :
    b.len = a.len ∧ b.size = a.size ∧ o + vs.length ≤ a.size ∧ b.cells = mid a.cells (i * a.size + o) vs := by
  cases a with
  | ints k l =>
    simp only [Arr.set] at h
    split at h
    · split at h
      · rename_i hk; subst hk
        cases h
        simp only [RepVs, RepV] at hr
        obtain ⟨_, _, rfl, rfl, rfl⟩ := hr
        refine ⟨by simp [Arr.len], rfl, by simp [Arr.size], ?_⟩
        simp only [Arr.cells, Arr.size, Nat.mul_one, Nat.add_zero, List.map_set]
        exact mid_one (by simpa [Arr.len] using hi)
      · cases h
    · cases h
  | bools l =>
    simp only [Arr.set] at h
    split at h
    · cases h
      simp only [RepVs, RepV] at hr
      obtain ⟨_, _, rfl, rfl, rfl⟩ := hr
      refine ⟨by simp [Arr.len], rfl, by simp [Arr.size], ?_⟩
      simp only [Arr.cells, Arr.size, Nat.mul_one, Nat.add_zero, List.map_set]
      exact mid_one (by simpa [Arr.len] using hi)
    · cases h
  | strs l =>
    simp only [Arr.set] at h
    split at h
    · cases h
      simp only [RepVs, RepV] at hr
      obtain ⟨_, _, rfl, rfl, rfl⟩ := hr
      refine ⟨by simp [Arr.len], rfl, by simp [Arr.size], ?_⟩
      simp only [Arr.cells, Arr.size, Nat.mul_one, Nat.add_zero, List.map_set]
      exact mid_one (by simpa [Arr.len] using hi)
    · cases h
  | r3 l =>
    simp only [Arr.len] at hi
    have hlen : (l.flatMap fun x : Int × Int × Int => [Value.int .i64 x.1, .int .i64 x.2.1, .int .i64 x.2.2]).length = l.length * 3 := flatMap_length_const (by simp)
    have helem : ((l.flatMap fun x : Int × Int × Int => [Value.int .i64 x.1, .int .i64 x.2.1, .int .i64 x.2.2]).drop (i * 3)).take 3 = [.int .i64 (l.getD i (0, 0, 0)).1, .int .i64 (l.getD i (0, 0, 0)).2.1, .int .i64 (l.getD i (0, 0, 0)).2.2] := by
      have t := flatMap_take (g := fun x : Int × Int × Int => [Value.int .i64 x.1, .int .i64 x.2.1, .int .i64 x.2.2]) (n := 3) (by simp) (l.drop i) 1
      rw [Nat.one_mul] at t
      rw [flatMap_drop (n := 3) (by simp), t, drop_take_one _ _ hi, getD_of_lt hi]
      simp
    simp only [Arr.set] at h
    split at h
    · cases h
      simp only [RepVs, RepV] at hr
      obtain ⟨_, _, rfl, rfl, _, _, rfl, rfl, _, _, rfl, rfl, rfl⟩ := hr
      refine ⟨by simp [Arr.len], rfl, by simp [Arr.size], ?_⟩
      simp only [Arr.cells, Arr.size, Nat.add_zero]
      exact flatMap_mid (n := 3) (by simp) l i _ hi
    · cases h
      simp only [RepVs, RepV] at hr
      obtain ⟨_, _, rfl, rfl, rfl⟩ := hr
      refine ⟨by simp [Arr.len], rfl, by simp [Arr.size], ?_⟩
      simp only [Arr.cells, Arr.size]
      rw [flatMap_mid (n := 3) (by simp) l i _ hi]
      exact mid_sub helem rfl (by rw [hlen]; omega) (by simp) (by simp [mid])
    · cases h
      simp only [RepVs, RepV] at hr
      obtain ⟨_, _, rfl, rfl, rfl⟩ := hr
      refine ⟨by simp [Arr.len], rfl, by simp [Arr.size], ?_⟩
      simp only [Arr.cells, Arr.size]
      rw [flatMap_mid (n := 3) (by simp) l i _ hi]
      exact mid_sub helem rfl (by rw [hlen]; omega) (by simp) (by simp [mid])
    · cases h
      simp only [RepVs, RepV] at hr
      obtain ⟨_, _, rfl, rfl, rfl⟩ := hr
      refine ⟨by simp [Arr.len], rfl, by simp [Arr.size], ?_⟩
      simp only [Arr.cells, Arr.size]
      rw [flatMap_mid (n := 3) (by simp) l i _ hi]
      exact mid_sub helem rfl (by rw [hlen]; omega) (by simp) (by simp [mid])
    · cases h
  | r4 l =>
    simp only [Arr.len] at hi
    have hlen : (l.flatMap fun x : Int × Int × Int × Int => [Value.int .i64 x.1, .int .i64 x.2.1, .int .i64 x.2.2.1, .int .i64 x.2.2.2]).length = l.length * 4 := flatMap_length_const (by simp)
    have helem : ((l.flatMap fun x : Int × Int × Int × Int => [Value.int .i64 x.1, .int .i64 x.2.1, .int .i64 x.2.2.1, .int .i64 x.2.2.2]).drop (i * 4)).take 4 = [.int .i64 (l.getD i (0, 0, 0, 0)).1, .int .i64 (l.getD i (0, 0, 0, 0)).2.1, .int .i64 (l.getD i (0, 0, 0, 0)).2.2.1, .int .i64 (l.getD i (0, 0, 0, 0)).2.2.2] := by
      have t := flatMap_take (g := fun x : Int × Int × Int × Int => [Value.int .i64 x.1, .int .i64 x.2.1, .int .i64 x.2.2.1, .int .i64 x.2.2.2]) (n := 4) (by simp) (l.drop i) 1
      rw [Nat.one_mul] at t
      rw [flatMap_drop (n := 4) (by simp), t, drop_take_one _ _ hi, getD_of_lt hi]
      simp
    simp only [Arr.set] at h
    split at h
    · cases h
      simp only [RepVs, RepV] at hr
      obtain ⟨_, _, rfl, rfl, _, _, rfl, rfl, _, _, rfl, rfl, _, _, rfl, rfl, rfl⟩ := hr
      refine ⟨by simp [Arr.len], rfl, by simp [Arr.size], ?_⟩
      simp only [Arr.cells, Arr.size, Nat.add_zero]
      exact flatMap_mid (n := 4) (by simp) l i _ hi
    · cases h
      simp only [RepVs, RepV] at hr
      obtain ⟨_, _, rfl, rfl, rfl⟩ := hr
      refine ⟨by simp [Arr.len], rfl, by simp [Arr.size], ?_⟩
      simp only [Arr.cells, Arr.size]
      rw [flatMap_mid (n := 4) (by simp) l i _ hi]
      exact mid_sub helem rfl (by rw [hlen]; omega) (by simp) (by simp [mid])
    · cases h
      simp only [RepVs, RepV] at hr
      obtain ⟨_, _, rfl, rfl, rfl⟩ := hr
      refine ⟨by simp [Arr.len], rfl, by simp [Arr.size], ?_⟩
      simp only [Arr.cells, Arr.size]
      rw [flatMap_mid (n := 4) (by simp) l i _ hi]
      exact mid_sub helem rfl (by rw [hlen]; omega) (by simp) (by simp [mid])
    · cases h
      simp only [RepVs, RepV] at hr
      obtain ⟨_, _, rfl, rfl, rfl⟩ := hr
      refine ⟨by simp [Arr.len], rfl, by simp [Arr.size], ?_⟩
      simp only [Arr.cells, Arr.size]
      rw [flatMap_mid (n := 4) (by simp) l i _ hi]
      exact mid_sub helem rfl (by rw [hlen]; omega) (by simp) (by simp [mid])
    · cases h
      simp only [RepVs, RepV] at hr
      obtain ⟨_, _, rfl, rfl, rfl⟩ := hr
      refine ⟨by simp [Arr.len], rfl, by simp [Arr.size], ?_⟩
      simp only [Arr.cells, Arr.size]
      rw [flatMap_mid (n := 4) (by simp) l i _ hi]
      exact mid_sub helem rfl (by rw [hlen]; omega) (by simp) (by simp [mid])
    · cases h

theorem own_heap {e : TypeId} {p : Plc} {cs : List Value} {x : Addr} (h : w.ownsRow 0 e p.size (.slice p.base p.len p.cap) p.len cs) (hb : p.base = some x) :
    ∃ cur, x = ⟨x.block, 0, none⟩ ∧ w.heap[x.block]? = some (.cells cur e (0, 0)) ∧ p.len ≤ p.cap ∧ p.cap ≤ maxLen ∧ cur.size = p.cap * p.size ∧ cur.toList.take (p.len * p.size) = cs ∧ cs.length = p.len * p.size := by
  rcases h.2 with ⟨h1, _⟩ | ⟨b, cap, cur, h1, _, h2, h3, h4, h5, h6⟩
  · rw [hb] at h1; cases h1
  · rw [hb] at h1; cases h1
    exact ⟨cur, rfl, h2, h3, h4, h5, h6, h.1⟩
theorem own_of_cells {e : TypeId} {p : Plc} {cs : List Value} {b : Nat} {cur : Array Value} (hb : p.base = some ⟨b, 0, none⟩) (hh : w.heap[b]? = some (.cells cur e (0, 0))) (h3 : p.len ≤ p.cap) (h4 : p.cap ≤ maxLen)
    (h5 : cur.size = p.cap * p.size) (hc : CellsL w ⟨b, 0, none⟩ cs) (hl : cs.length = p.len * p.size) : w.ownsRow 0 e p.size (.slice p.base p.len p.cap) p.len cs := by
  refine ⟨hl, .inr ⟨b, p.cap, cur, by rw [hb], Nat.zero_le _, hh, h3, h4, h5, ?_⟩⟩
  have hle : p.len * p.size ≤ p.cap * p.size := Nat.mul_le_mul_right _ h3
  apply List.ext_getElem?
  intro j
  rw [List.getElem?_take]
  split
  · rename_i hj
    have hj' : j < cs.length := by omega
    have h0 := hc j cs[j] (List.getElem?_eq_getElem hj')
    have ha : (⟨b, 0, none⟩ : Addr).add j = ⟨b, j, none⟩ := by unfold Addr.add; split <;> simp_all
    rw [ha] at h0
    simp only [World.cell?, hh] at h0
    rw [List.getElem?_eq_getElem hj']
    simpa using h0
  · rename_i hj
    rw [List.getElem?_eq_none (by omega)]
theorem own_thawed {e : TypeId} {x : Addr} {cur : Array Value} (h : w.heap[x.block]? = some (.cells cur e (0, 0))) (n : Nat) : Thawed w x n := by
  intro j hj
  simp [World.frozen?, addr_block, h]

theorem storeBox_ok {id : Nat} {cs c : List AV} {p : Plc} {y : Addr} {us0 : List Value} {o : Nat} (I : Inv w0 M ρ g w) (hg : g id = .box true cs) (hp : ρ id = some p) (hb : p.base = some y) (hle : o + c.length ≤ cs.length) (hcr : RepVs ρ c us0) (hco : ∀ u ∈ us0, u.oneCell' = true) :
    ∃ w', (storeCells (y.add o) us0).run P w = .ok () w' ∧ Inv w0 M ρ (upd g id (.box true (mid cs o c))) w' := by
  obtain ⟨q, hq, hr⟩ := I.ok.rep id (by rw [hg]; simp)
  rw [hp] at hq; cases hq
  rw [hg] at hr
  obtain ⟨h1, y', us, hy, hspot, hus, hcl, hth⟩ := hr
  rw [hb] at hy; cases hy
  have hlen : o + us0.length ≤ us.length := by rw [hus.length, hcr.length]; exact hle
  have hsp : (y.add o).spot = none := by unfold Addr.add; split <;> simp [hspot]
  obtain ⟨w', hr', hfr, hnew, hfz⟩ := storeCells_ok (P := P) (y.add o) hsp us0 0 w (by
    intro j hj
    rw [addr_add_add, show o + (0 + j) = o + j from by omega]
    exact ⟨⟨_, hcl (o + j) _ (List.getElem?_eq_getElem (by omega))⟩, hth rfl _ (by omega)⟩) hco
  simp only [addr_block, addr_off, Nat.zero_add, addr_add_add, Nat.add_zero] at hfr hnew
  refine ⟨w', hr', I.turn (id := id) (p := p) (e := .box true (mid cs o c)) hp (by rw [hg]; rfl) hfr ?_ ?_ ?_⟩
  · rintro b off ⟨rfl, h2, h3⟩
    rw [hg]
    refine ⟨y, hb, rfl, by omega, ?_⟩
    rw [← hus.length]; omega
  · refine ⟨h1, y, mid us o us0, hb, hspot, mid_rep hus hcr, ?_, ?_⟩
    · intro j u hj
      rw [mid_get hlen] at hj
      split at hj
      · rename_i hjj
        have := hnew (j - o) u hj
        rwa [show o + (j - o) = j from by omega] at this
      · rename_i hjj
        refine hfr.cell (hcl j u hj) ?_
        rw [addr_block, addr_off]
        rintro ⟨_, h2, h3⟩
        exact hjj ⟨by omega, by omega⟩
    · intro _ j hj
      rw [mid_length hlen] at hj
      rw [hfz]; exact hth rfl j hj
  · rintro b off ⟨z, hz, rfl, h2, h3⟩
    rw [hg]
    refine ⟨z, hz, rfl, h2, ?_⟩
    rw [mid_length hle] at h3
    exact h3
theorem storeP_ok {t : TypeId} {x c : AV} {xv cv : Value} (S : Sit cal (storeP P t x c) l v w0 M ρ g w) (hx : RepV ρ x xv) (hc : RepV ρ c cv) :
    v = .un ∧ ∃ w', (Instr.storeAt t xv cv).run P w = .ok () w' ∧ Fin w0 M l g ρ w' (fun _ => True) := by
  unfold storeP at S
  split at S
  · rename_i id i o
    have S0 := S.chk; clear S; obtain ⟨hk, S⟩ := S0
    obtain ⟨c', l1, g1, ρ1, S1, hc', hs, hF⟩ := fixT_ok S hc
    clear S
    have hx := RepV.mono hs _ _ hx
    have S0 := S1.chk; clear S1; obtain ⟨hone, S1⟩ := S0
    simp only [Bool.and_eq_true] at hone
    obtain ⟨hone, hsz⟩ := hone
    have hsz := Nat.eq_of_beq_eq_true hsz
    obtain ⟨hcr, hco⟩ := cells_rep hc' hone
    simp only [RepV] at hx
    obtain ⟨p, a, hp, hb, hi, rfl⟩ := hx
    obtain ⟨d, hd, hu⟩ := known_some hk
    have hsize : cv.cells.size = P.cellsOf t := by have := hcr.length; simp only [Array.length_toList] at this; omega
    have hrun : ∀ w' , (storeCells (a.add (i * p.size + o)) cv.cells.toList).run P w = .ok () w' → (Instr.storeAt t (.pointer (some (a.add (i * p.size + o)))) cv).run P w = .ok () w' := by
      intro w' h
      simp [Instr.storeAt, Instr.sureAddr, storeVar, run_sizeOf hd, hsize, h]
    have S0 := S1.rd; clear S1; obtain ⟨l2, rfl, S1⟩ := S0
    split at S1
    · rename_i cs hg
      split at S1
      · have S0 := S1.chk; clear S1; obtain ⟨hle, S1⟩ := S0
        have hle := Nat.le_of_ble_eq_true hle
        obtain ⟨l3, rfl, hd3, hS3⟩ := S1.wr
        obtain ⟨q, hq, hr⟩ := S1.inv.ok.rep id (by rw [hg]; simp)
        rw [hp] at hq; cases hq
        rw [hg] at hr
        obtain ⟨h1, y, us, hy, hspot, hus, hcl, hth⟩ := hr
        rw [hb] at hy; cases hy
        have hlen : o + cv.cells.toList.length ≤ us.length := by rw [hus.length, hcr.length]; exact hle
        have hsp : (a.add (0 * p.size + o)).spot = none := by unfold Addr.add; split <;> simp [hspot]
        obtain ⟨w', hr', hfr, hnew, hfz⟩ := storeCells_ok (P := P) (a.add (0 * p.size + o)) hsp cv.cells.toList 0 w (by
          intro j hj
          rw [addr_add_add, show 0 * p.size + o + (0 + j) = o + j from by omega]
          exact ⟨⟨_, hcl (o + j) _ (List.getElem?_eq_getElem (by omega))⟩, hth rfl _ (by omega)⟩) hco
        simp only [addr_block, addr_off, Nat.zero_add, addr_add_add, Nat.zero_mul] at hfr hnew
        have hI := S1.inv.turn (id := id) (p := p) (e := .box true (mid cs o c'.cells)) hp (by rw [hg]; rfl) hfr
          (by
            rintro b off ⟨rfl, h2, h3⟩
            rw [hg]
            refine ⟨a, hb, rfl, by omega, ?_⟩
            rw [← hus.length]; omega)
          (by
            refine ⟨h1, a, mid us o cv.cells.toList, hb, hspot, mid_rep hus hcr, ?_, ?_⟩
            · intro j u hj
              rw [mid_get hlen] at hj
              split at hj
              · rename_i hjj
                have := hnew (j - o) u hj
                rwa [show o + (j - o) = j from by omega] at this
              · rename_i hjj
                refine hfr.cell (hcl j u hj) ?_
                rw [addr_block, addr_off]
                rintro ⟨_, h2, h3⟩
                exact hjj ⟨by omega, by omega⟩
            · intro _ j hj
              rw [mid_length hlen] at hj
              rw [hfz]; exact hth rfl j hj)
          (by
            rintro b off ⟨z, hz, rfl, h2, h3⟩
            rw [hg]
            refine ⟨z, hz, rfl, h2, ?_⟩
            rw [mid_length (by rw [← hcr.length, ← hus.length]; exact hlen)] at h3
            exact h3)
        obtain ⟨rfl, rfl⟩ := (hS3 w' hI).ret
        exact ⟨rfl, w', hrun w' hr', hF _ _ (Fin.here hI trivial).wr.rd⟩
      · exact S1.fail
    · rename_i nil ar hg
      split at S1
      · rename_i br hbr
        obtain ⟨l3, rfl, hd3, hS3⟩ := S1.wr
        obtain ⟨q, hq, hr⟩ := S1.inv.ok.rep id (by rw [hg]; simp)
        rw [hp] at hq; cases hq
        rw [hg] at hr
        obtain ⟨h1, h2, h3, h4, h5, h6⟩ := hr
        obtain ⟨h7, h8⟩ := h5 a hb
        obtain ⟨e, he⟩ := h6 rfl
        obtain ⟨cur, hax, hheap, _, hcm, hcs, hct, hcl⟩ := own_heap he hb
        obtain ⟨k1, k2, k3, k4⟩ := Arr.set_spec hbr (by omega) hcr
        rw [h2] at k3 k4
        have hmul : (i + 1) * p.size ≤ p.len * p.size := Nat.mul_le_mul_right _ hi
        rw [Nat.add_mul, Nat.one_mul] at hmul
        have hlen : i * p.size + o + cv.cells.toList.length ≤ ar.cells.length := by rw [hcl]; omega
        have hspot : a.spot = none := by rw [hax]
        have hoff : a.off = 0 := by rw [hax]
        have hsp : (a.add (i * p.size + o)).spot = none := by unfold Addr.add; split <;> simp [hspot]
        obtain ⟨w', hr', hfr, hnew, hfz⟩ := storeCells_ok (P := P) (a.add (i * p.size + o)) hsp cv.cells.toList 0 w (by
          intro j hj
          rw [addr_add_add]
          exact ⟨⟨_, h8 (i * p.size + o + (0 + j)) _ (List.getElem?_eq_getElem (by omega))⟩, own_thawed hheap (i * p.size + o + (0 + j) + 1) _ (by omega)⟩) hco
        simp only [addr_block, addr_off, Nat.zero_add, Nat.add_zero, addr_add_add] at hfr hnew
        have hcl' : CellsL w' a br.cells := by
          intro j u hj
          rw [k4, mid_get hlen] at hj
          split at hj
          · rename_i hjj
            have := hnew (j - (i * p.size + o)) u hj
            rwa [show i * p.size + o + (j - (i * p.size + o)) = j from by omega] at this
          · rename_i hjj
            refine hfr.cell (h8 j u hj) ?_
            rw [addr_block, addr_off]
            rintro ⟨_, h2, h3⟩
            exact hjj ⟨by omega, by omega⟩
        have hheap' : ∃ cur', w'.heap[a.block]? = some (.cells cur' e (0, 0)) ∧ cur'.size = cur.size := by
          rcases hfr.shell a.block (Array.getElem?_eq_some_iff.1 hheap).1 with ⟨c1, c2, tt, z, m1, m2, m3, _⟩ | m1 | ⟨c1, t1, c2, t2, m1, m2, m3⟩
          · rw [hheap] at m1; cases m1
            exact ⟨c2, m2, m3⟩
          · exact ⟨cur, m1.trans hheap, rfl⟩
          · rw [hheap] at m1; cases m1
        obtain ⟨cur', hheap', hcs'⟩ := hheap'
        have hI := S1.inv.turn (id := id) (p := p) (e := .arr true nil br) hp (by rw [hg]; rfl) hfr
          (by
            rintro b off ⟨rfl, h2, h3⟩
            rw [hg]
            exact ⟨a, hb, rfl, .inl rfl⟩)
          (by
            refine ⟨k1.trans h1, k2.trans h2, h3, h4, ?_, ?_⟩
            · intro x hx
              rw [hb] at hx; cases hx
              exact ⟨h7, hcl'⟩
            · intro _
              refine ⟨e, own_of_cells (b := a.block) (by rw [hb, ← hax]) hheap' h7 hcm (hcs'.trans hcs) (by rw [← hax]; exact hcl') ?_⟩
              rw [br.cells_length, k1, k2, h1, h2])
          (by
            rintro b off ⟨z, hz, rfl, _⟩
            rw [hg]
            exact ⟨z, hz, rfl, .inl rfl⟩)
        obtain ⟨rfl, rfl⟩ := (hS3 w' hI).ret
        exact ⟨rfl, w', hrun w' hr', hF _ _ (Fin.here hI trivial).wr.rd⟩
      · exact S1.fail
    · rename_i o0 n0 i1 i2 i3 hg
      split at S1
      · split at S1
        · rename_i o' j hf
          have S0 := S1.rd; clear S1; obtain ⟨l3, rfl, S1⟩ := S0
          split at S1
          · rename_i cs hgj
            have S0 := S1.chk; clear S1; obtain ⟨hle, S1⟩ := S0
            have hle := Nat.le_of_ble_eq_true hle
            obtain ⟨q0, hq0, hr0⟩ := S1.inv.ok.rep id (by rw [hg]; simp)
            rw [hp] at hq0; cases hq0
            rw [hg] at hr0
            obtain ⟨ho, q, hq, hqb, hql⟩ := parts_at hr0 hf hb
            obtain ⟨l4, rfl, hd3, hS3⟩ := S1.wr
            obtain ⟨w', hr', hI⟩ := storeBox_ok (P := P) S1.inv hgj hq hqb hle hcr hco
            rw [addr_add_add, show o' + (o - o') = 0 * p.size + o from by omega] at hr'
            obtain ⟨rfl, rfl⟩ := (hS3 w' hI).ret
            exact ⟨rfl, w', hrun w' hr', hF _ _ (Fin.here hI trivial).wr.rd.rd⟩
          · exact S1.fail
        · exact S1.fail
      · exact S1.fail
    · exact S1.fail
  · exact S.fail
end
end Go.Ev
