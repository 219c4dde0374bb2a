/- The evaluator: comparisons, parts of values, addresses, slices. -/
import Derived.Test.YtfgccfajhedgdaaE3
import Derived.Laws.StructEq
import Derived.Laws.Cover3
namespace Go.Ev
set_option linter.unusedSimpArgs false
set_option linter.unusedVariables false
open Go Go.RowKit
section
variable {cal : Nat → List D → Option (List D)} {l : List Ac} {v : AV} {w0 : World} {M : Nat → Nat → Prop} {ρ : Env} {g : Hp} {w w' : World} {P : Program}

theorem ret_ok {c : AV} (S : Sit cal (.ret c) l v w0 M ρ g w) {vv : Value} (h : RepV ρ c vv) : Fin w0 M l g ρ w (fun ρ' => RepV ρ' v vv) := by
  obtain ⟨rfl, rfl⟩ := S.ret
  exact Fin.here S.inv h

/-- a value out of its cells -/
def ofCells (agg : Bool) (us : List Value) : Value := if agg then .agg us.toArray else us.headD undef
theorem run_part {t : TypeId} (hk : known P t = true) (us : Array Value) (off : Nat) (hlen : isAggT P t = false → ((us.toList.drop off).take (P.cellsOf t)).length = 1) :
    (part t us off).run P w = .ok (ofCells (isAggT P t) ((us.toList.drop off).take (P.cellsOf t))) w := by
  obtain ⟨d, hd, hu⟩ := known_some hk
  unfold part
  have ha : isAggT P t = isAggD d := by rw [isAggT, hu]
  simp only [Sem.run_bind, run_isAgg hd, Result.andThen_ok]
  cases hagg : isAggD d with
  | true =>
    simp only [if_true, Sem.run_bind, run_sizeOf hd, Result.andThen_ok, Sem.run_pure, ofCells, ha, hagg]
    congr 2
    apply Array.ext'
    simp [Array.toList_extract, List.extract_eq_take_drop]
  | false =>
    have h1 := hlen (by rw [ha, hagg])
    simp only [Bool.false_eq_true, if_false, ofCells, ha, hagg]
    obtain ⟨u, hu1⟩ := List.length_eq_one_iff.1 h1
    have h0 : us[off]? = some u := by
      have : ((us.toList.drop off).take (P.cellsOf t))[0]? = some u := by rw [hu1]; rfl
      rw [List.getElem?_take] at this
      split at this
      · rw [List.getElem?_drop] at this; simpa using this
      · cases this
    rw [h0, hu1]
    simp

theorem eqD_ok : ∀ (n : Nat) (t : TypeId) (xs ys : List AV) (us vs : List Value) (b : Bool) (d : Nat), eqD P n t xs ys = some b → RepVs ρ xs us → RepVs ρ ys vs →
    (Op.equalIn (d + n) t (ofCells (isAggT P t) us) (ofCells (isAggT P t) vs)).run P w = .ok b w ∧ known P t = true ∧ (isAggT P t = false → us.length = 1 ∧ vs.length = 1)
  | 0, t, xs, ys, us, vs, b, d, h, _, _ => by simp [eqD] at h
  | n + 1, t, xs, ys, us, vs, b, d, h, hx, hy => by
    have e : d + (n + 1) = (d + n) + 1 := by omega
    rw [e]
    unfold eqD at h
    split at h
    · rename_i k0 hu
      have hun := under_some hu (by simp)
      split at h
      · rename_i k a k' a'
        split at h
        · rename_i hk; subst hk
          cases h
          simp only [RepVs, RepV] at hx hy
          obtain ⟨_, _, rfl, rfl, rfl⟩ := hx
          obtain ⟨_, _, rfl, rfl, rfl⟩ := hy
          have ha : isAggT P t = false := by simp [isAggT, hu, isAggD]
          simp only [ha, ofCells, Bool.false_eq_true, if_false, List.headD_cons]
          refine ⟨?_, by simp [known, hu], fun _ => by simp⟩
          rw [run_equalIn_int w (d + n) t k k0 a a' hun]; rfl
        · cases h
      · cases h
    · rename_i hu
      have hun := under_some hu (by simp)
      split at h
      · cases h
        simp only [RepVs, RepV] at hx hy
        obtain ⟨_, _, rfl, rfl, rfl⟩ := hx
        obtain ⟨_, _, rfl, rfl, rfl⟩ := hy
        have ha : isAggT P t = false := by simp [isAggT, hu, isAggD]
        simp only [ha, ofCells, Bool.false_eq_true, if_false, List.headD_cons]
        exact ⟨run_equalIn_bool w (d + n) t _ _ hun, by simp [known, hu], fun _ => by simp⟩
      · cases h
    · rename_i hu
      have hun := under_some hu (by simp)
      split at h
      · rename_i a a'
        cases h
        simp only [RepVs, RepV] at hx hy
        obtain ⟨_, _, rfl, rfl, rfl⟩ := hx
        obtain ⟨_, _, rfl, rfl, rfl⟩ := hy
        have ha : isAggT P t = false := by simp [isAggT, hu, isAggD]
        simp only [ha, ofCells, Bool.false_eq_true, if_false, List.headD_cons]
        refine ⟨?_, by simp [known, hu], fun _ => by simp⟩
        rw [run_equalIn_string w (d + n) t _ _ hun, ← beq_toListBytes]
        congr 1
        by_cases hh : a = a'
        · subst hh
          simp only [decide_true]
          rw [beq_toListBytes]; simp
        · rw [decide_eq_false hh, beq_toListBytes, ByteArray.toList_eq, ByteArray.toList_eq]
          rw [beq_eq_false_iff_ne]
          intro hl
          exact hh (ByteArray.ext (Array.toList_inj.mp hl))
      · cases h
    · rename_i fs hu
      have hun := under_some hu (by simp)
      have ha : isAggT P t = true := by simp [isAggT, hu, isAggD]
      split at h
      · cases h
      · rename_i hst
        have hst' : P.stoodInHeld t = false := by simpa using hst
        have hf : P.fieldsOf t = fs := by simp [Program.fieldsOf, hun]
        refine ⟨?_, by simp [known, hu], fun h0 => by rw [ha] at h0; cases h0⟩
        simp only [ha, ofCells, if_true]
        rw [run_equalIn_struct w (d + n) t us.toArray vs.toArray (by rw [hf]; exact hun) hst', hf]
        clear hf hun hu
        generalize fs.toList = l at h
        induction l generalizing b with
        | nil => simp only [List.foldr_nil, Option.some.injEq] at h; subst h; simp [Op.eqFields]
        | cons f l ih =>
          simp only [List.foldr_cons] at h
          by_cases hn : f.name = "_"
          · rw [if_pos hn] at h
            simp only [Op.eqFields, hn, ne_eq, not_true_eq_false, if_false]
            exact ih b h
          · rw [if_neg hn] at h
            split at h
            · rename_i b1 c1 e1 e2
              cases h
              obtain ⟨h1, h2, h3⟩ := eqD_ok n f.type _ _ _ _ b1 d e1 ((hx.drop f.offset).take (P.cellsOf f.type)) ((hy.drop f.offset).take (P.cellsOf f.type))
              simp only [Op.eqFields, ne_eq, hn, not_false_eq_true, if_true, Sem.run_bind]
              rw [run_part h2 us.toArray f.offset (fun h0 => by simpa using (h3 h0).1)]
              simp only [Result.andThen_ok]
              rw [run_part h2 vs.toArray f.offset (fun h0 => by simpa using (h3 h0).2)]
              simp only [Result.andThen_ok, h1]
              cases b1
              · simp
              · simp only [Bool.not_true, Bool.false_eq_true, if_false, Bool.true_and]
                exact ih c1 e2
            · cases h
    · cases h

theorem binP_ok {t : TypeId} {op : BinOp} {x y : AV} {xv yv : Value} {ox oy : Operand} (S : Sit cal (binP P t op x y) l v w0 M ρ g w) (hx : RepV ρ x xv) (hy : RepV ρ y yv) :
    SemOk P (do eqGuard op t ox oy xv yv; binOp op t xv yv) l v w0 M ρ g w := by
  unfold binP at S
  split at S
  · rename_i k a k' b
    simp only [RepV] at hx hy
    subst hx hy
    split at S
    · exact intOp_ok (.inl rfl) S
    · exact intOp_ok (.inr (.inl rfl)) S
    · split at S
      · rename_i hk; exact intOp_ok (.inr (.inr hk)) S
      · exact S.fail
  · rename_i a b
    simp only [RepV] at hx hy
    subst hx hy
    split at S
    · rename_i hu
      exact ⟨.bool (a == b), w, by simp [eqGuard, binOp, run_equal_bool w t a b (under_some hu (by simp))], ret_ok S (by simp [RepV])⟩
    · rename_i hu
      exact ⟨.bool (!(a == b)), w, by simp [eqGuard, binOp, run_equal_bool w t a b (under_some hu (by simp))], ret_ok S (by simp [RepV])⟩
    · exact S.fail
  · rename_i a b
    simp only [RepV] at hx hy
    subst hx hy
    have he : (a.toList == b.toList) = decide (a = b) := by
      rw [ByteArray.toList_eq, ByteArray.toList_eq]
      by_cases hh : a = b
      · subst hh; simp
      · rw [decide_eq_false hh, beq_eq_false_iff_ne]
        intro hl
        exact hh (ByteArray.ext (Array.toList_inj.mp hl))
    split at S
    · have S0 := S.chk; clear S; obtain ⟨hc, S⟩ := S0
      have hlt : ¬ ((a.size + b.size : Nat) : Int) > IntKind.i64.max := by
        have := of_decide_eq_true hc
        simp only [IntKind.max, IntKind.signed, IntKind.bits, if_true]
        omega
      refine ⟨.string (a ++ b), w, ?_, ret_ok S (by simp [RepV])⟩
      have hlt' : ¬ ((a.size : Int) + (b.size : Int)) > IntKind.i64.max := by simpa using hlt
      simp only [eqGuard, binOp, Op.stringOp]
      rw [if_neg hlt]
      simp
    · exact ⟨.bool (decide (a = b)), w, by simp [eqGuard, binOp, Op.stringOp, he], ret_ok S (by simp [RepV])⟩
    · exact ⟨.bool (!decide (a = b)), w, by simp [eqGuard, binOp, Op.stringOp, he], ret_ok S (by simp [RepV])⟩
    · exact S.fail
  · rename_i a b
    simp only [RepV] at hx hy
    obtain ⟨us, rfl, hx⟩ := hx
    obtain ⟨vs, rfl, hy⟩ := hy
    have S0 := S.chk; clear S; obtain ⟨hc, S⟩ := S0
    simp only [Bool.and_eq_true, Bool.not_eq_true'] at hc
    obtain ⟨ha, hg⟩ := hc
    split at S
    · rename_i c he
      have h1 := (eqD_ok (w := w) 8 t a b us.toList vs.toList _ 9992 he hx hy).1
      simp only [ofCells, ha, if_true, Array.toArray_toList] at h1
      refine ⟨.bool c, w, ?_, ret_ok S (by simp [RepV])⟩
      simp only [Sem.run_bind, run_eqGuard_agg w .eql t ox oy us vs hg, Result.andThen_ok, run_eql_struct, h1]
    · rename_i c he
      have h1 := (eqD_ok (w := w) 8 t a b us.toList vs.toList _ 9992 he hx hy).1
      simp only [ofCells, ha, if_true, Array.toArray_toList] at h1
      refine ⟨.bool (!c), w, ?_, ret_ok S (by simp [RepV])⟩
      simp only [Sem.run_bind, run_eqGuard_agg w .neq t ox oy us vs hg, Result.andThen_ok, run_neq_struct, h1]
    · exact S.fail
  · rename_i id
    simp only [RepV] at hx hy
    obtain ⟨p, hp, hx⟩ := hx
    subst hy
    simp only [RepSl] at hx
    subst hx
    have S0 := S.rd; clear S; obtain ⟨l', rfl, S⟩ := S0
    split at S
    · rename_i own nil a e hge hu
      obtain ⟨q, hq, hr⟩ := S.inv.ok.rep id (by rw [hge]; simp)
      rw [hp] at hq; cases hq
      rw [hge] at hr
      have hn := hr.2.2.1
      have hb : p.base.isNone = nil := by cases nil <;> cases hbb : p.base <;> simp_all
      refine ⟨.bool nil, w, ?_, (ret_ok S (by simp [RepV])).rd⟩
      simp [eqGuard, binOp, run_equal_slice_nil w t e p.base p.len p.cap (under_some hu (by simp)), hb]
    · rename_i own nil a e hge hu
      obtain ⟨q, hq, hr⟩ := S.inv.ok.rep id (by rw [hge]; simp)
      rw [hp] at hq; cases hq
      rw [hge] at hr
      have hn := hr.2.2.1
      have hb : p.base.isNone = nil := by cases nil <;> cases hbb : p.base <;> simp_all
      refine ⟨.bool (!nil), w, ?_, (ret_ok S (by simp [RepV])).rd⟩
      simp [eqGuard, binOp, run_equal_slice_nil w t e p.base p.len p.cap (under_some hu (by simp)), hb]
    · exact S.fail
  · exact S.fail

theorem unP_ok {op : UnOp} {x : AV} {xv : Value} (S : Sit cal (unP op x) l v w0 M ρ g w) (hx : RepV ρ x xv) : SemOk P (Op.unary op xv) l v w0 M ρ g w := by
  unfold unP at S
  split at S
  · simp only [RepV] at hx; subst hx
    exact ⟨_, w, by simp [Op.unary, Op.intArith]; rfl, ret_ok S (by simp [RepV])⟩
  · simp only [RepV] at hx; subst hx
    exact ⟨_, w, by simp [Op.unary]; rfl, ret_ok S (by simp [RepV])⟩
  · exact S.fail

theorem aggN_ok {agg : Bool} {cs : List AV} {us : List Value} (S : Sit cal (aggN agg cs) l v w0 M ρ g w) (h : RepVs ρ cs us) :
    Fin w0 M l g ρ w (fun ρ' => RepV ρ' v (ofCells agg us)) ∧ (agg = false → us.length = 1) := by
  unfold aggN at S
  split at S
  · rename_i ha
    refine ⟨ret_ok S ?_, fun h0 => by rw [ha] at h0; cases h0⟩
    simp only [RepV, ofCells, ha, if_true]
    exact ⟨us.toArray, rfl, by simpa using h⟩
  · rename_i ha
    split at S
    · simp only [RepVs] at h
      obtain ⟨u, us, rfl, h1, rfl⟩ := h
      refine ⟨ret_ok S ?_, fun _ => rfl⟩
      simpa [ofCells, ha] using h1
    · exact S.fail
theorem fieldP_ok {t : TypeId} {x : AV} {xv : Value} {f : Nat} (S : Sit cal (fieldP P t x f) l v w0 M ρ g w) (hx : RepV ρ x xv) : SemOk P (Instr.field t xv f) l v w0 M ρ g w := by
  unfold fieldP at S
  split at S
  · rename_i fd cs hf
    simp only [RepV] at hx
    obtain ⟨us, rfl, hx⟩ := hx
    have S0 := S.chk; clear S; obtain ⟨hk, S⟩ := S0
    unfold fieldOf at hf
    split at hf
    · rename_i fs hu
      have hun := under_some hu (by simp)
      obtain ⟨F, h1⟩ := aggN_ok S ((hx.drop fd.offset).take (P.cellsOf fd.type))
      refine ⟨_, w, ?_, F⟩
      simp only [Instr.field, Sem.run_bind, run_underlying hun, Result.andThen_ok, hf, asAgg, Sem.run_pure]
      exact run_part hk us fd.offset h1
    · cases hf
  · exact S.fail
theorem fieldAddr_ok {s : TypeId} {x : AV} {xv : Value} {f : Nat} (S : Sit cal (match x, fieldOf P s f with
    | .ptr id i o, some f => .chk (!(Nat.beq (P.cellsOf f.type) 0)) (.ret (.ptr id i (o + f.offset)))
    | _, _ => .fail) l v w0 M ρ g w) (hx : RepV ρ x xv) : SemOk P (Instr.fieldAt s xv f) l v w0 M ρ g w := by
  split at S
  · rename_i id i o fd hf
    have S0 := S.chk; clear S; obtain ⟨hk, S⟩ := S0
    simp only [RepV] at hx
    obtain ⟨p, a, hp, hb, hi, rfl⟩ := hx
    have hne : P.cellsOf fd.type ≠ 0 := by
      intro h0; rw [h0] at hk; simp at hk
    unfold fieldOf at hf
    split at hf
    · rename_i fs hu
      have hun := under_some hu (by simp)
      refine ⟨.pointer (some ((a.add (i * p.size + o)).add fd.offset)), w, ?_, ret_ok S ?_⟩
      · simp [Instr.fieldAt, run_underlying hun, hf, Instr.sureAddr, fieldPlace, run_sizeOf' hne, hne]
      · simp only [RepV]
        exact ⟨p, a, hp, hb, hi, by rw [addr_add_add]; congr 3; omega⟩
    · cases hf
  · exact S.fail

theorem lenW_ok {p : Plc} {wn : Option (Nat × Nat)} {a : Arr} {xv : Value} {own nil : Bool} (hr : RepE ρ w p (.arr own nil a)) (hx : RepSl p wn xv) :
    ∃ x c, xv = .slice x (lenW wn a) c ∧ lenW wn a ≤ c ∧ offW wn + lenW wn a ≤ p.len ∧ (lenW wn a ≠ 0 → ∃ b, p.base = some b ∧ x = some (b.add (offW wn * p.size))) := by
  obtain ⟨h1, h2, h3, h4, h5, h6⟩ := hr
  cases wn with
  | none =>
    simp only [RepSl] at hx
    refine ⟨p.base, p.cap, ?_, ?_, ?_, ?_⟩
    · rw [hx]; simp [lenW, h1]
    · simp only [lenW, h1]
      cases hb : p.base with
      | none => have := h4 hb; omega
      | some x => exact (h5 x hb).1
    · simp [lenW, offW, h1]
    · intro hne
      cases hb : p.base with
      | none => have := h4 hb; simp only [lenW, h1] at hne; omega
      | some x => exact ⟨x, rfl, by simp [offW, addr_add_zero]⟩
  | some on =>
    obtain ⟨o, n⟩ := on
    simp only [RepSl] at hx
    obtain ⟨ho, x, c, rfl, hc, hz, _⟩ := hx
    refine ⟨x, c, rfl, hc, ho, fun hne => ?_⟩
    rcases hz with h0 | ⟨b, hb, hx⟩
    · exact absurd h0 hne
    · exact ⟨b, hb, hx⟩

theorem nilW_ok {p : Plc} {wn : Option (Nat × Nat)} {a : Arr} {x : Option Addr} {n c : Nat} {own nil : Bool} (hr : RepE ρ w p (.arr own nil a)) (hx : RepSl p wn (.slice x n c)) :
    (x = none ↔ p.base = none) ∧ (p.base = none → c = 0) := by
  cases wn with
  | none =>
    simp only [RepSl, Value.slice.injEq] at hx
    obtain ⟨rfl, rfl, rfl⟩ := hx
    exact ⟨Iff.rfl, fun h => (hr.2.2.2.1 h).1⟩
  | some on =>
    obtain ⟨o, m⟩ := on
    simp only [RepSl, Value.slice.injEq] at hx
    obtain ⟨_, x, c, ⟨rfl, rfl, rfl⟩, _, _, h⟩ := hx
    exact h

theorem indexAddrP_ok {t : TypeId} {x ix : AV} {xv iv : Value} (S : Sit cal (indexAddrP P t x ix) l v w0 M ρ g w) (hx : RepV ρ x xv) (hi : RepV ρ ix iv) : SemOk P (Instr.indexAt t xv iv) l v w0 M ρ g w := by
  unfold indexAddrP at S
  simp only [idxW_eq] at S
  split at S
  · rename_i el id wn k n hu
    have hun := under_some hu (by simp)
    simp only [RepV] at hx hi
    obtain ⟨p, hp, hx⟩ := hx
    subst hi
    have S0 := S.rd; clear S; obtain ⟨l', rfl, S⟩ := S0
    split at S
    · rename_i own nil a hg
      have S0 := S.chk; clear S; obtain ⟨hs, S⟩ := S0
      have S0 := S.chk; clear S; obtain ⟨hc, S⟩ := S0
      obtain ⟨q, hq, hr⟩ := S.inv.ok.rep id (by rw [hg]; simp)
      rw [hp] at hq; cases hq
      rw [hg] at hr
      simp only [Bool.and_eq_true, decide_eq_true_eq] at hc
      obtain ⟨y, c, rfl, hlc, hoff, hb⟩ := lenW_ok hr hx
      obtain ⟨b, hbb, rfl⟩ := hb (by omega)
      have hsz : a.size = P.cellsOf el := Nat.eq_of_beq_eq_true hs
      have hne : P.cellsOf el ≠ 0 := by have := a.size_pos; omega
      refine ⟨.pointer (some ((b.add (offW wn * p.size)).add (n.toNat * P.cellsOf el))), w, ?_, (ret_ok S ?_).rd⟩
      · simp [Instr.indexAt, asIntOf, run_underlying hun, hc.1, hc.2, run_sizeOf' hne]
      · simp only [RepV]
        refine ⟨p, b, hp, hbb, by omega, ?_⟩
        rw [addr_add_add, ← hsz, hr.2.1, Nat.add_mul, Nat.add_zero]
    · exact S.fail
  · exact S.fail
theorem indexP_ok {t : TypeId} {x ix : AV} {xv iv : Value} (S : Sit cal (indexP P t x ix) l v w0 M ρ g w) (hx : RepV ρ x xv) (hi : RepV ρ ix iv) : SemOk P (Instr.index t xv iv) l v w0 M ρ g w := by
  unfold indexP at S
  split at S
  · rename_i s k n hu
    have hun := under_some hu (by simp)
    simp only [RepV] at hx hi
    subst hx hi
    have S0 := S.chk; clear S; obtain ⟨hc, S⟩ := S0
    simp only [Bool.and_eq_true, decide_eq_true_eq] at hc
    have hlt : n.toNat < s.size := by omega
    have hlt' : n.toNat < s.data.toList.length := by simpa using hlt
    refine ⟨.int .u8 (strAt s n.toNat), w, ?_, ret_ok S (by simp [RepV])⟩
    have h0 : s[n.toNat]? = some s[n.toNat] := by simp [hlt]
    have he : ((s[n.toNat]).toNat : Int) = strAt s n.toNat := by
      unfold strAt
      rw [getD_of_lt hlt']
      rfl
    simp [Instr.index, asIntOf, run_underlying hun, hc.1, h0, he]
  · exact S.fail
theorem lenP_ok {t : TypeId} {x : AV} {xv : Value} {ts : Array TypeId} {ty : TypeId} {vs : Array Value} (ht : ts[0]? = some t) (hv : vs[0]? = some xv) (S : Sit cal (lenP P t x) l v w0 M ρ g w) (hx : RepV ρ x xv) :
    SemOk P (Builtin.len_ ts ty vs) l v w0 M ρ g w := by
  unfold lenP at S
  split at S
  · rename_i s hu
    simp only [RepV] at hx; subst hx
    exact ⟨_, w, by simp [Builtin.len_, ht, hv, run_underlying (under_some hu (by simp))]; rfl, ret_ok S (by simp [RepV, goInt])⟩
  · rename_i el id wn hu
    simp only [RepV] at hx
    obtain ⟨p, hp, hx⟩ := hx
    have S0 := S.rd; clear S; obtain ⟨l', rfl, S⟩ := S0
    split at S
    · rename_i own nil a hg
      obtain ⟨q, hq, hr⟩ := S.inv.ok.rep id (by rw [hg]; simp)
      rw [hp] at hq; cases hq
      rw [hg] at hr
      obtain ⟨y, c, rfl, hlc, hoff, hb⟩ := lenW_ok hr hx
      exact ⟨_, w, by simp [Builtin.len_, ht, hv, run_underlying (under_some hu (by simp))]; rfl, (ret_ok S (by simp [RepV, goInt])).rd⟩
    · exact S.fail
  · rename_i el hu
    simp only [RepV] at hx; subst hx
    exact ⟨_, w, by simp [Builtin.len_, ht, hv, run_underlying (under_some hu (by simp))]; rfl, ret_ok S (by simp [RepV, goInt])⟩
  · exact S.fail
theorem maxP_ok {xs : List AV} {vs : Array Value} {ts : Array TypeId} {ty : TypeId} (S : Sit cal (maxP xs) l v w0 M ρ g w) (hx : RepVs ρ xs vs.toList) : SemOk P (Builtin.max_ ts ty vs) l v w0 M ρ g w := by
  unfold maxP at S
  split at S
  · simp only [RepVs, RepV] at hx
    obtain ⟨_, _, he, rfl, _, _, rfl, rfl, rfl⟩ := hx
    exact ⟨_, w, by simp [Builtin.max_, he, Builtin.max2]; rfl, ret_ok S (by simp [RepV])⟩
  · exact S.fail
theorem minP_ok {xs : List AV} {vs : Array Value} {ts : Array TypeId} {ty : TypeId} (S : Sit cal (minP xs) l v w0 M ρ g w) (hx : RepVs ρ xs vs.toList) : SemOk P (Builtin.min_ ts ty vs) l v w0 M ρ g w := by
  unfold minP at S
  split at S
  · simp only [RepVs, RepV] at hx
    obtain ⟨_, _, he, rfl, _, _, rfl, rfl, rfl⟩ := hx
    exact ⟨_, w, by simp [Builtin.min_, he, Builtin.min2]; rfl, ret_ok S (by simp [RepV])⟩
  · exact S.fail
end
end Go.Ev
