/- The evaluator: each operation that calls no function does in memory what the evaluator says. First part: what touches no memory, and reading. -/
import Derived.Test.YtfgccfajhedgdaaE2
namespace Go.Ev
set_option linter.unusedSimpArgs false
set_option linter.unusedVariables false
open Go Go.RowKit

structure Sit (cal : Nat → List D → Option (List D)) {α : Type} (p : Prog α) (l : List Ac) (u : α) (w0 : World) (M : Nat → Nat → Prop) (ρ : Env) (g : Hp) (w : World) : Prop where
  run : Run cal p l u
  cons : Cons l g
  fresh : ∀ id ∈ news l, ρ id = none
  nodup : (news l).Nodup
  inv : Inv w0 M ρ g w
def Fin (w0 : World) (M : Nat → Nat → Prop) (l : List Ac) (g : Hp) (ρ : Env) (w' : World) (X : Env → Prop) : Prop :=
  ∃ ρ', Inv w0 M ρ' (appl l g) w' ∧ Sub ρ ρ' ∧ (∀ id, id ∉ news l → ρ' id = ρ id) ∧ X ρ'

section
variable {cal : Nat → List D → Option (List D)} {α : Type} {l : List Ac} {u : α} {w0 : World} {M : Nat → Nat → Prop} {ρ : Env} {g : Hp} {w w' : World} {X : Env → Prop}
theorem Fin.here (I : Inv w0 M ρ g w) (h : X ρ) : Fin w0 M [] g ρ w X := ⟨ρ, I, Sub.refl ρ, fun _ _ => rfl, h⟩
theorem Fin.rd {id : Nat} {e : Ent} (F : Fin w0 M l g ρ w' X) : Fin w0 M (.rd id e :: l) g ρ w' X := F
theorem Fin.call {f : Nat} {ds rs : List D} (F : Fin w0 M l g ρ w' X) : Fin w0 M (.call f ds rs :: l) g ρ w' X := F
theorem Fin.wr {id : Nat} {e : Ent} (F : Fin w0 M l (upd g id e) ρ w' X) : Fin w0 M (.wr id e :: l) g ρ w' X := F
theorem Fin.new {id : Nat} {e : Ent} {p : Plc} (hn : ρ id = none) (F : Fin w0 M l (upd g id e) (updρ ρ id p) w' X) : Fin w0 M (.new id e :: l) g ρ w' X := by
  obtain ⟨ρ', h1, h2, h3, h4⟩ := F
  refine ⟨ρ', h1, (sub_updρ hn).trans h2, fun i hi => ?_, h4⟩
  simp only [news, List.mem_cons, not_or] at hi
  rw [h3 i hi.2, updρ_other _ _ hi.1]
theorem Sit.ret {a : α} (S : Sit cal (.ret a) l u w0 M ρ g w) : l = [] ∧ u = a := by cases S.run; exact ⟨rfl, rfl⟩
theorem Sit.fail {p : Prop} (S : Sit cal (.fail : Prog α) l u w0 M ρ g w) : p := by cases S.run
theorem Sit.rd {id : Nat} {k : Ent → Prog α} (S : Sit cal (.rd id k) l u w0 M ρ g w) : ∃ l', l = .rd id (g id) :: l' ∧ Sit cal (k (g id)) l' u w0 M ρ g w := by
  obtain ⟨h1, h2, h3, h4, h5⟩ := S
  cases h1 with
  | @rd _ e _ l' _ h1 =>
    obtain ⟨rfl, h2⟩ := h2
    exact ⟨l', rfl, h1, h2, h3, h4, h5⟩
theorem Sit.chk {c : Bool} {k : Prog α} (S : Sit cal (.chk c k) l u w0 M ρ g w) : c = true ∧ Sit cal k l u w0 M ρ g w := by
  obtain ⟨h1, h2, h3, h4, h5⟩ := S
  cases h1 with
  | chk hc h1 => exact ⟨hc, h1, h2, h3, h4, h5⟩
theorem Sit.br {c : Bool} {k₁ k₂ : Prog α} (S : Sit cal (.br c k₁ k₂) l u w0 M ρ g w) : (c = true ∧ Sit cal k₁ l u w0 M ρ g w) ∨ (c = false ∧ Sit cal k₂ l u w0 M ρ g w) := by
  obtain ⟨h1, h2, h3, h4, h5⟩ := S
  cases h1 with
  | brT hc h1 => exact .inl ⟨hc, h1, h2, h3, h4, h5⟩
  | brF hc h1 => exact .inr ⟨hc, h1, h2, h3, h4, h5⟩
theorem Sit.new {e : Ent} {k : Nat → Prog α} (S : Sit cal (.new e k) l u w0 M ρ g w) : ∃ id l', l = .new id e :: l' ∧ ρ id = none ∧ g id = .dead ∧
    (∀ p w', Inv w0 M (updρ ρ id p) (upd g id e) w' → Sit cal (k id) l' u w0 M (updρ ρ id p) (upd g id e) w') := by
  obtain ⟨h1, h2, h3, h4, h5⟩ := S
  cases h1 with
  | @new id _ _ l' _ h1 =>
    simp only [news, List.nodup_cons] at h4
    obtain ⟨hd, h2⟩ := h2
    refine ⟨id, l', rfl, h3 id (by simp [news]), hd, fun p w' I => ⟨h1, h2, fun i hi => ?_, h4.2, I⟩⟩
    have : i ≠ id := by rintro rfl; exact h4.1 hi
    rw [updρ_other _ _ this]
    exact h3 i (by simp [news, hi])
theorem Sit.wr {id : Nat} {e : Ent} {k : Prog α} (S : Sit cal (.wr id e k) l u w0 M ρ g w) : ∃ l', l = .wr id e :: l' ∧ g id ≠ .dead ∧
    (∀ w', Inv w0 M ρ (upd g id e) w' → Sit cal k l' u w0 M ρ (upd g id e) w') := by
  obtain ⟨h1, h2, h3, h4, h5⟩ := S
  cases h1 with
  | @wr _ _ _ l' _ h1 =>
    obtain ⟨hd, h2⟩ := h2
    exact ⟨l', rfl, hd, fun w' I => ⟨h1, h2, h3, h4, I⟩⟩
theorem Sit.call {f : Nat} {ds : List D} {k : List D → Prog α} (S : Sit cal (.call f ds k) l u w0 M ρ g w) : ∃ rs l', l = .call f ds rs :: l' ∧ cal f ds = some rs ∧ Sit cal (k rs) l' u w0 M ρ g w := by
  obtain ⟨h1, h2, h3, h4, h5⟩ := S
  cases h1 with
  | @call _ _ rs _ l' _ hc h1 => exact ⟨rs, l', rfl, hc, h1, h2, h3, h4, h5⟩

/-- the operation's own words, run to their end -/
def SemOk (P : Program) (s : Sem Value) (l : List Ac) (v : AV) (w0 : World) (M : Nat → Nat → Prop) (ρ : Env) (g : Hp) (w : World) : Prop :=
  ∃ vv w', s.run P w = .ok vv w' ∧ Fin w0 M l g ρ w' (fun ρ' => RepV ρ' v vv)

theorem under_some {P : Program} {t : TypeId} {d : TypeDesc} (h : under P t = d) (hd : d ≠ .invalid) : P.underlying t = some d := by
  unfold under at h
  cases hu : P.underlying t with
  | none => rw [hu] at h; simp at h; exact absurd h.symm hd
  | some d' => rw [hu] at h; simp at h; rw [h]
theorem known_some {P : Program} {t : TypeId} (h : known P t = true) : ∃ d, P.underlying t = some d ∧ under P t = d := by
  unfold known at h
  cases hu : P.underlying t with
  | none => simp [under, hu] at h
  | some d => exact ⟨d, rfl, by simp [under, hu]⟩
theorem info_of_underlying {P : Program} {t : TypeId} {d : TypeDesc} (h : P.underlying t = some d) : ∃ i, P.info? t = some i ∧ P.cellsOf t = i.size := by
  unfold Program.underlying at h
  cases hi : P.info? t with
  | none => rw [hi] at h; cases h
  | some i => exact ⟨i, rfl, by simp [Program.cellsOf, hi]⟩
theorem run_isAgg {P : Program} {t : TypeId} {d : TypeDesc} (h : P.underlying t = some d) (w : World) : (isAgg t).run P w = .ok (isAggD d) w := by
  unfold isAgg
  simp only [Sem.run_bind, run_underlying h, Result.andThen_ok]
  cases d <;> simp [isAggD]
theorem run_sizeOf {P : Program} {t : TypeId} {d : TypeDesc} (h : P.underlying t = some d) (w : World) : (sizeOf t).run P w = .ok (P.cellsOf t) w := by
  obtain ⟨i, hi, hc⟩ := info_of_underlying h
  simp [sizeOf, typeInfo, hi, hc]
theorem run_sizeOf' {P : Program} {t : TypeId} (h : P.cellsOf t ≠ 0) (w : World) : (sizeOf t).run P w = .ok (P.cellsOf t) w := by
  cases hi : P.info? t with
  | none => simp [Program.cellsOf, hi] at h
  | some i => simp [sizeOf, typeInfo, hi, Program.cellsOf]

/-! operands -/
theorem constAV_rep (ρ : Env) (v : Value) : RepV ρ (constAV v) v := by
  unfold constAV
  split <;> simp [RepV]
theorem opd_rep {fr : List AV} {a : Act} (h : RepVs ρ fr a.tmps.toList) (x : Operand) : RepV ρ (opd fr x) (a.eval x) := by
  cases x with
  | tmp t => simpa [opd, Act.eval, Array.getD_eq_getD_getElem?] using h.get t
  | const v => exact constAV_rep ρ v
  | global g => simp [opd, RepV]
  | func f => simp [opd, RepV, Act.eval, RepVs]
theorem operands_rep {fr : List AV} {a : Act} (h : RepVs ρ fr a.tmps.toList) (xs : Array Operand) : RepVs ρ (operands fr xs) (xs.map a.eval).toList := by
  obtain ⟨xs⟩ := xs
  simp only [operands, List.map_toArray]
  induction xs with
  | nil => simp [RepVs]
  | cons x xs ih => simpa using RepVs.cons (opd_rep h x) ih

/-! nil -/
theorem arr_of_nil {e : ETy} {a : Arr} (h : e.arr = some a) : a.len = 0 ∧ a.cells = [] := by
  cases e <;> simp [ETy.arr] at h <;> subst h <;> simp [Arr.len, Arr.cells]
theorem rep_nil (ρ : Env) (w : World) (a : Arr) (h0 : a.len = 0) (hc : a.cells = []) : RepE ρ w ⟨none, 0, 0, a.size⟩ (.arr true true a) := by
  refine ⟨h0, rfl, by simp, fun _ => ⟨rfl, rfl⟩, fun x hx => by simp at hx, fun _ => ⟨0, ?_⟩⟩
  rw [hc]; exact World.ownsRow_nil w 0 0 a.size
/-- what a step ahead of the rest leaves: a situation further on, from which all comes back -/
def Ahead (cal : Nat → List D → Option (List D)) {α β : Type} (K : β → Prog α) (Y : Env → β → Prop) (l : List Ac) (u : α) (w0 : World) (M : Nat → Nat → Prop) (ρ : Env) (g : Hp) (w : World) : Prop :=
  ∃ b l' g' ρ', Sit cal (K b) l' u w0 M ρ' g' w ∧ Y ρ' b ∧ Sub ρ ρ' ∧ ∀ X w', Fin w0 M l' g' ρ' w' X → Fin w0 M l g ρ w' X
theorem Ahead.here {β : Type} {K : β → Prog α} {Y : Env → β → Prop} {b : β} (S : Sit cal (K b) l u w0 M ρ g w) (hy : Y ρ b) : Ahead cal K Y l u w0 M ρ g w :=
  ⟨b, l, g, ρ, S, hy, Sub.refl ρ, fun _ _ F => F⟩
theorem fixNil_ok {c : CTy} {v : AV} {vv : Value} {K : AV → Prog α} (S : Sit cal (fixNil c v K) l u w0 M ρ g w) (hv : RepV ρ v vv) :
    Ahead cal K (fun ρ' v' => RepV ρ' v' vv) l u w0 M ρ g w := by
  unfold fixNil at S
  split at S
  · split at S
    · split at S
      · rename_i e a ha
        obtain ⟨h0, hc⟩ := arr_of_nil ha
        obtain ⟨id, l', rfl, hn, hd, hS⟩ := S.new
        have I := S.inv.new (id := id) (p := ⟨none, 0, 0, a.size⟩) (e := .arr true true a) hn (Fr.refl _ w) (rep_nil _ w a h0 hc) (.inl ⟨rfl, fun b off hf => by obtain ⟨x, hx, _⟩ := hf; simp at hx⟩)
        refine ⟨_, l', _, _, hS _ w I, ?_, sub_updρ hn, fun X w' F => F.new hn⟩
        simp only [RepV] at hv ⊢
        exact ⟨_, updρ_same _ _ _, by simp [RepSl, hv]⟩
      · exact S.fail
    · exact S.fail
  · exact Ahead.here S hv
theorem fixT_ok {P : Program} {t : TypeId} {v : AV} {vv : Value} {K : AV → Prog α} (S : Sit cal (fixT P t v K) l u w0 M ρ g w) (hv : RepV ρ v vv) :
    Ahead cal K (fun ρ' v' => RepV ρ' v' vv) l u w0 M ρ g w := by
  unfold fixT at S
  split at S
  · split at S
    · exact fixNil_ok S hv
    · exact S.fail
  · exact Ahead.here S hv
theorem fixs_ok : ∀ (ts : List CTy) (vs : List AV) {us : List Value} {K : List AV → Prog α} {l : List Ac} {ρ : Env} {g : Hp}, Sit cal (fixs ts vs K) l u w0 M ρ g w → RepVs ρ vs us →
    Ahead cal K (fun ρ' v' => RepVs ρ' v' us ∧ v'.length = vs.length) l u w0 M ρ g w
  | _, [], us, K, l, ρ, g, S, h => by
    unfold fixs at S
    exact Ahead.here (b := []) (by cases ‹List CTy› <;> exact S) ⟨h, rfl⟩
  | [], v :: vs, us, K, l, ρ, g, S, h => by unfold fixs at S; exact S.fail
  | c :: cs, v :: vs, us, K, l, ρ, g, S, h => by
    simp only [RepVs] at h
    obtain ⟨uu, us, rfl, h1, h2⟩ := h
    unfold fixs at S
    obtain ⟨v', l1, g1, ρ1, S1, hv, hs, hF⟩ := fixNil_ok S h1
    obtain ⟨vs', l2, g2, ρ2, S2, ⟨hvs, hl⟩, hs2, hF2⟩ := fixs_ok cs vs S1 (h2.mono hs _ _)
    exact ⟨v' :: vs', l2, g2, ρ2, S2, ⟨RepVs.cons (hv.mono hs2 _ _) hvs, by simp [hl]⟩, hs.trans hs2, fun X w' F => hF X w' (hF2 X w' F)⟩

/-! numbers -/
theorem intOp_ok {P : Program} {op : BinOp} {k k' : IntKind} {x y : Int} {t : TypeId} {ox oy : Operand} {v : AV} (hk : op = .shl ∨ op = .shr ∨ k = k') (S : Sit cal (intOp op k x y .ret) l v w0 M ρ g w) :
    SemOk P (do eqGuard op t ox oy (.int k x) (.int k' y); binOp op t (.int k x) (.int k' y)) l v w0 M ρ g w := by
  have fin : ∀ {c : AV} {l : List Ac}, Sit cal (.ret c) l v w0 M ρ g w → ∀ vv, RepV ρ c vv → Fin w0 M l g ρ w (fun ρ' => RepV ρ' v vv) := by
    intro c l S vv h
    obtain ⟨rfl, rfl⟩ := S.ret
    exact Fin.here S.inv h
  cases op <;> simp only [intOp] at S
  case shl =>
    obtain ⟨hc, S⟩ := S.chk
    have hy : ¬ y < 0 := by simpa using hc
    exact ⟨_, w, by simp [eqGuard, binOp, Op.shift, hy]; rfl, fin S _ (by simp [RepV, shiftN])⟩
  case shr =>
    obtain ⟨hc, S⟩ := S.chk
    have hy : ¬ y < 0 := by simpa using hc
    exact ⟨_, w, by simp [eqGuard, binOp, Op.shift, hy]; rfl, fin S _ (by simp [RepV, shiftN])⟩
  all_goals (simp only [reduceCtorEq, false_or] at hk; subst hk)
  case quo =>
    obtain ⟨hc, S⟩ := S.chk
    have hy : ¬ y = 0 := by simpa using hc
    exact ⟨_, w, by simp [eqGuard, binOp, Op.intDiv, hy]; rfl, fin S _ (by simp [RepV])⟩
  case rem =>
    obtain ⟨hc, S⟩ := S.chk
    have hy : ¬ y = 0 := by simpa using hc
    exact ⟨_, w, by simp [eqGuard, binOp, Op.intDiv, hy]; rfl, fin S _ (by simp [RepV])⟩
  case eql => exact ⟨_, w, by simp [eqGuard, binOp, Op.intCmp]; rfl, fin S _ (by simp only [RepV]; congr 1)⟩
  case neq => exact ⟨_, w, by simp [eqGuard, binOp, Op.intCmp]; rfl, fin S _ (by simp only [RepV]; congr 1)⟩
  case and => exact ⟨_, w, by simp [eqGuard, binOp, Op.intBits]; rfl, fin S _ (by simp [RepV, bitN])⟩
  case or => exact ⟨_, w, by simp [eqGuard, binOp, Op.intBits]; rfl, fin S _ (by simp [RepV, bitN])⟩
  case xor => exact ⟨_, w, by simp [eqGuard, binOp, Op.intBits]; rfl, fin S _ (by simp [RepV, bitN])⟩
  case andNot => exact ⟨_, w, by simp [eqGuard, binOp, Op.intBits]; rfl, fin S _ (by simp [RepV, bitN])⟩
  all_goals (exact ⟨_, w, by simp [eqGuard, binOp, Op.intCmp, Op.intArith]; rfl, fin S _ (by simp [RepV])⟩)
end
end Go.Ev
