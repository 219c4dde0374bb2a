/- The evaluator: every operation that calls no function. -/
import Derived.Test.YtfgccfajhedgdaaE10
namespace Go.Ev
set_option linter.unusedSimpArgs false
set_option linter.unusedVariables false
open Go Go.RowKit
section
variable {cal : Nat → List D → Option (List D)} {l : List Ac} {v : AV} {w0 : World} {M : Nat → Nat → Prop} {ρ : Env} {g : Hp} {w w' : World} {P : Program}
/-- one operation, run to its end -/
def NextOk (P : Program) (s : Sem Next) (l : List Ac) (v : AV) (w0 : World) (M : Nat → Nat → Prop) (ρ : Env) (g : Hp) (w : World) : Prop :=
  ∃ n vv w', s.run P w = .ok n w' ∧ (n = .value vv ∨ (n = .skip ∧ vv = undef)) ∧ Fin w0 M l g ρ w' (fun ρ' => RepV ρ' v vv)
theorem NextOk.of {s : Sem Value} (h : SemOk P s l v w0 M ρ g w) : NextOk P (do pure (.value (← s))) l v w0 M ρ g w := by
  obtain ⟨vv, w', h1, h2⟩ := h
  exact ⟨.value vv, vv, w', by simp [h1], .inl rfl, h2⟩
theorem fixT_ret {t : TypeId} {x : AV} {xv : Value} (S : Sit cal (fixT P t x .ret) l v w0 M ρ g w) (hx : RepV ρ x xv) : Fin w0 M l g ρ w (fun ρ' => RepV ρ' v xv) := by
  obtain ⟨c, l1, g1, ρ1, S1, hc, hs, hF⟩ := fixT_ok S hx
  exact hF _ _ (ret_ok S1 hc)
theorem parts_rep {fr : List AV} {a : Act} (h : RepVs ρ fr a.tmps.toList) (ps : Array (Nat × Operand)) :
    RepP ρ (ps.toList.map fun (i, x) => (i, opd fr x)) (ps.map fun (i, x) => (i, a.eval x)).toList := by
  obtain ⟨ps⟩ := ps
  simp only [List.map_toArray]
  induction ps with
  | nil => simp [RepP]
  | cons x xs ih => simp only [List.map_cons, RepP]; exact ⟨_, _, rfl, rfl, opd_rep h _, ih⟩
theorem optRep {fr : List AV} {a : Act} (h : RepVs ρ fr a.tmps.toList) (x : Option Operand) : RepO ρ (x.map (opd fr)) (x.map a.eval) := by
  cases x with
  | none => trivial
  | some x => exact opd_rep h x
theorem step_ok {A : Ann} {o : Oper} {fr : List AV} {a : Act} (hc : ∀ c f, o.op = .call c → c.callee ≠ .value f) (h : RepVs ρ fr a.tmps.toList) (S : Sit cal (stepP P A o fr) l v w0 M ρ g w) :
    NextOk P (execOp a.eval o) l v w0 M ρ g w := by
  obtain ⟨dst, op, type, pos, after, guard⟩ := o
  unfold stepP at S
  cases op <;> simp only at S <;> simp only [execOp]
  case move x => exact ⟨_, _, w, rfl, .inl rfl, fixT_ret S (opd_rep h x)⟩
  case assign x => exact ⟨_, _, w, rfl, .inl rfl, fixT_ret S (opd_rep h x)⟩
  case pick c x y =>
    have hcr := opd_rep h c
    split at S
    · rename_i b hb
      rw [hb] at hcr
      simp only [RepV] at hcr
      have S0 := S.br
      clear S
      rcases S0 with ⟨rfl, S⟩ | ⟨rfl, S⟩
      · exact ⟨.value (a.eval x), _, w, by simp [hcr, asBool], .inl rfl, fixT_ret S (opd_rep h x)⟩
      · exact ⟨.value (a.eval y), _, w, by simp [hcr, asBool], .inl rfl, fixT_ret S (opd_rep h y)⟩
    · exact S.fail
  case alloc t => exact NextOk.of (alloc_ok S)
  case box t x => exact NextOk.of (box_ok S (opd_rep h x))
  case build t ps => exact NextOk.of (buildP_ok S (parts_rep h ps))
  case buildSlice t n ps => exact NextOk.of (buildSliceP_ok S (parts_rep h ps))
  case load t x => exact NextOk.of (loadP_ok S (opd_rep h x))
  case store t x y =>
    obtain ⟨rfl, w', h1, h2⟩ := storeP_ok S (opd_rep h x) (opd_rep h y)
    refine ⟨.skip, undef, w', by simp [h1], .inr ⟨rfl, rfl⟩, ?_⟩
    obtain ⟨ρ', k1, k2, k3, _⟩ := h2
    exact ⟨ρ', k1, k2, k3, by simp [RepV]⟩
  case nilCheck x =>
    have hx := opd_rep h x
    split at S
    · rename_i id i o e
      rw [e] at hx
      have hx' := hx
      simp only [RepV] at hx
      obtain ⟨p, y, hp, hb, hi, hv⟩ := hx
      exact ⟨_, _, w, by rw [hv]; rfl, .inl rfl, ret_ok S (by rw [← hv]; exact hx')⟩
    · rename_i f cs e
      rw [e] at hx
      have hx' := hx
      simp only [RepV] at hx
      obtain ⟨vs, hv, hr⟩ := hx
      exact ⟨_, _, w, by rw [hv]; rfl, .inl rfl, ret_ok S (by rw [← hv]; exact hx')⟩
    · exact S.fail
  case binOp op t x y b => exact NextOk.of (binP_ok S (opd_rep h x) (opd_rep h y))
  case unOp op t x => exact NextOk.of (unP_ok S (opd_rep h x))
  case convert s d x => exact NextOk.of (convP_ok S (opd_rep h x))
  case makeFunc fn first caps =>
    split at S <;> try exact S.fail
    all_goals (rename_i he; try cases he)
    rename_i f
    split at S
    · rename_i hf
      have hf' : first.map a.eval = #[] := by simp at hf; simp [hf]
      refine ⟨.value (.func (.func f) #[] (caps.map a.eval)), _, w, ?_, .inl rfl, ret_ok S ?_⟩
      · rw [hf']; rfl
      · simp only [RepV]; exact ⟨_, rfl, operands_rep h caps⟩
    · exact S.fail
  case makeSlice t x y => exact NextOk.of (makeSliceP_ok S (opd_rep h x) (opd_rep h y))
  case slice t x lo hi mx => exact NextOk.of (sliceP_ok S (opd_rep h x) (optRep h lo) (optRep h hi) (optRep h mx))
  case fieldAddr s x f => exact NextOk.of (fieldAddr_ok S (opd_rep h x))
  case field t x f => exact NextOk.of (fieldP_ok S (opd_rep h x))
  case indexAddr t x ix => exact NextOk.of (indexAddrP_ok S (opd_rep h x) (opd_rep h ix))
  case index t x ix => exact NextOk.of (indexP_ok S (opd_rep h x) (opd_rep h ix))
  case extract x i =>
    have hx := opd_rep h x
    split at S
    · rename_i vs e
      rw [e] at hx
      simp only [RepV] at hx
      obtain ⟨us, hv, hr⟩ := hx
      split at S
      · rename_i c hci
        obtain ⟨u, hu, hcu⟩ := hr.get? hci
        refine ⟨.value u, u, w, ?_, .inl rfl, ret_ok S hcu⟩
        rw [hv]
        simp only [Array.getElem?_toList] at hu
        simp [Instr.extract, hu]
      · exact S.fail
    · exact S.fail
  case call c =>
    split at S
    · rename_i b hb
      have hr := operands_rep h c.args
      unfold builtinP at S
      simp only [resolve, hb, Sem.run_bind, Sem.run_pure]
      split at S
      · rename_i t x ht hx
        rw [hx] at hr
        have hts : c.argTypes = #[t] := by cases e : c.argTypes; rw [e] at ht; simp at ht; rw [ht]
        simp only [RepVs] at hr
        obtain ⟨u, us, e1, h1, h2⟩ := hr
        exact NextOk.of (lenP_ok (P := P) (ts := c.argTypes) (ty := type) (vs := c.args.map a.eval) (by rw [hts]; rfl) (by rw [← Array.getElem?_toList, e1]; rfl) S h1)
      · rename_i t t2 s x ht hx
        rw [hx] at hr
        have hts : c.argTypes = #[t, t2] := by cases e : c.argTypes; rw [e] at ht; simp at ht; rw [ht]
        simp only [RepVs] at hr
        obtain ⟨u, us, e1, h1, u2, us2, rfl, h2, rfl⟩ := hr
        have hvs : c.args.map a.eval = #[u, u2] := by cases e : c.args.map a.eval; rw [e] at e1; simp at e1; rw [e1]
        simp only [invoke, builtin]
        rw [hvs, hts]
        exact NextOk.of (appendP_ok S h1 h2)
      · exact NextOk.of (maxP_ok S hr)
      · exact NextOk.of (minP_ok S hr)
      · exact S.fail
    · rename_i f hf
      exact absurd hf (hc c f rfl)
    · exact S.fail
  all_goals (first | exact S.fail | (cases S.run))
end
end Go.Ev
