/- The evaluator: one operation and a row of operations in the order they stand in. The evaluator: the entries numbered anew. The evaluator: operations in any order that their marks allow. -/
import Derived.Test.YtcaapedadpnjoaaE15
import Derived.Tactics
import Derived.Orders
namespace Go.Ev
set_option linter.unusedSimpArgs false
set_option linter.unusedVariables false
set_option linter.unnecessarySimpa false
open Go Go.RowKit
structure Good (P : Program) : Prop where
  names : ∀ (f : Nat) fn, P.funcs[f]? = some fn → (fn.name == "runtime.NumGoroutine") = false
  mixed : P.follows .mixedOrders = true
def CalOk (P : Program) (A : Ann) (cal : Nat → List D → Option (List D)) : Prop := ∀ f ds rs, cal f ds = some rs → Contract P f (A.mode f) ds rs
structure StR (w0 : World) (M : Nat → Nat → Prop) (ρ : Env) (s : St) (gv : List Value) (a : Act) (w : World) : Prop where
  fr : RepVs ρ s.fr a.tmps.toList
  pn : RepVs ρ s.pn gv
  inv : Inv w0 M ρ (ent s.h) w
  top : ∀ id, s.h.length ≤ id → ρ id = none
  calm : a.defers = []
theorem StR.put {w0 : World} {M : Nat → Nat → Prop} {ρ : Env} {s : St} {gv : List Value} {a : Act} {w : World} (h : StR w0 M ρ s gv a w) (dst : Option Tmp) {v : AV} {vv : Value} (hv : RepV ρ v vv) : StR w0 M ρ (put dst v s) gv (a.put dst vv) w := by
  cases dst with
  | none => exact h
  | some d => exact ⟨by simpa [Go.Ev.put, Act.put] using h.fr.set d hv, h.pn, h.inv, h.top, h.calm⟩
theorem StR.skip {w0 : World} {M : Nat → Nat → Prop} {ρ : Env} {s : St} {gv : List Value} {a : Act} {w : World} (h : StR w0 M ρ s gv a w) (dst : Option Tmp) : StR w0 M ρ (Go.Ev.put dst .un s) gv (a.put dst undef) w :=
  h.put dst (by simp [RepV])
theorem StR.skip' {w0 : World} {M : Nat → Nat → Prop} {ρ : Env} {s : St} {gv : List Value} {a : Act} {w : World} (h : StR w0 M ρ s gv a w) (dst : Option Tmp) : StR w0 M ρ (Go.Ev.put dst (.tup []) s) gv (a.put dst undef) w :=
  h.put dst (by simp only [RepV]; exact ⟨#[], rfl, by simp [RepVs]⟩)
theorem run_enter {P : Program} (G : Good P) {o : Oper} {a : Act} {w : World} {c : Call} {f : Operand} {g : Nat} {caps : Array Value} {fn : Func} (ho : o.op = .call c) (hf : c.callee = .value f) (hv : a.eval f = .func (.func g) #[] caps)
    (hfn : P.funcs[g]? = some fn) (hb : fn.body.isSome = true) : (execOp a.eval o).run P w = .ok (.enter g (c.args.map a.eval ++ caps)) w := by
  have h1 : fn.name ≠ "runtime.NumGoroutine" := by simpa using G.names g fn hfn
  obtain ⟨b, hb⟩ := Option.isSome_iff_exists.1 hb
  simp [execOp, ho, resolve, hf, hv, Deferred.ofValue, invoke, callFunc, hfn, h1, hb]
section
variable {P : Program} {A : Ann} {cal : Nat → List D → Option (List D)} {inl : Inl} {w0 : World} {M : Nat → Nat → Prop}
theorem sit_wp (G : Good P) (hcal : CalOk P A cal) {o : Oper} {fr : List AV} {a : Act} {l : List Ac} {v : AV} {ρ : Env} {g : Hp} {w : World} {next : Act → World → Prop} {Q : Exit → Act → World → Prop}
    (S : Sit cal (stepP P A o fr) l v w0 M ρ g w) (h : RepVs ρ fr a.tmps.toList) (hn : ∀ vv w', Fin w0 M l g ρ w' (fun ρ' => RepV ρ' v vv) → next (a.put o.dst vv) w') : o.wp P a w next Q := by
  by_cases hc : ∃ c f, o.op = .call c ∧ c.callee = .value f
  · obtain ⟨c, f, ho, hf⟩ := hc
    unfold stepP at S
    rw [ho] at S
    simp only [hf] at S
    have hfv := opd_rep h f
    split at S
    · rename_i g' caps e
      rw [e] at hfv
      simp only [RepV] at hfv
      obtain ⟨vs, hv, hr⟩ := hfv
      obtain ⟨fn, hfn, hb, hcalls⟩ := callP_ok (args := c.args.map a.eval ++ vs) (fun ds rs => hcal g' ds rs) S (by simpa using (operands_rep h c.args).append hr)
      unfold Oper.wp
      rw [run_enter G ho hf hv hfn hb, Oper.upon_enter]
      refine hcalls.mono fun e w' he => ?_
      obtain ⟨vv, rfl, F⟩ := he
      exact hn vv w' F
    · exact S.fail
  · obtain ⟨n, vv, w', h1, h2, h3⟩ := step_ok (fun c f h1 h2 => hc ⟨c, f, h1, h2⟩) h S
    unfold Oper.wp
    rw [h1]
    rcases h2 with rfl | ⟨rfl, rfl⟩
    · exact hn _ _ h3
    · exact hn _ _ h3
theorem plain_ok (G : Good P) (hcal : CalOk P A cal) {o : Oper} {s : St} {K : AV → St → List Nat × List Nat → R} {out : List D} {ρ : Env} {gv : List Value} {a : Act} {w : World} {next : Act → World → Prop} {Q : Exit → Act → World → Prop}
    (h : evPlain P A cal o s K = some out) (R : StR w0 M ρ s gv a w)
    (hn : ∀ v s' t ρ' vv w', K v s' t = some out → StR w0 M ρ' s' gv a w' → RepV ρ' v vv → next (a.put o.dst vv) w') : o.wp P a w next Q := by
  unfold evPlain at h
  obtain ⟨l, v, h', R', W', h1, h2, h3, h4, h5, h6, h7, h8, h9⟩ := runP_run _ h
  have S : Sit cal (stepP P A o s.fr) l v w0 M ρ (ent s.h) w := ⟨h1, h2, fun id hid => R.top id (h5 id hid).1, h9, R.inv⟩
  refine sit_wp G hcal S R.fr fun vv w' F => ?_
  obtain ⟨ρ', k1, k2, k3, k4⟩ := F
  refine hn v { s with h := h' } (R', W') ρ' vv w' h4 ⟨R.fr.mono k2 _ _, R.pn.mono k2 _ _, by rw [h3]; exact k1, fun id hid => ?_, R.calm⟩ k4
  have hid' : h'.length ≤ id := hid
  rw [k3 id fun hm => by have := (h5 id hm).2; omega]
  exact R.top id (by omega)
def InlOk (P : Program) (inl : Inl) : Prop := ∀ (w0 : World) (M : Nat → Nat → Prop) (f : Nat) (vs : List AV) (s : St) (K : AV → St → R) (out : List D) (ρ : Env) (gv : List Value) (a : Act) (w : World) (args : Array Value),
  inl f vs s K = some out → StR w0 M ρ s gv a w → RepVs ρ vs args.toList →
    ∃ fn, P.funcs[f]? = some fn ∧ fn.body.isSome = true ∧ Calls P f args w fun e w' => ∃ vv v s' ρ', e = .returned vv ∧ K v s' = some out ∧ StR w0 M ρ' s' gv a w' ∧ RepV ρ' v vv
theorem op_ok (G : Good P) (hcal : CalOk P A cal) (hinl : InlOk P inl) {draw : Bool} {o : Oper} {s : St} {K : AV → St → List Nat × List Nat → R} {out : List D} {ρ : Env} {gv : List Value} {a : Act} {w : World} {next : Act → World → Prop} {Q : Exit → Act → World → Prop}
    (h : evOp P A cal inl draw o s K = some out) (R : StR w0 M ρ s gv a w)
    (hn : ∀ v s' t ρ' vv w', K v s' t = some out → StR w0 M ρ' s' gv a w' → RepV ρ' v vv → next (a.put o.dst vv) w') : o.wp P a w next Q := by
  unfold evOp at h
  split at h
  · rename_i c ho
    split at h
    · rename_i g hf
      cases hb : (A.inl g && !draw) with
      | false => rw [hb] at h; exact plain_ok G hcal h R hn
      | true =>
        rw [hb] at h
        simp only [cond_true] at h
        obtain ⟨fn, hfn, hbody, hcalls⟩ := hinl w0 M g _ s _ out ρ gv a w (c.args.map a.eval) h R (operands_rep R.fr c.args)
        unfold Oper.wp
        have := run_enter G (a := a) (w := w) (caps := #[]) ho hf rfl hfn hbody
        rw [Array.append_empty] at this
        rw [this, Oper.upon_enter]
        refine hcalls.mono fun e w' he => ?_
        obtain ⟨vv, v, s', ρ', rfl, k1, k2, k3⟩ := he
        exact hn v s' _ ρ' vv w' k1 k2 k3
    · exact plain_ok G hcal h R hn
  · exact plain_ok G hcal h R hn
theorem yielded_of {ops : Array Oper} {ρ : Env} {fr : List AV} {a : Act} {g t : Nat} {b : Bool} (h : RepVs ρ fr a.tmps.toList) (hg : (ops.toList[g]?).bind (·.dst) = some t) (hb : fr.getD t .un = .bool b) : yielded ops a.tmps g = some b := by
  have hr := h.get t
  rw [hb] at hr
  simp only [RepV] at hr
  have hlt : t < fr.length := by
    rcases Nat.lt_or_ge t fr.length with h' | h'
    · exact h'
    · simp [h'] at hb
  have hlt' : t < a.tmps.size := by have := h.length; simp at this; omega
  unfold yielded
  rw [Array.getElem?_toList] at hg
  rw [hg]
  simp only [Option.bind_some]
  have : a.tmps[t]? = some (.bool b) := by
    rw [Array.getElem?_eq_getElem hlt']
    simp [hlt'] at hr
    rw [hr]
  rw [this]
theorem yielded_none {ops : Array Oper} {ρ : Env} {fr : List AV} {a : Act} {g t : Nat} (h : RepVs ρ fr a.tmps.toList) (hg : (ops.toList[g]?).bind (·.dst) = some t) (hb : fr.getD t .un = .tup []) : yielded ops a.tmps g = none := by
  have hr := h.get t
  rw [hb] at hr
  simp only [RepV] at hr
  obtain ⟨vs, hv, hvs⟩ := hr
  unfold yielded
  rw [Array.getElem?_toList] at hg
  rw [hg]
  simp only [Option.bind_some]
  cases ha : a.tmps[t]? with
  | none => rfl
  | some x =>
    have : a.tmps.toList.getD t undef = x := by simp [ha]
    rw [this] at hv
    subst hv
    rfl
theorem at_same {s : St} {t : Nat} {b : Bool} (h : s.fr.getD t .un = .bool b) : s.at t (.bool b) = s := by
  have hlt : t < s.fr.length := by
    rcases Nat.lt_or_ge t s.fr.length with h' | h'
    · exact h'
    · simp [h'] at h
  have : s.fr.set t (.bool b) = s.fr := by
    apply List.ext_getElem?
    intro i
    rw [List.getElem?_set]
    split
    · rename_i e
      subst e
      simp only [List.getD_eq_getElem?_getD, List.getElem?_eq_getElem hlt, Option.getD_some] at h
      simp [hlt, h]
    · rfl
  cases s
  simp only [St.at] at this ⊢
  rw [this]
theorem ops_ok (G : Good P) (hcal : CalOk P A cal) (hinl : InlOk P inl) {ops : Array Oper} {K : St → List (List Nat × List Nat) → R} {out : List D} {gv : List Value} {Q : Exit → Act → World → Prop}
    (hK : ∀ s' tr' ρ' a' w', K s' tr' = some out → StR w0 M ρ' s' gv a' w' → Q .normal a' w') : ∀ (rest : List Oper) (s : St) (tr : List (List Nat × List Nat)) (ρ : Env) (a : Act) (w : World),
    evOps P A cal inl false ops.toList rest s tr K = some out → StR w0 M ρ s gv a w → wpList P ops Q rest a w
  | [], s, tr, ρ, a, w, h, R => by
    simp only [evOps] at h
    exact hK s tr ρ a w h R
  | o :: rest, s, tr, ρ, a, w, h, R => by
    have doing : ∀ (s : St) (K' : AV → St → List Nat × List Nat → Go.Ev.R), evOp P A cal inl false o s K' = some out → StR w0 M ρ s gv a w → (∀ v s' t, K' v s' t = evOps P A cal inl false ops.toList rest (put o.dst v s') (tr ++ [t]) K) → o.wp P a w (wpList P ops Q rest) Q := by
      intro s K' h R he
      refine op_ok G hcal hinl h R fun v s' t ρ' vv w' k1 k2 k3 => ?_
      rw [he] at k1
      exact ops_ok G hcal hinl hK rest _ _ ρ' _ w' k1 (k2.put o.dst k3)
    unfold wpList
    simp only [evOps] at h
    split at h
    · rename_i hg
      rw [if_pos (by simp [Region.wanted, hg])]
      exact .inl (doing s _ h R fun _ _ _ => rfl)
    · rename_i g want hg
      split at h
      · cases h
      · rename_i t ht
        split at h
        · rename_i b hb
          have hy := yielded_of R.fr ht hb
          have hw : Region.wanted o (yielded ops a.tmps) = (b == want) := by
            simp only [Region.wanted, hg, hy]
            cases b <;> cases want <;> rfl
          cases b with
          | true =>
            rw [at_same hb] at h
            simp only [cond_true] at h
            cases want with
            | true => simp only [cond_true] at h; rw [hw, if_pos (by rfl)]; exact .inl (doing s _ h R fun _ _ _ => rfl)
            | false => simp only [cond_false] at h; rw [hw, if_neg (by simp)]; exact ops_ok G hcal hinl hK rest _ _ ρ _ w h (R.skip' o.dst)
          | false =>
            rw [at_same hb] at h
            simp only [cond_false] at h
            cases want with
            | true => simp only [cond_true] at h; rw [hw, if_neg (by simp)]; exact ops_ok G hcal hinl hK rest _ _ ρ _ w h (R.skip' o.dst)
            | false => simp only [cond_false] at h; rw [hw, if_pos (by rfl)]; exact .inl (doing s _ h R fun _ _ _ => rfl)
        · rename_i hb
          have hy : yielded ops a.tmps g = none := yielded_none R.fr ht hb
          have hw : Region.wanted o (yielded ops a.tmps) = false := by
            simp only [Region.wanted, hg, hy]
            cases want <;> rfl
          rw [hw, if_neg (by simp)]
          exact ops_ok G hcal hinl hK rest _ _ ρ _ w h (R.skip' o.dst)
        · cases h
end
end Go.Ev
namespace Go.Ev
set_option linter.unusedSimpArgs false
set_option linter.unusedVariables false
set_option linter.unnecessarySimpa false
open Go Go.RowKit
structure CpOk (h : List Ent) (ρ : Env) (w : World) (c : Cp) (ρ' : Env) : Prop where
  top : ∀ id, c.h.length ≤ id → ρ' id = none
  im : ∀ j, j < c.h.length → ∃ i p, (i, j) ∈ c.m ∧ ρ i = some p ∧ ρ' j = some p ∧ (ent c.h j).own = (ent h i).own ∧ (∀ b off, foot p (ent c.h j) b off → foot p (ent h i) b off) ∧ RepE ρ' w p (ent c.h j) ∧ ∀ b off, inn p (ent c.h j) b off → inn p (ent h i) b off
  mm : ∀ i j, (i, j) ∈ c.m → j < c.h.length ∧ ρ i = ρ' j
  fn : ∀ i j j', (i, j) ∈ c.m → (i, j') ∈ c.m → j = j'
theorem find_some {m : List (Nat × Nat)} {id j : Nat} (h : find m id = some j) : (id, j) ∈ m := by
  unfold find at h
  cases hf : m.find? (·.1 == id) with
  | none => rw [hf] at h; cases h
  | some x =>
    rw [hf] at h
    simp only [Option.map_some, Option.some.injEq] at h
    have h1 := List.find?_some hf
    have h2 := List.mem_of_find?_eq_some hf
    obtain ⟨a, b⟩ := x
    simp only [beq_iff_eq] at h1
    simp only at h
    subst h1 h
    exact h2
theorem find_none {m : List (Nat × Nat)} {id : Nat} (h : find m id = none) : ∀ j, (id, j) ∉ m := by
  intro j hj
  unfold find at h
  simp only [Option.map_eq_none_iff, List.find?_eq_none] at h
  exact h _ hj (by simp)
section
variable {h : List Ent} {ρ : Env} {w : World}
theorem CpOk.add {c : Cp} {ρ' : Env} (C : CpOk h ρ w c ρ') {id : Nat} {p : Plc} {e : Ent} (hf : ∀ j, (id, j) ∉ c.m) (hp : ρ id = some p) (ho : e.own = (ent h id).own) (hfo : ∀ b off, foot p e b off → foot p (ent h id) b off)
    (hr : RepE ρ' w p e) (hin : ∀ b off, inn p e b off → inn p (ent h id) b off := by intro _ _ h; exact h.elim) : CpOk h ρ w ⟨(id, c.h.length) :: c.m, c.h ++ [e]⟩ (updρ ρ' c.h.length p) := by
  have hn := C.top c.h.length (Nat.le_refl _)
  refine ⟨?_, ?_, ?_, ?_⟩
  · intro i hi
    simp only [List.length_append, List.length_cons, List.length_nil] at hi
    rw [updρ_other _ _ (by omega)]
    exact C.top i (by omega)
  · intro j hj
    simp only [List.length_append, List.length_cons, List.length_nil] at hj
    rw [ent_push]
    by_cases hjj : j = c.h.length
    · subst hjj
      rw [upd_same]
      exact ⟨id, p, by simp, hp, updρ_same _ _ _, ho, hfo, hr.mono (sub_updρ hn), hin⟩
    · obtain ⟨i, q, h1, h2, h3, h4, h5, h6, h7⟩ := C.im j (by omega)
      rw [upd_other _ _ hjj]
      exact ⟨i, q, by simp [h1], h2, by rw [updρ_other _ _ hjj]; exact h3, h4, h5, h6.mono (sub_updρ hn), h7⟩
  · intro i j hij
    simp only [List.length_append, List.length_cons, List.length_nil]
    rcases List.mem_cons.1 hij with hij | hij
    · cases hij
      exact ⟨by omega, by rw [updρ_same, hp]⟩
    · obtain ⟨h1, h2⟩ := C.mm i j hij
      exact ⟨by omega, by rw [updρ_other _ _ (by omega)]; exact h2⟩
  · intro i j j' h1 h2
    rcases List.mem_cons.1 h1 with h1 | h1 <;> rcases List.mem_cons.1 h2 with h2 | h2
    · cases h1; cases h2; rfl
    · cases h1; exact absurd h2 (hf j')
    · cases h2; exact absurd h1 (hf j)
    · exact C.fn i j j' h1 h2
def Arrs (h : List Ent) (m m' : List (Nat × Nat)) : Prop := ∀ i j, (i, j) ∈ m' → (i, j) ∈ m ∨ ∀ own cs, ent h i ≠ .box own cs
theorem arr_cp {c : Cp} {ρ' : Env} (I : HeapOk ρ (ent h) w) (C : CpOk h ρ w c ρ') {id : Nat} {own nil : Bool} {a : Arr} {p : Plc} (hg : ent h id = .arr own nil a) (hp : ρ id = some p) (hf : find c.m id = none) :
    CpOk h ρ w ⟨(id, c.h.length) :: c.m, c.h ++ [.arr own nil a]⟩ (updρ ρ' c.h.length p) := by
  obtain ⟨p', hp', hr⟩ := I.rep id (by rw [hg]; simp)
  rw [hp] at hp'; cases hp'
  rw [hg] at hr
  exact C.add (find_none hf) hp (by rw [hg]) (fun b off hf => by rw [hg]; exact hf) hr
theorem rows_cp {c : Cp} {ρ' : Env} (I : HeapOk ρ (ent h) w) (C : CpOk h ρ w c ρ') {id : Nat} {own nil : Bool} {z : List RK} {l : List (List RC)} {p : Plc} (hg : ent h id = .rows own nil z l) (hp : ρ id = some p) (hf : find c.m id = none) :
    CpOk h ρ w ⟨(id, c.h.length) :: c.m, c.h ++ [.rows own nil z l]⟩ (updρ ρ' c.h.length p) := by
  obtain ⟨p', hp', hr⟩ := I.rep id (by rw [hg]; simp)
  rw [hp] at hp'; cases hp'
  rw [hg] at hr
  exact C.add (find_none hf) hp (by rw [hg]) (fun b off hf => by rw [hg]; exact hf) hr (fun b off hf => by rw [hg]; exact hf)
theorem mp_cp {c : Cp} {ρ' : Env} (I : HeapOk ρ (ent h) w) (C : CpOk h ρ w c ρ') {id : Nat} {l : List (Int × Int × Int)} {p : Plc} (hg : ent h id = .mp l) (hp : ρ id = some p) (hf : find c.m id = none) :
    CpOk h ρ w ⟨(id, c.h.length) :: c.m, c.h ++ [.mp l]⟩ (updρ ρ' c.h.length p) := by
  obtain ⟨p', hp', hr⟩ := I.rep id (by rw [hg]; simp)
  rw [hp] at hp'; cases hp'
  rw [hg] at hr
  exact C.add (find_none hf) hp (by rw [hg]) (fun b off hf => by rw [hg]; exact hf) hr
mutual
theorem cpy0_ok (I : HeapOk ρ (ent h) w) : ∀ (v : AV) {c : Cp} {ρ' : Env} {vv : Value}, CpOk h ρ w c ρ' → RepV ρ v vv → ∃ ρ'', CpOk h ρ w (cpy0 h v c).2 ρ'' ∧ Sub ρ' ρ'' ∧ RepV ρ'' (cpy0 h v c).1 vv ∧ Arrs h c.m (cpy0 h v c).2.m
  | .int _ _, c, ρ', vv, C, r => ⟨ρ', by simpa only [cpy0] using C, Sub.refl _, by simpa only [cpy0, RepV] using r, fun _ _ h => .inl (by simpa only [cpy0] using h)⟩
  | .bool _, c, ρ', vv, C, r => ⟨ρ', by simpa only [cpy0] using C, Sub.refl _, by simpa only [cpy0, RepV] using r, fun _ _ h => .inl (by simpa only [cpy0] using h)⟩
  | .str _, c, ρ', vv, C, r => ⟨ρ', by simpa only [cpy0] using C, Sub.refl _, by simpa only [cpy0, RepV] using r, fun _ _ h => .inl (by simpa only [cpy0] using h)⟩
  | .nils, c, ρ', vv, C, r => ⟨ρ', by simpa only [cpy0] using C, Sub.refl _, by simpa only [cpy0, RepV] using r, fun _ _ h => .inl (by simpa only [cpy0] using h)⟩
  | .un, c, ρ', vv, C, r => ⟨ρ', by simpa only [cpy0] using C, Sub.refl _, by simp only [cpy0, RepV], fun _ _ h => .inl (by simpa only [cpy0] using h)⟩
  | .ptr _ _ _, c, ρ', vv, C, r => ⟨ρ', by simpa only [cpy0] using C, Sub.refl _, by simp only [cpy0, RepV], fun _ _ h => .inl (by simpa only [cpy0] using h)⟩
  | .tup _, c, ρ', vv, C, r => ⟨ρ', by simpa only [cpy0] using C, Sub.refl _, by simp only [cpy0, RepV], fun _ _ h => .inl (by simpa only [cpy0] using h)⟩
  | .sl id wn, c, ρ', vv, C, r => by
    simp only [RepV] at r
    obtain ⟨p, hp, hs⟩ := r
    simp only [cpy0]
    split
    · rename_i own nil a hg
      split
      · rename_i j hf
        obtain ⟨h1, h2⟩ := C.mm _ _ (find_some hf)
        exact ⟨ρ', C, Sub.refl _, by simp only [RepV]; exact ⟨p, by rw [← h2]; exact hp, hs⟩, fun _ _ h => .inl h⟩
      · rename_i hf
        refine ⟨_, arr_cp I C hg hp hf, sub_updρ (C.top _ (Nat.le_refl _)), by simp only [RepV]; exact ⟨p, updρ_same _ _ _, hs⟩, fun i j hij => ?_⟩
        rcases List.mem_cons.1 hij with hij | hij
        · cases hij; exact .inr (fun _ _ e => by rw [hg] at e; cases e)
        · exact .inl hij
    · rename_i own nil z ll hg
      split
      · rename_i j hf
        obtain ⟨h1, h2⟩ := C.mm _ _ (find_some hf)
        exact ⟨ρ', C, Sub.refl _, by simp only [RepV]; exact ⟨p, by rw [← h2]; exact hp, hs⟩, fun _ _ h => .inl h⟩
      · rename_i hf
        refine ⟨_, rows_cp I C hg hp hf, sub_updρ (C.top _ (Nat.le_refl _)), by simp only [RepV]; exact ⟨p, updρ_same _ _ _, hs⟩, fun i j hij => ?_⟩
        rcases List.mem_cons.1 hij with hij | hij
        · cases hij; exact .inr (fun _ _ e => by rw [hg] at e; cases e)
        · exact .inl hij
    · exact ⟨ρ', C, Sub.refl _, by simp only [RepV], fun _ _ h => .inl h⟩
  | .mp id, c, ρ', vv, C, r => by
    simp only [RepV] at r
    obtain ⟨p, x, hp, hb, hs⟩ := r
    simp only [cpy0]
    split
    · rename_i l hg
      split
      · rename_i j hf
        obtain ⟨h1, h2⟩ := C.mm _ _ (find_some hf)
        exact ⟨ρ', C, Sub.refl _, by simp only [RepV]; exact ⟨p, x, by rw [← h2]; exact hp, hb, hs⟩, fun _ _ h => .inl h⟩
      · rename_i hf
        refine ⟨_, mp_cp I C hg hp hf, sub_updρ (C.top _ (Nat.le_refl _)), by simp only [RepV]; exact ⟨p, x, updρ_same _ _ _, hb, hs⟩, fun i j hij => ?_⟩
        rcases List.mem_cons.1 hij with hij | hij
        · cases hij; exact .inr (fun _ _ e => by rw [hg] at e; cases e)
        · exact .inl hij
    · exact ⟨ρ', C, Sub.refl _, by simp only [RepV], fun _ _ h => .inl h⟩
  | .agg cs, c, ρ', vv, C, r => by
    simp only [RepV] at r
    obtain ⟨vs, rfl, r⟩ := r
    obtain ⟨ρ'', h1, h2, h3, h4⟩ := cpys0_ok I cs C r
    exact ⟨ρ'', by simpa only [cpy0] using h1, h2, by simp only [cpy0, RepV]; exact ⟨_, rfl, h3⟩, by simpa only [cpy0] using h4⟩
  | .fn f cs, c, ρ', vv, C, r => by
    simp only [RepV] at r
    obtain ⟨vs, rfl, r⟩ := r
    obtain ⟨ρ'', h1, h2, h3, h4⟩ := cpys0_ok I cs C r
    exact ⟨ρ'', by simpa only [cpy0] using h1, h2, by simp only [cpy0, RepV]; exact ⟨_, rfl, h3⟩, by simpa only [cpy0] using h4⟩
theorem cpys0_ok (I : HeapOk ρ (ent h) w) : ∀ (vs : List AV) {c : Cp} {ρ' : Env} {us : List Value}, CpOk h ρ w c ρ' → RepVs ρ vs us → ∃ ρ'', CpOk h ρ w (cpys0 h vs c).2 ρ'' ∧ Sub ρ' ρ'' ∧ RepVs ρ'' (cpys0 h vs c).1 us ∧ Arrs h c.m (cpys0 h vs c).2.m
  | [], c, ρ', us, C, r => ⟨ρ', by simpa only [cpys0] using C, Sub.refl _, by simpa only [cpys0, RepVs] using r, fun _ _ h => .inl (by simpa only [cpys0] using h)⟩
  | v :: vs, c, ρ', us, C, r => by
    simp only [RepVs] at r
    obtain ⟨u, us, rfl, r1, r2⟩ := r
    obtain ⟨ρ1, h1, h2, h3, h4⟩ := cpy0_ok I v C r1
    obtain ⟨ρ2, k1, k2, k3, k4⟩ := cpys0_ok I vs h1 r2
    refine ⟨ρ2, by simpa only [cpys0] using k1, h2.trans k2, by simp only [cpys0]; exact RepVs.cons (h3.mono k2 _ _) k3, fun i j hij => ?_⟩
    simp only [cpys0] at hij
    rcases k4 i j hij with h | h
    · exact h4 i j h
    · exact .inr h
end
mutual
theorem cpy_ok (I : HeapOk ρ (ent h) w) : ∀ (v : AV) {c : Cp} {ρ' : Env} {vv : Value}, CpOk h ρ w c ρ' → RepV ρ v vv → ∃ ρ'', CpOk h ρ w (cpy h v c).2 ρ'' ∧ Sub ρ' ρ'' ∧ RepV ρ'' (cpy h v c).1 vv
  | .int k n, c, ρ', vv, C, r => by simp only [cpy]; obtain ⟨a, b, d, e, _⟩ := cpy0_ok I (.int k n) C r; exact ⟨a, b, d, e⟩
  | .bool k, c, ρ', vv, C, r => by simp only [cpy]; obtain ⟨a, b, d, e, _⟩ := cpy0_ok I (.bool k) C r; exact ⟨a, b, d, e⟩
  | .str k, c, ρ', vv, C, r => by simp only [cpy]; obtain ⟨a, b, d, e, _⟩ := cpy0_ok I (.str k) C r; exact ⟨a, b, d, e⟩
  | .nils, c, ρ', vv, C, r => by simp only [cpy]; obtain ⟨a, b, d, e, _⟩ := cpy0_ok I .nils C r; exact ⟨a, b, d, e⟩
  | .un, c, ρ', vv, C, r => by simp only [cpy]; obtain ⟨a, b, d, e, _⟩ := cpy0_ok I .un C r; exact ⟨a, b, d, e⟩
  | .tup k, c, ρ', vv, C, r => by simp only [cpy]; obtain ⟨a, b, d, e, _⟩ := cpy0_ok I (.tup k) C r; exact ⟨a, b, d, e⟩
  | .agg k, c, ρ', vv, C, r => by simp only [cpy]; obtain ⟨a, b, d, e, _⟩ := cpy0_ok I (.agg k) C r; exact ⟨a, b, d, e⟩
  | .mp k, c, ρ', vv, C, r => by simp only [cpy]; obtain ⟨a, b, d, e, _⟩ := cpy0_ok I (.mp k) C r; exact ⟨a, b, d, e⟩
  | .sl k n, c, ρ', vv, C, r => by simp only [cpy]; obtain ⟨a, b, d, e, _⟩ := cpy0_ok I (.sl k n) C r; exact ⟨a, b, d, e⟩
  | .fn f cs, c, ρ', vv, C, r => by
    simp only [RepV] at r
    obtain ⟨vs, rfl, r⟩ := r
    obtain ⟨ρ'', h1, h2, h3⟩ := cpys_ok I cs C r
    exact ⟨ρ'', by simpa only [cpy] using h1, h2, by simp only [cpy, RepV]; exact ⟨_, rfl, h3⟩⟩
  | .ptr id i o, c, ρ', vv, C, r => by
    simp only [RepV] at r
    obtain ⟨p, x, hp, hs⟩ := r
    simp only [cpy]
    split
    · rename_i own cs hg
      split
      · rename_i j hf
        obtain ⟨h1, h2⟩ := C.mm _ _ (find_some hf)
        exact ⟨ρ', C, Sub.refl _, by simp only [RepV]; exact ⟨p, x, by rw [← h2]; exact hp, hs⟩⟩
      · rename_i hf
        obtain ⟨p', hp', hr⟩ := I.rep id (by rw [hg]; simp)
        rw [hp] at hp'; cases hp'
        rw [hg] at hr
        obtain ⟨k1, y, vs, k2, k3, k4, k5, k6⟩ := hr
        obtain ⟨ρ1, h1, h2, h3, h4⟩ := cpys0_ok I cs C k4
        have hno : ∀ j, (id, j) ∉ (cpys0 h cs c).2.m := fun j hj => by
          rcases h4 id j hj with h | h
          · exact find_none hf j h
          · exact absurd hg (h _ _)
        have hlen : (cpys0 h cs c).1.length = cs.length := by rw [← h3.length, k4.length]
        have := h1.add (e := .box own (cpys0 h cs c).1) hno hp (by rw [hg]; rfl) (fun b off hf => by rw [hg]; rw [foot_box k2] at hf ⊢; rw [hlen] at hf; exact hf) ⟨k1, y, vs, k2, k3, h3, k5, k6⟩
        exact ⟨_, this, h2.trans (sub_updρ (h1.top _ (Nat.le_refl _))), by simp only [RepV]; exact ⟨p, x, updρ_same _ _ _, hs⟩⟩
    · rename_i own nil a hg
      split
      · rename_i j hf
        obtain ⟨h1, h2⟩ := C.mm _ _ (find_some hf)
        exact ⟨ρ', C, Sub.refl _, by simp only [RepV]; exact ⟨p, x, by rw [← h2]; exact hp, hs⟩⟩
      · rename_i hf
        exact ⟨_, arr_cp I C hg hp hf, sub_updρ (C.top _ (Nat.le_refl _)), by simp only [RepV]; exact ⟨p, x, updρ_same _ _ _, hs⟩⟩
    · exact ⟨ρ', C, Sub.refl _, by simp only [RepV]⟩
theorem cpys_ok (I : HeapOk ρ (ent h) w) : ∀ (vs : List AV) {c : Cp} {ρ' : Env} {us : List Value}, CpOk h ρ w c ρ' → RepVs ρ vs us → ∃ ρ'', CpOk h ρ w (cpys h vs c).2 ρ'' ∧ Sub ρ' ρ'' ∧ RepVs ρ'' (cpys h vs c).1 us
  | [], c, ρ', us, C, r => ⟨ρ', by simpa only [cpys] using C, Sub.refl _, by simpa only [cpys, RepVs] using r⟩
  | v :: vs, c, ρ', us, C, r => by
    simp only [RepVs] at r
    obtain ⟨u, us, rfl, r1, r2⟩ := r
    obtain ⟨ρ1, h1, h2, h3⟩ := cpy_ok I v C r1
    obtain ⟨ρ2, k1, k2, k3⟩ := cpys_ok I vs h1 r2
    exact ⟨ρ2, by simpa only [cpys] using k1, h2.trans k2, by simp only [cpys]; exact RepVs.cons (h3.mono k2 _ _) k3⟩
end
theorem RepVs.set_same {ρ : Env} {cs : List AV} {vs : List Value} (hr : RepVs ρ cs vs) {i : Nat} {c : AV} (hc : RepV ρ c (vs.getD i undef)) : RepVs ρ (cs.set i c) vs := by
  have := hr.set i hc
  have e : vs.set i (vs.getD i undef) = vs := by
    apply List.ext_getElem?
    intro k
    rw [List.getElem?_set]
    split
    · rename_i e; subst e
      split
      · rename_i hl; simp [hl]
      · rename_i hl; simp [hl]
    · rfl
  rwa [e] at this
theorem canonGo_ok (I : HeapOk ρ (ent h) w) {fr : List AV} {vs : List Value} (hr : RepVs ρ fr vs) : ∀ (ts : List Nat) {out : List AV} {c : Cp} {ρ' : Env}, CpOk h ρ w c ρ' → RepVs ρ' out vs → ∃ ρ'', CpOk h ρ w (canonGo fr h ts out c).2 ρ'' ∧ Sub ρ' ρ'' ∧ RepVs ρ'' (canonGo fr h ts out c).1 vs
  | [], out, c, ρ', C, r => ⟨ρ', by simpa only [canonGo] using C, Sub.refl _, by simpa only [canonGo] using r⟩
  | t :: ts, out, c, ρ', C, r => by
    obtain ⟨ρ1, h1, h2, h3⟩ := cpy_ok I (fr.getD t .un) C (hr.get t)
    obtain ⟨ρ2, k1, k2, k3⟩ := canonGo_ok I hr ts h1 ((r.mono h2 _ _).set_same h3)
    exact ⟨ρ2, by simpa only [canonGo] using k1, h2.trans k2, by simpa only [canonGo] using k3⟩
end
theorem RepVs.uns {ρ : Env} : ∀ (cs : List AV) (vs : List Value), vs.length = cs.length → RepVs ρ (cs.map fun _ => .un) vs
  | [], [], _ => by simp [RepVs]
  | [], _ :: _, h => by simp at h
  | _ :: _, [], h => by simp at h
  | c :: cs, v :: vs, h => RepVs.cons (by simp [RepV]) (RepVs.uns cs vs (by simpa using h))
theorem canon_ok {w0 : World} {M : Nat → Nat → Prop} {ρ : Env} {s : St} {gv : List Value} {a : Act} {w : World} (keep : List Nat) (R : StR w0 M ρ s gv a w) : ∃ ρ', StR w0 M ρ' (canon keep s) gv a w := by
  have I := R.inv.ok
  have C0 : CpOk s.h ρ w ⟨[], []⟩ (fun _ => none) := ⟨fun _ _ => rfl, fun j hj => by simp at hj, fun i j h => by simp at h, fun i j j' h => by simp at h⟩
  obtain ⟨ρ1, h1, h2, h3⟩ := canonGo_ok I R.fr keep C0 (RepVs.uns s.fr _ R.fr.length)
  obtain ⟨ρ2, k1, k2, k3⟩ := cpys_ok I s.pn h1 R.pn
  refine ⟨ρ2, h3.mono k2 _ _, k3, ⟨⟨?_, ?_, ?_⟩, R.inv.fr, ?_⟩, k1.top, R.calm⟩
  · intro j hj
    have hlt : j < (canon keep s).h.length := by
      rcases Nat.lt_or_ge j (canon keep s).h.length with h | h
      · exact h
      · exact absurd (ent_ge _ _ h) hj
    obtain ⟨i, p, m1, m2, m3, m4, m5, m6, m7⟩ := k1.im j hlt
    exact ⟨p, m3, m6⟩
  · intro i j p q hij hp hq ho b off hf hf'
    have lt : ∀ i p, ρ2 i = some p → i < (canon keep s).h.length := fun i p hp => by
      rcases Nat.lt_or_ge i (canon keep s).h.length with h | h
      · exact h
      · have := k1.top i h; rw [hp] at this; cases this
    obtain ⟨i0, p0, m1, m2, m3, m4, m5, m6, m7⟩ := k1.im i (lt i p hp)
    obtain ⟨j0, q0, n1, n2, n3, n4, n5, n6, n7⟩ := k1.im j (lt j q hq)
    rw [hp] at m3; cases m3
    rw [hq] at n3; cases n3
    refine I.sep i0 j0 p q (fun e => ?_) m2 n2 (by rw [← m4]; exact ho) b off (m5 b off hf) (n5 b off hf')
    subst e
    exact hij (k1.fn _ _ _ m1 n1)
  · intro i j p q hp hq ho b off hf hf'
    have lt : ∀ i p, ρ2 i = some p → i < (canon keep s).h.length := fun i p hp => by
      rcases Nat.lt_or_ge i (canon keep s).h.length with h | h
      · exact h
      · have := k1.top i h; rw [hp] at this; cases this
    obtain ⟨i0, p0, m1, m2, m3, m4, m5, m6, m7⟩ := k1.im i (lt i p hp)
    obtain ⟨j0, q0, n1, n2, n3, n4, n5, n6, n7⟩ := k1.im j (lt j q hq)
    rw [hp] at m3; cases m3
    rw [hq] at n3; cases n3
    exact I.inn i0 j0 p q m2 n2 (by rw [← m4]; exact ho) b off (m5 b off hf) (n7 b off hf')
  · intro i p hp ho b off hf
    have hlt : i < (canon keep s).h.length := by
      rcases Nat.lt_or_ge i (canon keep s).h.length with h | h
      · exact h
      · have := k1.top i h; rw [hp] at this; cases this
    obtain ⟨i0, p0, m1, m2, m3, m4, m5, m6, m7⟩ := k1.im i hlt
    rw [hp] at m3; cases m3
    exact R.inv.own i0 p m2 (by rw [← m4]; exact ho) b off (m5 b off hf)
theorem fN1 (n m : Nat) (a : R) (K : Nat → R) (h : a = K n) : cond (Nat.beq n m) (K m) a = K n := by
  cases e : Nat.beq n m
  · exact h
  · rw [Nat.eq_of_beq_eq_true e]; rfl
theorem forceN_eq (n : Nat) (K : Nat → R) : forceN n K = K n := by
  unfold forceN
  iterate 48 refine fN1 _ _ _ _ ?_
  rfl
mutual
theorem forceAV_eq : ∀ (v : AV) (K : AV → R), forceAV v K = K v
  | .un, K => rfl
  | .nils, K => rfl
  | .int k n, K => rfl
  | .bool b, K => rfl
  | .str s, K => rfl
  | .sl id none, K => by rw [forceAV, forceN_eq]
  | .sl id (some (o, n)), K => by rw [forceAV, forceN_eq]
  | .ptr id i o, K => by rw [forceAV, forceN_eq]
  | .mp id, K => by rw [forceAV, forceN_eq]
  | .agg cs, K => by rw [forceAV, forceAVs_eq cs]
  | .tup cs, K => by rw [forceAV, forceAVs_eq cs]
  | .fn f cs, K => by rw [forceAV, forceAVs_eq cs]
theorem forceAVs_eq : ∀ (l : List AV) (K : List AV → R), forceAVs l K = K l
  | [], K => rfl
  | c :: cs, K => by rw [forceAVs, forceAV_eq c, forceAVs_eq cs]
end
theorem forceArr_eq (a : Arr) (K : Arr → R) : forceArr a K = K a := by cases a <;> rfl
theorem forceB_eq (a : Bool) (K : Bool → R) : forceB a K = K a := by cases a <;> rfl
theorem forceEnt_eq (e : Ent) (K : Ent → R) : forceEnt e K = K e := by
  cases e with
  | dead => rfl
  | box own cs => rw [forceEnt, forceB_eq, forceAVs_eq]
  | arr own nil a => rw [forceEnt, forceB_eq, forceArr_eq]
  | mp l => rfl
  | parts o n i1 i2 i3 => rfl
  | rows own nil z l => rw [forceEnt, forceB_eq]
theorem forceEnts_eq : ∀ (l : List Ent) (K : List Ent → R), forceEnts l K = K l
  | [], K => rfl
  | c :: cs, K => by rw [forceEnts, forceEnt_eq c, forceEnts_eq cs]
theorem forceSt_eq (s : St) (K : St → R) : forceSt s K = K s := by
  cases s with
  | mk fr pn h => rw [forceSt, forceEnts_eq, forceAVs_eq, forceAVs_eq]
theorem canonAt_ok {A : Ann} {f : Nat} {c : Code} {K : St → R} {out : List D} {w0 : World} {M : Nat → Nat → Prop} {ρ : Env} {s : St} {gv : List Value} {a : Act} {w : World} (R : StR w0 M ρ s gv a w) (h : canonAt A f c s K = some out) :
    ∃ ρ' s', StR w0 M ρ' s' gv a w ∧ K s' = some out := by
  unfold canonAt at h
  split at h
  · split at h
    · rw [forceSt_eq] at h
      obtain ⟨ρ', R'⟩ := canon_ok _ R
      exact ⟨ρ', _, R', h⟩
    · rw [forceSt_eq] at h
      exact ⟨ρ, s, R, h⟩
  · exact ⟨ρ, s, R, h⟩
end Go.Ev
namespace Go.Ev
set_option linter.unusedSimpArgs false
set_option linter.unusedVariables false
set_option linter.unnecessarySimpa false
open Go Go.RowKit

/-! what the operations of a set have written -/
section
variable {V : Type} (wr : Nat → Nat → Option V) (x0 : Nat → V)
def acc (E : Nat → Bool) : Nat → Nat → V
  | 0 => x0
  | k + 1 => fun loc => if E k then (wr k loc).getD (acc E k loc) else acc E k loc
def allE : Nat → Bool := fun _ => true
theorem acc_pre {E : Nat → Bool} {loc j : Nat} (h : ∀ i, i < j → (wr i loc).isSome = true → E i = true) : ∀ k, k ≤ j → acc wr x0 E k loc = acc wr x0 allE k loc
  | 0, _ => rfl
  | k + 1, hk => by
    have ih := acc_pre h k (by omega)
    simp only [acc, allE, if_true]
    rw [ih]
    cases hw : wr k loc with
    | none => simp
    | some v => rw [h k (by omega) (by simp [hw])]; simp
theorem acc_post {E : Nat → Bool} {loc j : Nat} (h : ∀ i, j ≤ i → (wr i loc).isSome = true → E i = false) : ∀ k, j ≤ k → acc wr x0 E k loc = acc wr x0 E j loc
  | 0, hk => by have : j = 0 := by omega
                rw [this]
  | k + 1, hk => by
    by_cases hj : j = k + 1
    · rw [hj]
    · have ih := acc_post h k (by omega)
      simp only [acc]
      rw [ih]
      cases hw : wr k loc with
      | none => simp
      | some v => rw [h k (by omega) (by simp [hw])]; simp
/-- at what j looks at, the set's writings are those of the row up to j -/
theorem acc_at {E : Nat → Bool} {loc j n : Nat} (hj : E j = false) (hn : j ≤ n) (h1 : ∀ i, i < j → (wr i loc).isSome = true → E i = true) (h2 : ∀ i, j < i → (wr i loc).isSome = true → E i = false) :
    acc wr x0 E n loc = acc wr x0 allE j loc := by
  rw [acc_post wr x0 (E := E) (loc := loc) (j := j) (fun i hi hw => ?_) n hn]
  · exact acc_pre wr x0 h1 j (Nat.le_refl _)
  · by_cases hij : i = j
    · rw [hij]; exact hj
    · exact h2 i (by omega) hw
def add (E : Nat → Bool) (j : Nat) : Nat → Bool := fun i => if i = j then true else E i
theorem acc_add {E : Nat → Bool} {j : Nat} {loc : Nat} (hj : E j = false) (h : (wr j loc).isSome = true → ∀ i, j < i → (wr i loc).isSome = true → E i = false) : ∀ n, j < n → acc wr x0 (add E j) n loc = (wr j loc).getD (acc wr x0 E n loc) := by
  have pre : ∀ k, k ≤ j → acc wr x0 (add E j) k loc = acc wr x0 E k loc := by
    intro k
    induction k with
    | zero => intro _; rfl
    | succ k ih =>
      intro hk
      simp only [acc]
      rw [ih (by omega)]
      have : add E j k = E k := by simp only [add]; rw [if_neg (by omega)]
      rw [this]
  intro n
  induction n with
  | zero => intro h0; omega
  | succ n ih =>
    intro hn
    by_cases hjn : n = j
    · subst hjn
      simp only [acc]
      rw [pre n (Nat.le_refl _)]
      have : add E n n = true := by simp [add]
      rw [this, hj]
      simp
    · have ih := ih (by omega)
      simp only [acc]
      rw [ih]
      have : add E j n = E n := by simp only [add]; rw [if_neg hjn]
      rw [this]
      cases hE : E n with
      | false => simp
      | true =>
        simp only [if_true]
        cases hw : wr n loc with
        | none => simp
        | some v =>
          cases hwj : wr j loc with
          | none => simp
          | some u =>
            have := h (by simp [hwj]) n (by omega) (by simp [hw])
            rw [hE] at this; cases this
end

/-! counting what is left -/
def cnt (E : Nat → Bool) : Nat → Nat
  | 0 => 0
  | k + 1 => cnt E k + (if E k then 0 else 1)
theorem cnt_add {E : Nat → Bool} {j : Nat} (hj : E j = false) : ∀ n, (j < n → cnt (add E j) n + 1 = cnt E n) ∧ (n ≤ j → cnt (add E j) n = cnt E n)
  | 0 => ⟨fun h => by omega, fun _ => rfl⟩
  | n + 1 => by
    obtain ⟨h1, h2⟩ := cnt_add hj n
    refine ⟨fun h => ?_, fun h => ?_⟩
    · simp only [cnt]
      by_cases hjn : n = j
      · subst hjn
        rw [h2 (Nat.le_refl _), hj]
        simp [add]
      · have := h1 (by omega)
        have e : add E j n = E n := by simp only [add]; rw [if_neg hjn]
        rw [e]; omega
    · simp only [cnt]
      have e : add E j n = E n := by simp only [add]; rw [if_neg (by omega)]
      rw [e, h2 (by omega)]
theorem cnt_zero {E : Nat → Bool} : ∀ {n : Nat}, cnt E n = 0 → ∀ i, i < n → E i = true
  | 0, _, i, hi => by omega
  | n + 1, h, i, hi => by
    simp only [cnt] at h
    by_cases hin : i = n
    · subst hin
      cases hE : E i with
      | true => rfl
      | false => rw [hE] at h; simp at h
    · exact cnt_zero (n := n) (by omega) i (by omega)
theorem cnt_all {E : Nat → Bool} : ∀ {n : Nat}, (∀ i, i < n → E i = true) → cnt E n = 0
  | 0, _ => rfl
  | n + 1, h => by simp only [cnt]; rw [cnt_all fun i hi => h i (by omega), h n (by omega)]; simp
theorem cnt_none : ∀ (n : Nat), cnt (fun _ => false) n = n
  | 0 => rfl
  | n + 1 => by simp only [cnt]; rw [cnt_none n]; simp

/-! the last entry that was written -/
def lastW : List Ac → Nat → Option Ent
  | [], _ => none
  | .rd _ _ :: l, i => lastW l i
  | .wr id e :: l, i => (lastW l i).or (if i = id then some e else none)
  | .new id e :: l, i => (lastW l i).or (if i = id then some e else none)
  | .call _ _ _ :: l, i => lastW l i
theorem appl_lastW : ∀ (l : List Ac) (g : Hp) (i : Nat), appl l g i = (lastW l i).getD (g i)
  | [], g, i => rfl
  | .rd _ _ :: l, g, i => appl_lastW l g i
  | .call _ _ _ :: l, g, i => appl_lastW l g i
  | .wr id e :: l, g, i => by
    simp only [appl, lastW]
    rw [appl_lastW l _ i]
    cases lastW l i with
    | some v => simp
    | none => by_cases h : i = id <;> simp [h, upd]
  | .new id e :: l, g, i => by
    simp only [appl, lastW]
    rw [appl_lastW l _ i]
    cases lastW l i with
    | some v => simp
    | none => by_cases h : i = id <;> simp [h, upd]
theorem lastW_wrs : ∀ (l : List Ac) (i : Nat), (lastW l i).isSome = true ↔ i ∈ wrs l
  | [], i => by simp [lastW, wrs]
  | .rd _ _ :: l, i => by simpa [lastW, wrs] using lastW_wrs l i
  | .call _ _ _ :: l, i => by simpa [lastW, wrs] using lastW_wrs l i
  | .wr id e :: l, i => by
    have := lastW_wrs l i
    simp only [lastW, wrs, List.mem_cons, Option.isSome_or, Bool.or_eq_true, this]
    by_cases h : i = id <;> simp [h]
  | .new id e :: l, i => by
    have := lastW_wrs l i
    simp only [lastW, wrs, List.mem_cons, Option.isSome_or, Bool.or_eq_true, this]
    by_cases h : i = id <;> simp [h]
theorem Cons.congr : ∀ {l : List Ac} {g g' : Hp}, Cons l g → (∀ i, i ∈ rds l ∨ i ∈ wrs l → g' i = g i) → Cons l g'
  | [], g, g', h, e => trivial
  | .rd id x :: l, g, g', h, e => ⟨by rw [e id (by simp [rds])]; exact h.1, Cons.congr h.2 fun i hi => e i (by rcases hi with h | h <;> simp [rds, wrs, h])⟩
  | .call _ _ _ :: l, g, g', h, e => Cons.congr (l := l) h fun i hi => e i (by rcases hi with h | h <;> simp [rds, wrs, h])
  | .wr id x :: l, g, g', h, e => ⟨by rw [e id (by simp [wrs])]; exact h.1, Cons.congr h.2 fun i hi => by
      by_cases hii : i = id
      · subst hii; rw [upd_same, upd_same]
      · rw [upd_other _ _ hii, upd_other _ _ hii]; exact e i (by rcases hi with h | h <;> simp [rds, wrs, h])⟩
  | .new id x :: l, g, g', h, e => ⟨by rw [e id (by simp [wrs])]; exact h.1, Cons.congr h.2 fun i hi => by
      by_cases hii : i = id
      · subst hii; rw [upd_same, upd_same]
      · rw [upd_other _ _ hii, upd_other _ _ hii]; exact e i (by rcases hi with h | h <;> simp [rds, wrs, h])⟩
theorem news_wrs : ∀ {l : List Ac} {i : Nat}, i ∈ news l → i ∈ wrs l
  | .rd _ _ :: l, i, h => by simpa [wrs] using news_wrs (l := l) (by simpa [news] using h)
  | .call _ _ _ :: l, i, h => by simpa [wrs] using news_wrs (l := l) (by simpa [news] using h)
  | .wr id e :: l, i, h => by simp only [wrs, List.mem_cons]; exact .inr (news_wrs (l := l) (by simpa [news] using h))
  | .new id e :: l, i, h => by
    simp only [news, wrs, List.mem_cons] at h ⊢
    exact h.imp (fun h => h) news_wrs

/-! an operation sees its operands alone -/
theorem operands_congr {fr fr' : List AV} (xs : Array Operand) (h : ∀ x ∈ xs, opd fr x = opd fr' x) : operands fr xs = operands fr' xs := by
  unfold operands
  exact List.map_congr_left fun x hx => h x (by simpa using hx)
theorem stepP_congr {P : Program} {A : Ann} {o : Oper} {fr fr' : List AV} (h : ∀ x ∈ o.op.operands, opd fr x = opd fr' x) : stepP P A o fr = stepP P A o fr' := by
  obtain ⟨dst, op, type, pos, after, guard⟩ := o
  have pairs : ∀ ps : Array (Nat × Operand), (∀ x ∈ ps.map (·.2), opd fr x = opd fr' x) →
      (ps.toList.map fun (i, x) => (i, opd fr x)) = (ps.toList.map fun (i, x) => (i, opd fr' x)) := fun ps hp =>
    List.map_congr_left fun p hm => by
      obtain ⟨i, x⟩ := p
      simp only [hp x (Array.mem_map.2 ⟨(i, x), by simpa using hm, rfl⟩)]
  cases op <;> simp only [Op.operands] at h <;> simp only [stepP]
  case build t ps => rw [pairs ps fun x hx => h x (by simpa using hx)]
  case buildSlice t n ps => rw [pairs ps fun x hx => h x (by simpa using hx)]
  case makeFunc fn first captured =>
    have hc := operands_congr captured fun x hx => h x (by simp [hx])
    cases fn <;> simp only [hc]
  case call c =>
    have ha : operands fr c.args = operands fr' c.args := operands_congr c.args fun x hx => h x (by simp [Call.operands, hx])
    cases hc : c.callee with
    | value f => have hf : opd fr f = opd fr' f := h f (by simp [Call.operands, hc]); simp only [hf, ha]
    | invoke r m => rfl
    | builtin b => simp only [ha]
  case lookup t m k ok => rw [h m (by simp), h k (by simp)]
  case slice t x lo hi mx => cases lo <;> cases hi <;> cases mx <;> simp_all
  all_goals (first | rfl | (simp_all; done))
end Go.Ev
