/- The evaluator: a drawn region. -/
import Derived.Test.YtfgccfajhedgdaaE18
namespace Go.Ev
set_option linter.unusedSimpArgs false
set_option linter.unusedVariables false
set_option linter.unnecessarySimpa false
open Go Go.RowKit
structure Stp where
  l : List Ac
  v : AV
  ran : Bool
def Meets (ops : List Oper) (o : Oper) (fr : List AV) (b : Bool) : Prop := match o.guard with
  | none => b = true
  | some (g, want) => (∃ t c, (ops[g]?).bind (·.dst) = some t ∧ fr.getD t .un = .bool c ∧ b = (c == want)) ∨ (∃ t, (ops[g]?).bind (·.dst) = some t ∧ fr.getD t .un = .tup [] ∧ b = false)
structure StepAt (P : Program) (A : Ann) (cal : Nat → List D → Option (List D)) (ops : List Oper) (o : Oper) (st : Stp) (fr : List AV) (h : List Ent) (fr' : List AV) (h' : List Ent) : Prop where
  meets : Meets ops o fr st.ran
  did : st.ran = true → Run cal (stepP P A o fr) st.l st.v
  idle : st.ran = false → st.l = [] ∧ st.v = .tup []
  cons : Cons st.l (ent h)
  heap : ent h' = appl st.l (ent h)
  news : ∀ id ∈ news st.l, h.length ≤ id ∧ id < h'.length
  grow : h.length ≤ h'.length
  nodup : (Go.Ev.news st.l).Nodup
  fr : fr' = match o.dst with | some d => fr.set d st.v | none => fr
theorem put_fr (dst : Option Tmp) (v : AV) (s : St) : (put dst v s).fr = match dst with | some d => s.fr.set d v | none => s.fr := by cases dst <;> rfl
theorem put_h (dst : Option Tmp) (v : AV) (s : St) : (put dst v s).h = s.h := by cases dst <;> rfl
theorem put_pn (dst : Option Tmp) (v : AV) (s : St) : (put dst v s).pn = s.pn := by cases dst <;> rfl
def Walk (P : Program) (A : Ann) (cal : Nat → List D → Option (List D)) (ops rest : List Oper) (fr : Nat → List AV) (h : Nat → List Ent) (sts : List Stp) (trs : List (List Nat × List Nat)) : Prop :=
  sts.length = rest.length ∧ trs.length = rest.length ∧ ∀ k o st t, rest[k]? = some o → sts[k]? = some st → trs[k]? = some t →
    StepAt P A cal ops o st (fr k) (h k) (fr (k + 1)) (h (k + 1)) ∧ (∀ id, id ∈ t.1 ↔ id ∈ rds st.l) ∧ (∀ id, id ∈ t.2 ↔ id ∈ wrs st.l)
theorem walk_cons {P : Program} {A : Ann} {cal : Nat → List D → Option (List D)} {ops rest : List Oper} {o : Oper} {st : Stp} {t : List Nat × List Nat} {fr0 fr1 : List AV} {h0 h1 : List Ent} {fr : Nat → List AV} {h : Nat → List Ent} {sts : List Stp} {trs : List (List Nat × List Nat)}
    (S : StepAt P A cal ops o st fr0 h0 fr1 h1) (hr : ∀ id, id ∈ t.1 ↔ id ∈ rds st.l) (hw : ∀ id, id ∈ t.2 ↔ id ∈ wrs st.l) (e1 : fr 0 = fr1) (e2 : h 0 = h1) (W : Walk P A cal ops rest fr h sts trs) :
    Walk P A cal ops (o :: rest) (fun k => match k with | 0 => fr0 | k + 1 => fr k) (fun k => match k with | 0 => h0 | k + 1 => h k) (st :: sts) (t :: trs) := by
  obtain ⟨w1, w2, w3⟩ := W
  refine ⟨by simp [w1], by simp [w2], fun k o' st' t' a b c => ?_⟩
  cases k with
  | zero =>
    simp only [List.getElem?_cons_zero, Option.some.injEq] at a b c
    subst a b c e1 e2
    exact ⟨S, hr, hw⟩
  | succ k => exact w3 k o' st' t' (by simpa using a) (by simpa using b) (by simpa using c)
theorem walk {P : Program} {A : Ann} {cal : Nat → List D → Option (List D)} {inl : Inl} {ops : List Oper} {K : St → List (List Nat × List Nat) → R} {out : List D} : ∀ (rest : List Oper) (s : St) (tr : List (List Nat × List Nat)), evOps P A cal inl true ops rest s tr K = some out →
    ∃ (fr : Nat → List AV) (h : Nat → List Ent) (sts : List Stp) (trs : List (List Nat × List Nat)), fr 0 = s.fr ∧ h 0 = s.h ∧ K ⟨fr rest.length, s.pn, h rest.length⟩ (tr ++ trs) = some out ∧ Walk P A cal ops rest fr h sts trs
  | [], s, tr, e => by
    simp only [evOps] at e
    exact ⟨fun _ => s.fr, fun _ => s.h, [], [], rfl, rfl, by simpa using e, rfl, rfl, fun k o st t a => by simp at a⟩
  | o :: rest, s, tr, e => by
    have doing : ∀ (s0 : St), s0 = s → Meets ops o s.fr true → evOp P A cal inl true o s0 (fun v s t => evOps P A cal inl true ops rest (put o.dst v s) (tr ++ [t]) K) = some out →
        ∃ (fr : Nat → List AV) (h : Nat → List Ent) (sts : List Stp) (trs : List (List Nat × List Nat)), fr 0 = s.fr ∧ h 0 = s.h ∧ K ⟨fr (o :: rest).length, s.pn, h (o :: rest).length⟩ (tr ++ trs) = some out ∧ Walk P A cal ops (o :: rest) fr h sts trs := by
      intro s0 hs0 hm e1
      clear e
      subst hs0
      have e' : evPlain P A cal o s0 (fun v s t => evOps P A cal inl true ops rest (put o.dst v s) (tr ++ [t]) K) = some out := by
        unfold evOp at e1
        split at e1
        · split at e1
          · simpa using e1
          · exact e1
        · exact e1
      unfold evPlain at e'
      obtain ⟨l, v, h', R', W', k1, k2, k3, k4, k5, k6, k7, k8, k9⟩ := runP_run _ e'
      obtain ⟨fr, h, sts, trs, f1, f2, f3, f4⟩ := walk rest _ _ k4
      rw [put_fr] at f1
      rw [put_h] at f2
      rw [put_pn] at f3
      refine ⟨_, _, _, _, rfl, rfl, ?_, walk_cons (st := ⟨l, v, true⟩) (t := (R', W')) ⟨hm, fun _ => k1, (fun h => nomatch h), k2, k3, k5, k6, k9, rfl⟩ (by simpa using k7) (by simpa using k8) f1 f2 f4⟩
      simpa using f3
    have skip : ∀ (s0 : St), s0 = s → Meets ops o s.fr false → evOps P A cal inl true ops rest (put o.dst (.tup []) s0) (tr ++ [([], [])]) K = some out →
        ∃ (fr : Nat → List AV) (h : Nat → List Ent) (sts : List Stp) (trs : List (List Nat × List Nat)), fr 0 = s.fr ∧ h 0 = s.h ∧ K ⟨fr (o :: rest).length, s.pn, h (o :: rest).length⟩ (tr ++ trs) = some out ∧ Walk P A cal ops (o :: rest) fr h sts trs := by
      intro s0 hs0 hm e1
      clear e
      subst hs0
      obtain ⟨fr, h, sts, trs, f1, f2, f3, f4⟩ := walk rest _ _ e1
      rw [put_fr] at f1
      rw [put_h] at f2
      rw [put_pn] at f3
      refine ⟨_, _, _, _, rfl, rfl, ?_, walk_cons (st := ⟨[], .tup [], false⟩) (t := ([], [])) (fr0 := s0.fr) (h0 := s0.h) (h1 := s0.h) ⟨hm, (fun h => nomatch h), fun _ => ⟨rfl, rfl⟩, trivial, rfl, by simp [news], Nat.le_refl _, by simp [news], rfl⟩ (by simp [rds]) (by simp [wrs]) f1 f2 f4⟩
      simpa using f3
    simp only [evOps] at e
    split at e
    · rename_i hg
      exact doing s rfl (by simp [Meets, hg]) e
    · rename_i g want hg
      split at e
      · cases e
      · rename_i t ht
        split at e
        · rename_i b hb
          have hm : ∀ c, c = (b == want) → Meets ops o s.fr c := fun c hc => by simp only [Meets, hg]; exact .inl ⟨t, b, ht, hb, hc⟩
          cases b with
          | true =>
            rw [at_same hb] at e
            simp only [cond_true] at e
            cases want with
            | true => simp only [cond_true] at e; exact doing s rfl (hm _ rfl) e
            | false => simp only [cond_false] at e; exact skip s rfl (hm _ rfl) e
          | false =>
            rw [at_same hb] at e
            simp only [cond_false] at e
            cases want with
            | true => simp only [cond_true] at e; exact skip s rfl (hm _ rfl) e
            | false => simp only [cond_false] at e; exact doing s rfl (hm _ rfl) e
        · rename_i hb
          exact skip s rfl (by simp only [Meets, hg]; exact .inr ⟨t, ht, hb, trivial⟩) e
        · cases e

/-! ancestors -/
theorem hasB_eq (n i : Nat) : hasB n i = n.testBit i := by
  rw [Nat.testBit_eq_decide_div_mod_eq]
  show Nat.beq ((n >>> i) &&& 1) 1 = _
  rw [Nat.and_one_is_mod, Nat.shiftRight_eq_div_pow, Bool.eq_iff_iff, decide_eq_true_eq]
  exact ⟨Nat.eq_of_beq_eq_true, fun h => by rw [h]; rfl⟩
theorem hasB_zero (i : Nat) : hasB 0 i = false := by rw [hasB_eq, Nat.zero_testBit]
theorem hasB_lor (a b i : Nat) : hasB (Nat.lor a b) i = (hasB a i || hasB b i) := by
  rw [hasB_eq, hasB_eq, hasB_eq]; exact Nat.testBit_or a b i
theorem hasB_one {j i : Nat} (h : hasB (Nat.shiftLeft 1 j) i = true) : i = j := by
  rw [hasB_eq] at h
  have h' : (1 <<< j).testBit i = true := h
  rw [Nat.one_shiftLeft, Nat.testBit_two_pow] at h'
  exact (of_decide_eq_true h').symm
theorem ancRow_mem {k : Nat} {acc : List Nat} {o : Oper} {m : Nat} (h : hasB (ancRow k acc o) m = true) : ∃ e ∈ o.after.toList, Region.binds .any e = true ∧ (m = e.on ∨ hasB (ancLook k acc e.on) m = true) := by
  have key : ∀ (l : List Edge) (s : Nat), hasB (l.foldl (fun s e => cond (Region.binds .any e) (Nat.lor (Nat.lor (Nat.shiftLeft 1 e.on) (ancLook k acc e.on)) s) s) s) m = true → hasB s m = true ∨ ∃ e ∈ l, Region.binds .any e = true ∧ (m = e.on ∨ hasB (ancLook k acc e.on) m = true) := by
    intro l
    induction l with
    | nil => intro s h; exact .inl h
    | cons e l ih =>
      intro s h
      rw [List.foldl_cons] at h
      rcases ih _ h with h | ⟨e', h1, h2⟩
      · cases hb : Region.binds .any e with
        | true =>
          rw [hb, cond_true, hasB_lor, hasB_lor, Bool.or_eq_true, Bool.or_eq_true] at h
          rcases h with (h | h) | h
          · exact .inr ⟨e, by simp, hb, .inl (hasB_one h)⟩
          · exact .inr ⟨e, by simp, hb, .inr h⟩
          · exact .inl h
        | false => rw [hb, cond_false] at h; exact .inl h
      · exact .inr ⟨e', by simp [h1], h2⟩
  rcases key _ _ h with h | h
  · rw [hasB_zero] at h; cases h
  · exact h
theorem ancLook_cons {k : Nat} {acc : List Nat} {x i : Nat} (hl : acc.length = k) : ancLook (k + 1) (x :: acc) i = if i = k then x else ancLook k acc i := by
  simp only [ancLook]
  rcases Nat.lt_trichotomy i k with h | h | h
  · have h1 : Nat.ble (k + 1) i = false := by
      cases hb : Nat.ble (k + 1) i with
      | false => rfl
      | true => exact absurd (Nat.le_of_ble_eq_true hb) (by omega)
    have h2 : Nat.ble k i = false := by
      cases hb : Nat.ble k i with
      | false => rfl
      | true => exact absurd (Nat.le_of_ble_eq_true hb) (by omega)
    rw [h1, h2, cond_false, cond_false, if_neg (by omega), show k + 1 - (i + 1) = (k - (i + 1)) + 1 by omega]
    rfl
  · subst h
    have h1 : Nat.ble (i + 1) i = false := by
      cases hb : Nat.ble (i + 1) i with
      | false => rfl
      | true => exact absurd (Nat.le_of_ble_eq_true hb) (by omega)
    rw [h1, cond_false, if_pos rfl, Nat.sub_self]
    rfl
  · rw [Nat.ble_eq_true_of_le (by omega : k + 1 ≤ i), Nat.ble_eq_true_of_le (by omega : k ≤ i), if_neg (by omega)]
    rfl
def AncOk (pre : List Oper) (acc : List Nat) : Prop := acc.length = pre.length ∧ ∀ k m, hasB (ancLook pre.length acc k) m = true → ∃ o e, pre[k]? = some o ∧ e ∈ o.after.toList ∧ Region.binds .any e = true ∧ (m = e.on ∨ (e.on < k ∧ hasB (ancLook pre.length acc e.on) m = true))
theorem ancOk_go : ∀ (rest pre : List Oper) (acc : List Nat), AncOk pre acc → AncOk (pre ++ rest) (ancGo rest pre.length acc)
  | [], pre, acc, h => by simpa [ancGo] using h
  | o :: rest, pre, acc, h => by
    have := ancOk_go rest (pre ++ [o]) (ancRow pre.length acc o :: acc) ?_
    · simpa [ancGo] using this
    · obtain ⟨hl, h⟩ := h
      refine ⟨by simp [hl], fun k m hm => ?_⟩
      rw [show (pre ++ [o]).length = pre.length + 1 by simp, ancLook_cons hl] at hm
      have lk : ∀ i, i < pre.length → ancLook (pre ++ [o]).length (ancRow pre.length acc o :: acc) i = ancLook pre.length acc i := by
        intro i hi
        rw [show (pre ++ [o]).length = pre.length + 1 by simp, ancLook_cons hl, if_neg (by omega)]
      have small : ∀ i n, hasB (ancLook pre.length acc i) n = true → i < pre.length := by
        intro i n hh
        rcases Nat.lt_or_ge i pre.length with h | h
        · exact h
        · rw [ancLook, Nat.ble_eq_true_of_le h, cond_true, hasB_zero] at hh; cases hh
      by_cases hk : k = pre.length
      · rw [if_pos hk] at hm
        obtain ⟨e, h1, h2, h3⟩ := ancRow_mem hm
        refine ⟨o, e, by rw [hk]; simp, h1, h2, ?_⟩
        rcases h3 with h3 | h3
        · exact .inl h3
        · have hlt := small _ _ h3
          exact .inr ⟨by omega, by rw [lk _ hlt]; exact h3⟩
      · rw [if_neg hk] at hm
        have hlt := small _ _ hm
        obtain ⟨o', e, h1, h2, h3, h4⟩ := h k m hm
        refine ⟨o', e, by rw [List.getElem?_append_left hlt]; exact h1, h2, h3, ?_⟩
        rcases h4 with h4 | ⟨h4, h5⟩
        · exact .inl h4
        · exact .inr ⟨h4, by rw [lk _ (by omega)]; exact h5⟩
theorem anc_ok (ops : List Oper) : AncOk ops (ancGo ops 0 []) := by
  have := ancOk_go ops [] [] ⟨rfl, fun k m h => by
    rw [ancLook, Nat.ble_eq_true_of_le (show ([] : List Oper).length ≤ k from Nat.zero_le _), cond_true, hasB_zero] at h; cases h⟩
  rw [List.nil_append] at this
  exact this
/-- a set that holds, with each operation, what must stand ahead of it -/
def Closed (ops : List Oper) (E : Nat → Bool) : Prop := ∀ i o, E i = true → ops[i]? = some o → ∀ e ∈ o.after.toList, Region.binds .any e = true → E e.on = true
theorem anc_in {ops : List Oper} {E : Nat → Bool} (hc : Closed ops E) : ∀ (k m : Nat), ahead ops k m = true → (∀ o, ops[k]? = some o → ∀ e ∈ o.after.toList, Region.binds .any e = true → E e.on = true) → E m = true := by
  intro k
  induction k using Nat.strongRecOn with
  | _ k ih =>
    intro m hm hd
    obtain ⟨o, e, h1, h2, h3, h4⟩ := (anc_ok ops).2 k m hm
    have he := hd o h1 e h2 h3
    rcases h4 with rfl | ⟨h4, h5⟩
    · exact he
    · exact ih e.on h4 m h5 fun o' ho' e' he' hb' => hc e.on o' he ho' e' he' hb'
theorem apart_spec {ops : List Oper} {a b : Oper} {ra wa rb wb : List Nat} (h : apart ops a b ra wa rb wb = true) :
    (∀ d, a.dst = some d → d ∉ looks ops b ∧ b.dst ≠ some d) ∧ (∀ d, b.dst = some d → d ∉ looks ops a) ∧ (∀ x ∈ wa, x ∉ rb ∧ x ∉ wb) ∧ (∀ x ∈ wb, x ∉ ra) := by
  simp only [apart, Bool.and_eq_true, List.all_eq_true, Bool.not_eq_true', List.contains_eq_mem, decide_eq_false_iff_not] at h
  obtain ⟨⟨⟨h1, h2⟩, h3⟩, h4⟩ := h
  refine ⟨fun d hd => ?_, fun d hd => ?_, fun x hx => h3 x hx, fun x hx => h4 x hx⟩
  · rw [hd] at h1
    simp only [Bool.and_eq_true, Bool.not_eq_true', decide_eq_false_iff_not, bne_iff_ne, ne_eq] at h1
    exact h1
  · rw [hd] at h2
    simpa using h2
theorem bern_spec {ops : List Oper} {tr : List (List Nat × List Nat)} (h : bern ops tr = true) :
    (∀ j o, ops[j]? = some o → ∀ e ∈ o.after.toList, Region.binds .any e = true → e.on < j) ∧
    (∀ i j a b ta tb, i < j → ops[i]? = some a → ops[j]? = some b → tr[i]? = some ta → tr[j]? = some tb → ahead ops j i = true ∨ apart ops a b ta.1 ta.2 tb.1 tb.2 = true) := by
  simp only [bern, List.all_eq_true, List.mem_range, Bool.and_eq_true] at h
  have lt : ∀ j o, ops[j]? = some o → j < ops.length := fun j o ho => (List.getElem?_eq_some_iff.1 ho).1
  refine ⟨fun j o ho e he hb => ?_, fun i j a b ta tb hij ha hb hta htb => ?_⟩
  · have := (h j (lt j o ho)).1
    rw [ho] at this
    simp only [List.all_eq_true, Bool.or_eq_true, Bool.not_eq_true', decide_eq_true_eq] at this
    rcases this e he with h1 | h1
    · rw [hb] at h1; cases h1
    · exact h1
  · have := (h j (lt j b hb)).2 i hij
    rw [ha, hb, hta, htb] at this
    simp only [Bool.or_eq_true] at this
    exact this
end Go.Ev
