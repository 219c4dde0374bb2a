/- The evaluator: operations in any order that their marks allow. -/
import Derived.Test.YtfgccfajhedgdaaE17
import Derived.Orders
namespace Go.Ev
set_option linter.unusedSimpArgs false
set_option linter.unusedVariables false
set_option linter.unnecessarySimpa false
open Go Go.RowKit

/-! what the operations of a set have written -/
section
variable {V : Type} (wr : Nat → Nat → Option V) (x0 : Nat → V)
def acc (E : Nat → Bool) : Nat → Nat → V
  | 0 => x0
  | k + 1 => fun loc => if E k then (wr k loc).getD (acc E k loc) else acc E k loc
def allE : Nat → Bool := fun _ => true
theorem acc_pre {E : Nat → Bool} {loc j : Nat} (h : ∀ i, i < j → (wr i loc).isSome = true → E i = true) : ∀ k, k ≤ j → acc wr x0 E k loc = acc wr x0 allE k loc
  | 0, _ => rfl
  | k + 1, hk => by
    have ih := acc_pre h k (by omega)
    simp only [acc, allE, if_true]
    rw [ih]
    cases hw : wr k loc with
    | none => simp
    | some v => rw [h k (by omega) (by simp [hw])]; simp
theorem acc_post {E : Nat → Bool} {loc j : Nat} (h : ∀ i, j ≤ i → (wr i loc).isSome = true → E i = false) : ∀ k, j ≤ k → acc wr x0 E k loc = acc wr x0 E j loc
  | 0, hk => by have : j = 0 := by omega
                rw [this]
  | k + 1, hk => by
    by_cases hj : j = k + 1
    · rw [hj]
    · have ih := acc_post h k (by omega)
      simp only [acc]
      rw [ih]
      cases hw : wr k loc with
      | none => simp
      | some v => rw [h k (by omega) (by simp [hw])]; simp
/-- at what j looks at, the set's writings are those of the row up to j -/
theorem acc_at {E : Nat → Bool} {loc j n : Nat} (hj : E j = false) (hn : j ≤ n) (h1 : ∀ i, i < j → (wr i loc).isSome = true → E i = true) (h2 : ∀ i, j < i → (wr i loc).isSome = true → E i = false) :
    acc wr x0 E n loc = acc wr x0 allE j loc := by
  rw [acc_post wr x0 (E := E) (loc := loc) (j := j) (fun i hi hw => ?_) n hn]
  · exact acc_pre wr x0 h1 j (Nat.le_refl _)
  · by_cases hij : i = j
    · rw [hij]; exact hj
    · exact h2 i (by omega) hw
def add (E : Nat → Bool) (j : Nat) : Nat → Bool := fun i => if i = j then true else E i
theorem acc_add {E : Nat → Bool} {j : Nat} {loc : Nat} (hj : E j = false) (h : (wr j loc).isSome = true → ∀ i, j < i → (wr i loc).isSome = true → E i = false) : ∀ n, j < n → acc wr x0 (add E j) n loc = (wr j loc).getD (acc wr x0 E n loc) := by
  have pre : ∀ k, k ≤ j → acc wr x0 (add E j) k loc = acc wr x0 E k loc := by
    intro k
    induction k with
    | zero => intro _; rfl
    | succ k ih =>
      intro hk
      simp only [acc]
      rw [ih (by omega)]
      have : add E j k = E k := by simp only [add]; rw [if_neg (by omega)]
      rw [this]
  intro n
  induction n with
  | zero => intro h0; omega
  | succ n ih =>
    intro hn
    by_cases hjn : n = j
    · subst hjn
      simp only [acc]
      rw [pre n (Nat.le_refl _)]
      have : add E n n = true := by simp [add]
      rw [this, hj]
      simp
    · have ih := ih (by omega)
      simp only [acc]
      rw [ih]
      have : add E j n = E n := by simp only [add]; rw [if_neg hjn]
      rw [this]
      cases hE : E n with
      | false => simp
      | true =>
        simp only [if_true]
        cases hw : wr n loc with
        | none => simp
        | some v =>
          cases hwj : wr j loc with
          | none => simp
          | some u =>
            have := h (by simp [hwj]) n (by omega) (by simp [hw])
            rw [hE] at this; cases this
end

/-! counting what is left -/
def cnt (E : Nat → Bool) : Nat → Nat
  | 0 => 0
  | k + 1 => cnt E k + (if E k then 0 else 1)
theorem cnt_add {E : Nat → Bool} {j : Nat} (hj : E j = false) : ∀ n, (j < n → cnt (add E j) n + 1 = cnt E n) ∧ (n ≤ j → cnt (add E j) n = cnt E n)
  | 0 => ⟨fun h => by omega, fun _ => rfl⟩
  | n + 1 => by
    obtain ⟨h1, h2⟩ := cnt_add hj n
    refine ⟨fun h => ?_, fun h => ?_⟩
    · simp only [cnt]
      by_cases hjn : n = j
      · subst hjn
        rw [h2 (Nat.le_refl _), hj]
        simp [add]
      · have := h1 (by omega)
        have e : add E j n = E n := by simp only [add]; rw [if_neg hjn]
        rw [e]; omega
    · simp only [cnt]
      have e : add E j n = E n := by simp only [add]; rw [if_neg (by omega)]
      rw [e, h2 (by omega)]
theorem cnt_zero {E : Nat → Bool} : ∀ {n : Nat}, cnt E n = 0 → ∀ i, i < n → E i = true
  | 0, _, i, hi => by omega
  | n + 1, h, i, hi => by
    simp only [cnt] at h
    by_cases hin : i = n
    · subst hin
      cases hE : E i with
      | true => rfl
      | false => rw [hE] at h; simp at h
    · exact cnt_zero (n := n) (by omega) i (by omega)
theorem cnt_all {E : Nat → Bool} : ∀ {n : Nat}, (∀ i, i < n → E i = true) → cnt E n = 0
  | 0, _ => rfl
  | n + 1, h => by simp only [cnt]; rw [cnt_all fun i hi => h i (by omega), h n (by omega)]; simp
theorem cnt_none : ∀ (n : Nat), cnt (fun _ => false) n = n
  | 0 => rfl
  | n + 1 => by simp only [cnt]; rw [cnt_none n]; simp

/-! the last entry that was written -/
def lastW : List Ac → Nat → Option Ent
  | [], _ => none
  | .rd _ _ :: l, i => lastW l i
  | .wr id e :: l, i => (lastW l i).or (if i = id then some e else none)
  | .new id e :: l, i => (lastW l i).or (if i = id then some e else none)
  | .call _ _ _ :: l, i => lastW l i
theorem appl_lastW : ∀ (l : List Ac) (g : Hp) (i : Nat), appl l g i = (lastW l i).getD (g i)
  | [], g, i => rfl
  | .rd _ _ :: l, g, i => appl_lastW l g i
  | .call _ _ _ :: l, g, i => appl_lastW l g i
  | .wr id e :: l, g, i => by
    simp only [appl, lastW]
    rw [appl_lastW l _ i]
    cases lastW l i with
    | some v => simp
    | none => by_cases h : i = id <;> simp [h, upd]
  | .new id e :: l, g, i => by
    simp only [appl, lastW]
    rw [appl_lastW l _ i]
    cases lastW l i with
    | some v => simp
    | none => by_cases h : i = id <;> simp [h, upd]
theorem lastW_wrs : ∀ (l : List Ac) (i : Nat), (lastW l i).isSome = true ↔ i ∈ wrs l
  | [], i => by simp [lastW, wrs]
  | .rd _ _ :: l, i => by simpa [lastW, wrs] using lastW_wrs l i
  | .call _ _ _ :: l, i => by simpa [lastW, wrs] using lastW_wrs l i
  | .wr id e :: l, i => by
    have := lastW_wrs l i
    simp only [lastW, wrs, List.mem_cons, Option.isSome_or, Bool.or_eq_true, this]
    by_cases h : i = id <;> simp [h]
  | .new id e :: l, i => by
    have := lastW_wrs l i
    simp only [lastW, wrs, List.mem_cons, Option.isSome_or, Bool.or_eq_true, this]
    by_cases h : i = id <;> simp [h]
theorem Cons.congr : ∀ {l : List Ac} {g g' : Hp}, Cons l g → (∀ i, i ∈ rds l ∨ i ∈ wrs l → g' i = g i) → Cons l g'
  | [], g, g', h, e => trivial
  | .rd id x :: l, g, g', h, e => ⟨by rw [e id (by simp [rds])]; exact h.1, Cons.congr h.2 fun i hi => e i (by rcases hi with h | h <;> simp [rds, wrs, h])⟩
  | .call _ _ _ :: l, g, g', h, e => Cons.congr (l := l) h fun i hi => e i (by rcases hi with h | h <;> simp [rds, wrs, h])
  | .wr id x :: l, g, g', h, e => ⟨by rw [e id (by simp [wrs])]; exact h.1, Cons.congr h.2 fun i hi => by
      by_cases hii : i = id
      · subst hii; rw [upd_same, upd_same]
      · rw [upd_other _ _ hii, upd_other _ _ hii]; exact e i (by rcases hi with h | h <;> simp [rds, wrs, h])⟩
  | .new id x :: l, g, g', h, e => ⟨by rw [e id (by simp [wrs])]; exact h.1, Cons.congr h.2 fun i hi => by
      by_cases hii : i = id
      · subst hii; rw [upd_same, upd_same]
      · rw [upd_other _ _ hii, upd_other _ _ hii]; exact e i (by rcases hi with h | h <;> simp [rds, wrs, h])⟩
theorem news_wrs : ∀ {l : List Ac} {i : Nat}, i ∈ news l → i ∈ wrs l
  | .rd _ _ :: l, i, h => by simpa [wrs] using news_wrs (l := l) (by simpa [news] using h)
  | .call _ _ _ :: l, i, h => by simpa [wrs] using news_wrs (l := l) (by simpa [news] using h)
  | .wr id e :: l, i, h => by simp only [wrs, List.mem_cons]; exact .inr (news_wrs (l := l) (by simpa [news] using h))
  | .new id e :: l, i, h => by
    simp only [news, wrs, List.mem_cons] at h ⊢
    exact h.imp (fun h => h) news_wrs

/-! an operation sees its operands alone -/
theorem operands_congr {fr fr' : List AV} (xs : Array Operand) (h : ∀ x ∈ xs, opd fr x = opd fr' x) : operands fr xs = operands fr' xs := by
  unfold operands
  exact List.map_congr_left fun x hx => h x (by simpa using hx)
theorem stepP_congr {P : Program} {A : Ann} {o : Oper} {fr fr' : List AV} (h : ∀ x ∈ o.op.operands, opd fr x = opd fr' x) : stepP P A o fr = stepP P A o fr' := by
  obtain ⟨dst, op, type, pos, after, guard⟩ := o
  have pairs : ∀ ps : Array (Nat × Operand), (∀ x ∈ ps.map (·.2), opd fr x = opd fr' x) →
      (ps.toList.map fun (i, x) => (i, opd fr x)) = (ps.toList.map fun (i, x) => (i, opd fr' x)) := fun ps hp =>
    List.map_congr_left fun p hm => by
      obtain ⟨i, x⟩ := p
      simp only [hp x (Array.mem_map.2 ⟨(i, x), by simpa using hm, rfl⟩)]
  cases op <;> simp only [Op.operands] at h <;> simp only [stepP]
  case build t ps => rw [pairs ps fun x hx => h x (by simpa using hx)]
  case buildSlice t n ps => rw [pairs ps fun x hx => h x (by simpa using hx)]
  case makeFunc fn first captured =>
    have hc := operands_congr captured fun x hx => h x (by simp [hx])
    cases fn <;> simp only [hc]
  case call c =>
    have ha : operands fr c.args = operands fr' c.args := operands_congr c.args fun x hx => h x (by simp [Call.operands, hx])
    cases hc : c.callee with
    | value f => have hf : opd fr f = opd fr' f := h f (by simp [Call.operands, hc]); simp only [hf, ha]
    | invoke r m => rfl
    | builtin b => simp only [ha]
  case lookup t m k ok => rw [h m (by simp), h k (by simp)]
  case slice t x lo hi mx => cases lo <;> cases hi <;> cases mx <;> simp_all
  all_goals (first | rfl | (simp_all; done))
end Go.Ev
