/- The evaluator: a run of one operation's asks as a list of steps, and what memory keeps. -/
import Derived.Test.YtfgccfajhedgdaaE1
namespace Go.Ev
set_option linter.unusedSimpArgs false
set_option linter.unusedVariables false
open Go Go.RowKit

inductive Ac where
  | rd (id : Nat) (e : Ent)
  | wr (id : Nat) (e : Ent)
  | new (id : Nat) (e : Ent)
  | call (f : Nat) (ds rs : List D)

inductive Run (cal : Nat → List D → Option (List D)) {α : Type} : Prog α → List Ac → α → Prop
  | ret (a : α) : Run cal (.ret a) [] a
  | rd {id : Nat} {e : Ent} {k : Ent → Prog α} {l : List Ac} {a : α} : Run cal (k e) l a → Run cal (.rd id k) (.rd id e :: l) a
  | wr {id : Nat} {e : Ent} {k : Prog α} {l : List Ac} {a : α} : Run cal k l a → Run cal (.wr id e k) (.wr id e :: l) a
  | new {id : Nat} {e : Ent} {k : Nat → Prog α} {l : List Ac} {a : α} : Run cal (k id) l a → Run cal (.new e k) (.new id e :: l) a
  | chk {c : Bool} {k : Prog α} {l : List Ac} {a : α} : c = true → Run cal k l a → Run cal (.chk c k) l a
  | brT {c : Bool} {k₁ k₂ : Prog α} {l : List Ac} {a : α} : c = true → Run cal k₁ l a → Run cal (.br c k₁ k₂) l a
  | brF {c : Bool} {k₁ k₂ : Prog α} {l : List Ac} {a : α} : c = false → Run cal k₂ l a → Run cal (.br c k₁ k₂) l a
  | call {f : Nat} {ds rs : List D} {k : List D → Prog α} {l : List Ac} {a : α} : cal f ds = some rs → Run cal (k rs) l a → Run cal (.call f ds k) (.call f ds rs :: l) a

def upd (g : Hp) (id : Nat) (e : Ent) : Hp := fun i => if i = id then e else g i
@[simp] theorem upd_same (g : Hp) (id : Nat) (e : Ent) : upd g id e id = e := by simp [upd]
theorem upd_other (g : Hp) {id i : Nat} (e : Ent) (h : i ≠ id) : upd g id e i = g i := by simp [upd, h]
def Cons : List Ac → Hp → Prop
  | [], _ => True
  | .rd id e :: l, g => g id = e ∧ Cons l g
  | .wr id e :: l, g => g id ≠ .dead ∧ Cons l (upd g id e)
  | .new id e :: l, g => g id = .dead ∧ Cons l (upd g id e)
  | .call _ _ _ :: l, g => Cons l g
def appl : List Ac → Hp → Hp
  | [], g => g
  | .rd _ _ :: l, g => appl l g
  | .wr id e :: l, g => appl l (upd g id e)
  | .new id e :: l, g => appl l (upd g id e)
  | .call _ _ _ :: l, g => appl l g
def news : List Ac → List Nat
  | [] => []
  | .new id _ :: l => id :: news l
  | _ :: l => news l
def rds : List Ac → List Nat
  | [] => []
  | .rd id _ :: l => id :: rds l
  | _ :: l => rds l
def wrs : List Ac → List Nat
  | [] => []
  | .wr id _ :: l => id :: wrs l
  | .new id _ :: l => id :: wrs l
  | _ :: l => wrs l

theorem ent_set (h : List Ent) (id : Nat) (e : Ent) (hd : ent h id ≠ .dead) : ent (h.set id e) = upd (ent h) id e := by
  have hlt : id < h.length := by
    rcases Nat.lt_or_ge id h.length with hl | hl
    · exact hl
    · exact absurd (by simp [ent, hl]) hd
  funext i
  by_cases hi : i = id
  · subst hi; simp [ent, hlt]
  · rw [upd_other _ _ hi]; simp [ent, List.getElem?_set, Ne.symm hi]
theorem ent_push (h : List Ent) (e : Ent) : ent (h ++ [e]) = upd (ent h) h.length e := by
  funext i
  by_cases hi : i = h.length
  · subst hi; simp [ent]
  · rw [upd_other _ _ hi]
    rcases Nat.lt_or_ge i h.length with hl | hl
    · simp [ent, List.getElem?_append_left hl]
    · have : h.length < i := by omega
      simp only [ent, List.getD_eq_getElem?_getD]
      rw [List.getElem?_eq_none (by simp; omega), List.getElem?_eq_none (by omega)]
theorem ent_ge (h : List Ent) (id : Nat) (hl : h.length ≤ id) : ent h id = .dead := by simp [ent, hl]

theorem runP_run {cal : Nat → List D → Option (List D)} {α ω : Type} (p : Prog α) : ∀ {h : List Ent} {R W : List Nat} {K : α → List Ent → List Nat → List Nat → Option ω} {out : ω},
    runP cal p h R W K = some out → ∃ l v h' R' W', Run cal p l v ∧ Cons l (ent h) ∧ ent h' = appl l (ent h) ∧ K v h' R' W' = some out ∧
      (∀ id ∈ news l, h.length ≤ id ∧ id < h'.length) ∧ h.length ≤ h'.length ∧ (∀ id, id ∈ R' ↔ id ∈ rds l ∨ id ∈ R) ∧ (∀ id, id ∈ W' ↔ id ∈ wrs l ∨ id ∈ W) ∧ (news l).Nodup := by
  induction p with
  | ret a =>
    intro h R W K out hr
    simp only [runP] at hr
    exact ⟨[], a, h, R, W, .ret a, trivial, rfl, hr, by simp [news], Nat.le_refl _, by simp [rds], by simp [wrs], by simp [news]⟩
  | rd id k ih =>
    intro h R W K out hr
    simp only [runP] at hr
    obtain ⟨l, v, h', R', W', h1, h2, h3, h4, h5, h6, h7, h8, h9⟩ := ih _ hr
    refine ⟨.rd id (ent h id) :: l, v, h', R', W', .rd h1, ⟨rfl, h2⟩, h3, h4, h5, h6, ?_, h8, h9⟩
    intro i; rw [h7]; simp [rds]
    constructor
    · rintro (a | a | a) <;> simp [a]
    · rintro ((a | a) | a) <;> simp [a]
  | wr id e k ih =>
    intro h R W K out hr
    have hd : ent h id ≠ .dead := by intro hd; simp only [runP, hd] at hr; cases hr
    have hr' : runP cal k (h.set id e) R (id :: W) K = some out := by
      simp only [runP] at hr
      split at hr
      · cases hr
      · exact hr
      · exact hr
      · exact hr
    obtain ⟨l, v, h', R', W', h1, h2, h3, h4, h5, h6, h7, h8, h9⟩ := ih hr'
    rw [ent_set h id e hd] at h2 h3
    refine ⟨.wr id e :: l, v, h', R', W', .wr h1, ⟨hd, h2⟩, h3, h4, fun i hi => by simpa using h5 i (by simpa [news] using hi), by simpa using h6, h7, ?_, h9⟩
    intro i; rw [h8]; simp [wrs]
    constructor
    · rintro (a | a | a) <;> simp [a]
    · rintro ((a | a) | a) <;> simp [a]
  | new e k ih =>
    intro h R W K out hr
    simp only [runP] at hr
    obtain ⟨l, v, h', R', W', h1, h2, h3, h4, h5, h6, h7, h8, h9⟩ := ih _ hr
    rw [ent_push] at h2 h3
    rw [List.length_append] at h5 h6
    simp only [List.length_cons, List.length_nil] at h5 h6
    refine ⟨.new h.length e :: l, v, h', R', W', .new h1, ⟨ent_ge h _ (Nat.le_refl _), h2⟩, h3, h4, ?_, by omega, h7, ?_, ?_⟩
    rotate_left
    · intro i; rw [h8]; simp [wrs]
      constructor
      · rintro (a | a | a) <;> simp [a]
      · rintro ((a | a) | a) <;> simp [a]
    · simp only [news, List.nodup_cons]
      exact ⟨fun hm => by have := h5 _ hm; omega, h9⟩
    intro i hi
    simp only [news, List.mem_cons] at hi
    rcases hi with rfl | hi
    · omega
    · have := h5 i hi; omega
  | chk c k ih =>
    intro h R W K out hr
    cases c with
    | false => simp [runP] at hr
    | true =>
      simp only [runP, cond_true] at hr
      obtain ⟨l, v, h', R', W', h1, h2⟩ := ih hr
      exact ⟨l, v, h', R', W', .chk rfl h1, h2⟩
  | br c k₁ k₂ ih₁ ih₂ =>
    intro h R W K out hr
    cases c with
    | false =>
      simp only [runP, cond_false] at hr
      obtain ⟨l, v, h', R', W', h1, h2⟩ := ih₂ hr
      exact ⟨l, v, h', R', W', .brF rfl h1, h2⟩
    | true =>
      simp only [runP, cond_true] at hr
      obtain ⟨l, v, h', R', W', h1, h2⟩ := ih₁ hr
      exact ⟨l, v, h', R', W', .brT rfl h1, h2⟩
  | call f ds k ih =>
    intro h R W K out hr
    simp only [runP] at hr
    cases hc : cal f ds with
    | none => rw [hc] at hr; cases hr
    | some rs =>
      rw [hc] at hr
      simp only [Option.bind_some] at hr
      obtain ⟨l, v, h', R', W', h1, h2, h3, h4, h5⟩ := ih _ hr
      exact ⟨.call f ds rs :: l, v, h', R', W', .call hc h1, h2, h3, h4, h5⟩
  | fail =>
    intro h R W K out hr
    simp [runP] at hr

/-! memory -/
theorem addr_add_zero (x : Addr) : x.add 0 = x := rfl
theorem addr_block (x : Addr) (n : Nat) : (x.add n).block = x.block := by unfold Addr.add; split <;> rfl
theorem addr_off (x : Addr) (n : Nat) : (x.add n).off = x.off + n := by unfold Addr.add; split <;> simp_all
theorem addr_add_add (x : Addr) (m n : Nat) : (x.add m).add n = x.add (m + n) := by
  unfold Addr.add
  by_cases hm : m = 0
  · subst hm; simp
  · by_cases hn : n = 0
    · subst hn; simp [hm]
    · have : ¬ m + n = 0 := by omega
      simp [hm, hn, this]; omega

theorem RepE.mono {ρ ρ' : Env} (h : Sub ρ ρ') {w : World} {p : Plc} {e : Ent} (r : RepE ρ w p e) : RepE ρ' w p e := by
  cases e with
  | dead => trivial
  | box own cs =>
    obtain ⟨h1, x, vs, h2, h3, h4, h5⟩ := r
    exact ⟨h1, x, vs, h2, h3, RepVs.mono h _ _ h4, h5⟩
  | arr own nil a => exact r
  | mp l => exact r
theorem RepE.frame {ρ : Env} {w w' : World} {p : Plc} {e : Ent} {N : Nat → Nat → Prop} (r : RepE ρ w p e) (f : Fr N w w') (hd : ∀ b off, foot p e b off → ¬ N b off) : RepE ρ w' p e := by
  cases e with
  | dead => trivial
  | box own cs =>
    obtain ⟨h1, x, vs, h2, h3, h4, h5, h6⟩ := r
    refine ⟨h1, x, vs, h2, h3, h4, ?_, ?_⟩
    · intro j u hj
      have hc := h5 j u hj
      refine f.cell hc (hd _ _ ⟨x, h2, (addr_block x j).symm, ?_, ?_⟩)
      · rw [addr_off]; omega
      · rw [addr_off]
        have := (List.getElem?_eq_some_iff.1 hj).1
        rw [h4.length] at this; omega
    · intro ho
      have h7 := h6 ho
      intro j hj
      have hc := h5 j _ (List.getElem?_eq_getElem hj)
      rw [f.frozen (World.block_lt_of_cell? w _ hc)]
      exact h7 j hj
  | arr own nil a =>
    obtain ⟨h1, h2, h3, h4, h5, h6⟩ := r
    refine ⟨h1, h2, h3, h4, ?_, ?_⟩
    · intro x hx
      obtain ⟨h7, h8⟩ := h5 x hx
      refine ⟨h7, fun j u hj => f.cell (h8 j u hj) (hd _ _ ⟨x, hx, (addr_block x j).symm, .inr ⟨?_, ?_⟩⟩)⟩
      · rw [addr_off]; omega
      · rw [addr_off]
        have := (List.getElem?_eq_some_iff.1 hj).1
        rw [a.cells_length] at this; omega
    · intro ho
      obtain ⟨e, he⟩ := h6 ho
      refine ⟨e, he.1, ?_⟩
      rcases he.2 with hn | ⟨b, cap, cur, hv, hb, hg, hle, hm, hs, ht⟩
      · exact .inl hn
      · refine .inr ⟨b, cap, cur, hv, hb, ?_, hle, hm, hs, ht⟩
        have hbase : p.base = some ⟨b, 0, none⟩ := by simpa using congrArg (fun v => match v with | Value.slice x _ _ => x | _ => none) hv
        have hlt := (Array.getElem?_eq_some_iff.1 hg).1
        rcases f.shell b hlt with ⟨c1, c2, t, z, k1, k2, k3, k4⟩ | k1 | ⟨m1, t1, m2, t2, k1, k2, k3⟩
        · rw [hg] at k1
          cases k1
          rw [k2]
          have : c2 = cur := Array.ext_getElem? fun i => k4 i (hd b i ⟨_, hbase, rfl, .inl ho⟩)
          rw [this]
        · rw [k1]; exact hg
        · rw [hg] at k1; cases k1
  | mp l =>
    obtain ⟨x, es, ck, h1, h2, h3⟩ := r
    refine ⟨x, ?_⟩
    rcases f.shell x.block (Array.getElem?_eq_some_iff.1 h2).1 with ⟨c1, c2, t, z, k1, k2, k3, k4⟩ | k1 | ⟨m1, t1, m2, t2, k1, k2, k3⟩
    · rw [h2] at k1; cases k1
    · exact ⟨es, ck, h1, by rw [k1]; exact h2, h3⟩
    · exact absurd k3 (hd _ _ ⟨x, h1, rfl⟩)

structure Inv (w0 : World) (M : Nat → Nat → Prop) (ρ : Env) (g : Hp) (w : World) : Prop where
  ok : HeapOk ρ g w
  fr : Fr M w0 w
  own : ∀ id p, ρ id = some p → (g id).own = true → ∀ b off, foot p (g id) b off → M b off ∨ w0.heap.size ≤ b

/-- the blocks of an entry are there -/
theorem RepE.lt {ρ : Env} {w : World} {p : Plc} {e : Ent} (r : RepE ρ w p e) : ∀ b off, foot p e b off → (∃ own nil a, e = .arr own nil a ∧ own = true ∧ p.len = 0) ∨ b < w.heap.size := by
  intro b off hf
  cases e with
  | dead => exact hf.elim
  | box own cs =>
    obtain ⟨h1, x, vs, h2, h3, h4, h5, h6⟩ := r
    obtain ⟨y, hy, rfl, hlo, hhi⟩ := hf
    rw [h2] at hy; cases hy
    have hj : off - x.off < vs.length := by rw [h4.length]; omega
    have := World.block_lt_of_cell? w _ (h5 (off - x.off) _ (List.getElem?_eq_getElem hj))
    rw [addr_block] at this
    exact .inr this
  | arr own nil a =>
    obtain ⟨h1, h2, h3, h4, h5, h6⟩ := r
    obtain ⟨y, hy, rfl, ho⟩ := hf
    rcases ho with ho | ⟨hlo, hhi⟩
    · obtain ⟨e, he⟩ := h6 ho
      right
      exact (he.lt y.block (by simp [Value.ownBlock, hy])).2
    · have hj : off - y.off < a.cells.length := by rw [a.cells_length]; omega
      have := World.block_lt_of_cell? w _ ((h5 y hy).2 (off - y.off) _ (List.getElem?_eq_getElem hj))
      rw [addr_block] at this
      exact .inr this
  | mp l =>
    obtain ⟨x, es, ck, h1, h2, h3⟩ := r
    obtain ⟨y, hy, rfl⟩ := hf
    rw [h1] at hy; cases hy
    exact .inr (Array.getElem?_eq_some_iff.1 h2).1
theorem RepE.lt' {ρ : Env} {w : World} {p : Plc} {e : Ent} (r : RepE ρ w p e) : ∀ b off, foot p e b off → b < w.heap.size := by
  intro b off hf
  rcases r.lt b off hf with ⟨own, nil, a, rfl, ho, _⟩ | h
  · obtain ⟨y, hy, rfl, _⟩ := hf
    obtain ⟨e, he⟩ := r.2.2.2.2.2 ho
    exact (he.lt y.block (by simp [Value.ownBlock, hy])).2
  · exact h

def updρ (ρ : Env) (id : Nat) (p : Plc) : Env := fun i => if i = id then some p else ρ i
theorem updρ_same (ρ : Env) (id : Nat) (p : Plc) : updρ ρ id p id = some p := by simp [updρ]
theorem updρ_other (ρ : Env) {id i : Nat} (p : Plc) (h : i ≠ id) : updρ ρ id p i = ρ i := by simp [updρ, h]
theorem sub_updρ {ρ : Env} {id : Nat} {p : Plc} (h : ρ id = none) : Sub ρ (updρ ρ id p) := by
  intro i q hq
  by_cases hi : i = id
  · subst hi; rw [h] at hq; cases hq
  · rw [updρ_other _ _ hi]; exact hq

/-- a new entry -/
theorem Inv.new {w0 : World} {M : Nat → Nat → Prop} {ρ : Env} {g : Hp} {w w' : World} (I : Inv w0 M ρ g w) {id : Nat} {p : Plc} {e : Ent} (hid : ρ id = none)
    (hw : Fr (fun _ _ => False) w w') (hr : RepE (updρ ρ id p) w' p e)
    (hs : (e.own = true ∧ ∀ b off, foot p e b off → w.heap.size ≤ b) ∨ (e.own = false ∧ ∀ j q, ρ j = some q → (g j).own = true → ∀ b off, foot q (g j) b off → ¬ foot p e b off)) :
    Inv w0 M (updρ ρ id p) (upd g id e) w' := by
  have hold : ∀ i, g i ≠ .dead → i ≠ id := by
    intro i hi e'
    subst e'
    obtain ⟨q, hq, _⟩ := I.ok.rep _ hi
    rw [hid] at hq; cases hq
  refine ⟨⟨?_, ?_⟩, (I.fr.trans (hw.mono (fun _ _ _ h => h.elim))), ?_⟩
  · intro i hi
    by_cases hii : i = id
    · subst hii; rw [upd_same] at hi ⊢; exact ⟨p, updρ_same _ _ _, hr⟩
    · rw [upd_other _ _ hii] at hi ⊢
      obtain ⟨q, hq, hrq⟩ := I.ok.rep i hi
      exact ⟨q, by rw [updρ_other _ _ hii]; exact hq, (hrq.mono (sub_updρ hid)).frame hw (fun _ _ _ h => h)⟩
  · intro i j q r hij hq hrr ho b off hf hf'
    by_cases hii : i = id
    · subst hii
      rw [updρ_same] at hq; cases hq
      rw [upd_same] at ho hf
      have hji : j ≠ i := Ne.symm hij
      rw [updρ_other _ _ hji] at hrr
      rw [upd_other _ _ hji] at hf'
      rcases hs with ⟨_, hge⟩ | ⟨h0, _⟩
      · have hb := hge b off hf
        have hnd : g j ≠ .dead := by intro h0; rw [h0] at hf'; exact hf'
        obtain ⟨q', hq', hrq⟩ := I.ok.rep j hnd
        rw [hrr] at hq'; cases hq'
        have := hrq.lt' b off hf'
        omega
      · rw [h0] at ho; cases ho
    · rw [updρ_other _ _ hii] at hq
      rw [upd_other _ _ hii] at ho hf
      by_cases hjj : j = id
      · subst hjj
        rw [updρ_same] at hrr; cases hrr
        rw [upd_same] at hf'
        rcases hs with ⟨_, hge⟩ | ⟨_, hne⟩
        · have hb := hge b off hf'
          have hnd : g i ≠ .dead := by intro h0; rw [h0] at hf; exact hf
          obtain ⟨q', hq', hrq⟩ := I.ok.rep i hnd
          rw [hq] at hq'; cases hq'
          have := hrq.lt' b off hf
          omega
        · exact hne i q hq ho b off hf hf'
      · rw [updρ_other _ _ hjj] at hrr
        rw [upd_other _ _ hjj] at hf'
        exact I.ok.sep i j q r hij hq hrr ho b off hf hf'
  · intro i q hq ho b off hf
    by_cases hii : i = id
    · subst hii
      rw [updρ_same] at hq; cases hq
      rw [upd_same] at ho hf
      rcases hs with ⟨_, hge⟩ | ⟨h0, _⟩
      · exact .inr (Nat.le_trans I.fr.size (hge b off hf))
      · rw [h0] at ho; cases ho
    · rw [updρ_other _ _ hii] at hq
      rw [upd_other _ _ hii] at ho hf
      exact I.own i q hq ho b off hf

/-- an entry is given up -/
theorem Inv.kill {w0 : World} {M : Nat → Nat → Prop} {ρ : Env} {g : Hp} {w : World} (I : Inv w0 M ρ g w) (id : Nat) : Inv w0 M ρ (upd g id .dead) w := by
  refine ⟨⟨?_, ?_⟩, I.fr, ?_⟩
  · intro i hi
    by_cases hii : i = id
    · subst hii; rw [upd_same] at hi; exact absurd rfl hi
    · rw [upd_other _ _ hii] at hi ⊢; exact I.ok.rep i hi
  · intro i j q r hij hq hrr ho b off hf hf'
    by_cases hii : i = id
    · subst hii; rw [upd_same] at hf; exact hf
    · by_cases hjj : j = id
      · subst hjj; rw [upd_same] at hf'; exact hf'
      · rw [upd_other _ _ hii] at ho hf; rw [upd_other _ _ hjj] at hf'
        exact I.ok.sep i j q r hij hq hrr ho b off hf hf'
  · intro i q hq ho b off hf
    by_cases hii : i = id
    · subst hii; rw [upd_same] at hf; exact hf.elim
    · rw [upd_other _ _ hii] at ho hf; exact I.own i q hq ho b off hf

/-- an entry is turned where it lies -/
theorem Inv.turn {w0 : World} {M : Nat → Nat → Prop} {ρ : Env} {g : Hp} {w w' : World} (I : Inv w0 M ρ g w) {id : Nat} {p : Plc} {e : Ent} (hp : ρ id = some p) (ho : (g id).own = true)
    {N : Nat → Nat → Prop} (hw : Fr N w w') (hN : ∀ b off, N b off → foot p (g id) b off) (hr : RepE ρ w' p e) (hf : ∀ b off, foot p e b off → foot p (g id) b off) :
    Inv w0 M ρ (upd g id e) w' := by
  refine ⟨⟨?_, ?_⟩, I.fr.trans' hw ?_, ?_⟩
  · intro i hi
    by_cases hii : i = id
    · subst hii; rw [upd_same] at hi ⊢; exact ⟨p, hp, hr⟩
    · rw [upd_other _ _ hii] at hi ⊢
      obtain ⟨q, hq, hrq⟩ := I.ok.rep i hi
      exact ⟨q, hq, hrq.frame hw fun b off h1 h2 => I.ok.sep id i p q (Ne.symm hii) hp hq ho b off (hN b off h2) h1⟩
  · intro i j q r hij hq hrr ho' b off hf1 hf2
    by_cases hii : i = id
    · subst hii
      rw [hp] at hq; cases hq
      rw [upd_same] at hf1
      have hji : j ≠ i := Ne.symm hij
      rw [upd_other _ _ hji] at hf2
      exact I.ok.sep i j p r hij hp hrr ho b off (hf b off hf1) hf2
    · rw [upd_other _ _ hii] at ho' hf1
      by_cases hjj : j = id
      · subst hjj
        rw [hp] at hrr; cases hrr
        rw [upd_same] at hf2
        exact I.ok.sep i j q p hij hq hp ho' b off hf1 (hf b off hf2)
      · rw [upd_other _ _ hjj] at hf2
        exact I.ok.sep i j q r hij hq hrr ho' b off hf1 hf2
  · intro b off hN'
    exact I.own id p hp ho b off (hN b off hN')
  · intro i q hq ho' b off hf1
    by_cases hii : i = id
    · subst hii
      rw [hp] at hq; cases hq
      rw [upd_same] at hf1
      exact I.own i p hp ho b off (hf b off hf1)
    · rw [upd_other _ _ hii] at ho' hf1
      exact I.own i q hq ho' b off hf1
/-- the world goes on without touching what is held -/
theorem Inv.world {w0 : World} {M : Nat → Nat → Prop} {ρ : Env} {g : Hp} {w w' : World} (I : Inv w0 M ρ g w) (hw : Fr (fun _ _ => False) w w') : Inv w0 M ρ g w' :=
  ⟨⟨fun i hi => let ⟨q, hq, hr⟩ := I.ok.rep i hi; ⟨q, hq, hr.frame hw (fun _ _ _ h => h)⟩, I.ok.sep⟩, I.fr.trans (hw.mono (fun _ _ _ h => h.elim)), I.own⟩
end Go.Ev
