/- The evaluator: what its values stand for in memory. -/
import Derived.Test.YtfgccfajhedgdaaE0
import Derived.Below
import Derived.WalkKit
namespace Go.Ev
open Go Go.RowKit

structure Plc where
  base : Option Addr
  len : Nat
  cap : Nat
  size : Nat
abbrev Env := Nat → Option Plc
abbrev Hp := Nat → Ent

def RepSl (p : Plc) (w : Option (Nat × Nat)) (v : Value) : Prop := match w with
  | none => v = .slice p.base p.len p.cap
  | some (o, n) => o + n ≤ p.len ∧ ∃ a c, v = .slice a n c ∧ n ≤ c ∧ (n = 0 ∨ ∃ b, p.base = some b ∧ a = some (b.add (o * p.size))) ∧ (a = none ↔ p.base = none) ∧ (p.base = none → c = 0)
mutual
def RepV (ρ : Env) : AV → Value → Prop
  | .un, _ => True
  | .nils, v => v = .slice none 0 0
  | .int k n, v => v = .int k n
  | .bool b, v => v = .bool b
  | .str s, v => v = .string s
  | .sl id w, v => ∃ p, ρ id = some p ∧ RepSl p w v
  | .ptr id i o, v => ∃ p a, ρ id = some p ∧ p.base = some a ∧ i < p.len ∧ v = .pointer (some (a.add (i * p.size + o)))
  | .agg cs, v => ∃ vs, v = .agg vs ∧ RepVs ρ cs vs.toList
  | .tup cs, v => ∃ vs, v = .tuple vs ∧ RepVs ρ cs vs.toList
  | .fn f cs, v => ∃ vs, v = .func (.func f) #[] vs ∧ RepVs ρ cs vs.toList
  | .mp id, v => ∃ p a, ρ id = some p ∧ p.base = some a ∧ v = .map (some a.block)
def RepVs (ρ : Env) : List AV → List Value → Prop
  | [], vs => vs = []
  | c :: cs, vs => ∃ u us, vs = u :: us ∧ RepV ρ c u ∧ RepVs ρ cs us
end

/-- more places are known -/
def Sub (ρ ρ' : Env) : Prop := ∀ id p, ρ id = some p → ρ' id = some p
theorem Sub.refl (ρ : Env) : Sub ρ ρ := fun _ _ h => h
theorem Sub.trans {a b c : Env} (h : Sub a b) (k : Sub b c) : Sub a c := fun i p e => k i p (h i p e)
mutual
theorem RepV.mono {ρ ρ' : Env} (h : Sub ρ ρ') : ∀ (c : AV) (v : Value), RepV ρ c v → RepV ρ' c v
  | .un, _, _ => by simp only [RepV]
  | .nils, _, r => by simpa only [RepV] using r
  | .int _ _, _, r => by simpa only [RepV] using r
  | .bool _, _, r => by simpa only [RepV] using r
  | .str _, _, r => by simpa only [RepV] using r
  | .sl id w, v, r => by
    simp only [RepV] at r ⊢
    obtain ⟨p, hp, hs⟩ := r
    exact ⟨p, h _ _ hp, hs⟩
  | .ptr id i o, v, r => by
    simp only [RepV] at r ⊢
    obtain ⟨p, a, hp, hs⟩ := r
    exact ⟨p, a, h _ _ hp, hs⟩
  | .agg cs, v, r => by
    simp only [RepV] at r ⊢
    obtain ⟨vs, hv, hs⟩ := r
    exact ⟨vs, hv, RepVs.mono h cs _ hs⟩
  | .tup cs, v, r => by
    simp only [RepV] at r ⊢
    obtain ⟨vs, hv, hs⟩ := r
    exact ⟨vs, hv, RepVs.mono h cs _ hs⟩
  | .fn f cs, v, r => by
    simp only [RepV] at r ⊢
    obtain ⟨vs, hv, hs⟩ := r
    exact ⟨vs, hv, RepVs.mono h cs _ hs⟩
  | .mp id, v, r => by
    simp only [RepV] at r ⊢
    obtain ⟨p, a, hp, hs⟩ := r
    exact ⟨p, a, h _ _ hp, hs⟩
theorem RepVs.mono {ρ ρ' : Env} (h : Sub ρ ρ') : ∀ (cs : List AV) (vs : List Value), RepVs ρ cs vs → RepVs ρ' cs vs
  | [], _, r => by simpa only [RepVs] using r
  | c :: cs, vs, r => by
    simp only [RepVs] at r ⊢
    obtain ⟨u, us, hv, h1, h2⟩ := r
    exact ⟨u, us, hv, RepV.mono h c u h1, RepVs.mono h cs us h2⟩
end
theorem RepVs.length {ρ : Env} : ∀ {cs : List AV} {vs : List Value}, RepVs ρ cs vs → vs.length = cs.length
  | [], vs, r => by simp only [RepVs] at r; simp [r]
  | c :: cs, vs, r => by
    simp only [RepVs] at r
    obtain ⟨u, us, rfl, _, h⟩ := r
    simp [h.length]
theorem RepVs.nil (ρ : Env) : RepVs ρ [] [] := by simp only [RepVs]
theorem RepVs.cons {ρ : Env} {c : AV} {cs : List AV} {v : Value} {vs : List Value} (h : RepV ρ c v) (hs : RepVs ρ cs vs) : RepVs ρ (c :: cs) (v :: vs) := by
  simp only [RepVs]; exact ⟨v, vs, rfl, h, hs⟩
theorem RepVs.uncons {ρ : Env} {c : AV} {cs : List AV} {v : Value} {vs : List Value} (h : RepVs ρ (c :: cs) (v :: vs)) : RepV ρ c v ∧ RepVs ρ cs vs := by
  simp only [RepVs] at h
  obtain ⟨u, us, e, h1, h2⟩ := h
  cases e
  exact ⟨h1, h2⟩
theorem RepVs.append {ρ : Env} : ∀ {cs : List AV} {vs : List Value} {ds : List AV} {us : List Value}, RepVs ρ cs vs → RepVs ρ ds us → RepVs ρ (cs ++ ds) (vs ++ us)
  | [], vs, ds, us, h, k => by simp only [RepVs] at h; subst h; simpa using k
  | c :: cs, vs, ds, us, h, k => by
    simp only [RepVs] at h
    obtain ⟨u, vs, rfl, h1, h2⟩ := h
    exact RepVs.cons h1 (h2.append k)
theorem RepVs.split {ρ : Env} : ∀ {cs ds : List AV} {vs : List Value}, RepVs ρ (cs ++ ds) vs → RepVs ρ cs (vs.take cs.length) ∧ RepVs ρ ds (vs.drop cs.length)
  | [], ds, vs, h => ⟨by simp [RepVs], by simpa using h⟩
  | c :: cs, ds, vs, h => by
    simp only [List.cons_append, RepVs] at h
    obtain ⟨u, us, rfl, h1, h2⟩ := h
    obtain ⟨h3, h4⟩ := h2.split
    exact ⟨by simpa using RepVs.cons h1 h3, by simpa using h4⟩
theorem RepVs.get {ρ : Env} : ∀ {cs : List AV} {vs : List Value}, RepVs ρ cs vs → ∀ i, RepV ρ (cs.getD i .un) (vs.getD i undef)
  | [], vs, h, i => by simp only [RepVs] at h; subst h; simp [RepV]
  | c :: cs, vs, h, i => by
    simp only [RepVs] at h
    obtain ⟨u, us, rfl, h1, h2⟩ := h
    cases i with
    | zero => simpa using h1
    | succ i => simpa using h2.get i
theorem RepVs.get? {ρ : Env} : ∀ {cs : List AV} {vs : List Value}, RepVs ρ cs vs → ∀ {i : Nat} {c : AV}, cs[i]? = some c → ∃ v, vs[i]? = some v ∧ RepV ρ c v
  | [], vs, h, i, c, e => by simp at e
  | c :: cs, vs, h, i, d, e => by
    simp only [RepVs] at h
    obtain ⟨u, us, rfl, h1, h2⟩ := h
    cases i with
    | zero => simp at e; subst e; exact ⟨u, by simp, h1⟩
    | succ i => simp at e; obtain ⟨v, hv, r⟩ := h2.get? e; exact ⟨v, by simpa using hv, r⟩
theorem RepVs.set {ρ : Env} : ∀ {cs : List AV} {vs : List Value}, RepVs ρ cs vs → ∀ (i : Nat) {c : AV} {v : Value}, RepV ρ c v → RepVs ρ (cs.set i c) (vs.set i v)
  | [], vs, h, i, c, v, r => by simp only [RepVs] at h; subst h; simp [RepVs]
  | c :: cs, vs, h, i, d, v, r => by
    simp only [RepVs] at h
    obtain ⟨u, us, rfl, h1, h2⟩ := h
    cases i with
    | zero => simpa using RepVs.cons r h2
    | succ i => simpa using RepVs.cons h1 (h2.set i r)
theorem RepVs.take {ρ : Env} {cs : List AV} {vs : List Value} (h : RepVs ρ cs vs) (n : Nat) : RepVs ρ (cs.take n) (vs.take n) := by
  have e : cs = cs.take n ++ cs.drop n := (List.take_append_drop n cs).symm
  rw [e] at h
  have := h.split.1
  rw [List.length_take] at this
  by_cases hn : n ≤ cs.length
  · rwa [Nat.min_eq_left hn] at this
  · have hl := h.length
    rw [← e] at hl
    rw [Nat.min_eq_right (by omega), List.take_of_length_le (i := cs.length) (by omega)] at this
    rw [List.take_of_length_le (i := n) (l := vs) (by omega)]
    exact this
theorem RepVs.drop {ρ : Env} {cs : List AV} {vs : List Value} (h : RepVs ρ cs vs) (n : Nat) : RepVs ρ (cs.drop n) (vs.drop n) := by
  have e : cs = cs.take n ++ cs.drop n := (List.take_append_drop n cs).symm
  rw [e] at h
  have := h.split.2
  rw [List.length_take] at this
  by_cases hn : n ≤ cs.length
  · rwa [Nat.min_eq_left hn] at this
  · have hl := h.length
    rw [← e] at hl
    rw [List.drop_of_length_le (by omega), List.drop_of_length_le (by omega)]
    exact RepVs.nil ρ
theorem RepVs.un {ρ : Env} : ∀ (vs : List Value), RepVs ρ (List.replicate vs.length .un) vs
  | [] => RepVs.nil ρ
  | v :: vs => by simpa [List.replicate_succ] using RepVs.cons (by simp [RepV]) (RepVs.un vs)

/-! arrays -/
def Arr.cells : Arr → List Value
  | .ints k l => l.map (.int k ·)
  | .bools l => l.map (.bool ·)
  | .strs l => l.map (.string ·)
  | .r3 l => l.flatMap fun x => [.int .i64 x.1, .int .i64 x.2.1, .int .i64 x.2.2]
  | .r4 l => l.flatMap fun x => [.int .i64 x.1, .int .i64 x.2.1, .int .i64 x.2.2.1, .int .i64 x.2.2.2]
theorem flatMap_length_const {α β : Type} {l : List α} {g : α → List β} {n : Nat} (h : ∀ x, (g x).length = n) : (l.flatMap g).length = l.length * n := by
  induction l with
  | nil => simp
  | cons x l ih => simp [h, ih, Nat.add_mul, Nat.add_comm]
theorem Arr.cells_length (a : Arr) : a.cells.length = a.len * a.size := by
  cases a <;> simp [Arr.cells, Arr.len, Arr.size, flatMap_length_const (n := 3), flatMap_length_const (n := 4)]
theorem Arr.size_pos (a : Arr) : 0 < a.size := by cases a <;> simp [Arr.size]
theorem Arr.cells_one (a : Arr) : ∀ u ∈ a.cells, u.oneCell' = true := by
  intro u hu
  cases a <;> simp only [Arr.cells, List.mem_map, List.mem_flatMap, List.mem_cons, List.not_mem_nil, or_false] at hu
  · obtain ⟨_, _, rfl⟩ := hu; rfl
  · obtain ⟨_, _, rfl⟩ := hu; rfl
  · obtain ⟨_, _, rfl⟩ := hu; rfl
  · obtain ⟨_, _, rfl | rfl | rfl⟩ := hu <;> rfl
  · obtain ⟨_, _, rfl | rfl | rfl | rfl⟩ := hu <;> rfl
theorem flatMap_drop {α β : Type} {g : α → List β} {n : Nat} (h : ∀ x, (g x).length = n) : ∀ (l : List α) (i : Nat), (l.flatMap g).drop (i * n) = (l.drop i).flatMap g
  | l, 0 => by simp
  | [], i + 1 => by simp
  | x :: l, i + 1 => by
    have e : (i + 1) * n = (g x).length + i * n := by rw [h, Nat.add_mul]; omega
    rw [List.flatMap_cons, e, List.drop_append, List.drop_of_length_le (by omega), Nat.add_sub_cancel_left, flatMap_drop h l i]
    simp
theorem flatMap_take {α β : Type} {g : α → List β} {n : Nat} (h : ∀ x, (g x).length = n) : ∀ (l : List α) (i : Nat), (l.flatMap g).take (i * n) = (l.take i).flatMap g
  | l, 0 => by simp
  | [], i + 1 => by simp
  | x :: l, i + 1 => by
    have e : (i + 1) * n = (g x).length + i * n := by rw [h, Nat.add_mul]; omega
    rw [List.flatMap_cons, e, List.take_append, List.take_of_length_le (i := (g x).length + i * n) (l := g x) (by omega), Nat.add_sub_cancel_left, flatMap_take h l i]
    simp
theorem Arr.sub_cells (o n : Nat) (a : Arr) : (a.sub o n).cells = (a.cells.drop (o * a.size)).take (n * a.size) := by
  cases a with
  | ints k l => simp [Arr.sub, Arr.cells, Arr.size, List.map_take, List.map_drop]
  | bools l => simp [Arr.sub, Arr.cells, Arr.size, List.map_take, List.map_drop]
  | strs l => simp [Arr.sub, Arr.cells, Arr.size, List.map_take, List.map_drop]
  | r3 l => simp only [Arr.sub, Arr.cells, Arr.size]; rw [flatMap_drop (n := 3) (by simp), flatMap_take (n := 3) (by simp)]
  | r4 l => simp only [Arr.sub, Arr.cells, Arr.size]; rw [flatMap_drop (n := 4) (by simp), flatMap_take (n := 4) (by simp)]
theorem Arr.sub_len (o n : Nat) (a : Arr) (h : o + n ≤ a.len) : (a.sub o n).len = n := by
  cases a <;> simp only [Arr.sub, Arr.len, List.length_take, List.length_drop] at h ⊢ <;> omega
theorem Arr.sub_size (o n : Nat) (a : Arr) : (a.sub o n).size = a.size := by cases a <;> rfl
theorem Arr.app_spec {a b c : Arr} (h : a.app b = some c) : c.cells = a.cells ++ b.cells ∧ c.len = a.len + b.len ∧ c.size = a.size ∧ b.size = a.size := by
  cases a <;> cases b <;> simp only [Arr.app] at h <;> try contradiction
  · split at h
    · rename_i e; subst e; cases h; simp [Arr.cells, Arr.len, Arr.size]
    · contradiction
  all_goals (cases h; simp [Arr.cells, Arr.len, Arr.size])
theorem Arr.get_length (i : Nat) (a : Arr) : (a.get i).length = a.size := by cases a <;> rfl
theorem getD_of_lt {α : Type} {l : List α} {i : Nat} (h : i < l.length) (d : α) : l.getD i d = l[i] := by simp [h]
theorem drop_take_one {α : Type} (l : List α) (i : Nat) (h : i < l.length) : (l.drop i).take 1 = [l[i]] := by
  rw [List.take_one]; simp [h]
theorem Arr.get_rep (ρ : Env) (i : Nat) (a : Arr) (h : i < a.len) : RepVs ρ (a.get i) ((a.cells.drop (i * a.size)).take a.size) := by
  cases a with
  | ints k l =>
    simp only [Arr.len] at h
    simp only [Arr.get, Arr.cells, Arr.size, Nat.mul_one]
    rw [drop_take_one _ _ (by simpa using h), getD_of_lt h]
    simp [RepVs, RepV]
  | bools l =>
    simp only [Arr.len] at h
    simp only [Arr.get, Arr.cells, Arr.size, Nat.mul_one]
    rw [drop_take_one _ _ (by simpa using h), getD_of_lt h]
    simp [RepVs, RepV]
  | strs l =>
    simp only [Arr.len] at h
    simp only [Arr.get, Arr.cells, Arr.size, Nat.mul_one]
    rw [drop_take_one _ _ (by simpa using h), getD_of_lt h]
    simp [RepVs, RepV]
  | r3 l =>
    simp only [Arr.len] at h
    simp only [Arr.get, Arr.cells, Arr.size]
    have t := flatMap_take (g := fun x : Int × Int × Int => [Value.int .i64 x.1, .int .i64 x.2.1, .int .i64 x.2.2]) (n := 3) (by simp) (l.drop i) 1
    rw [Nat.one_mul] at t
    rw [flatMap_drop (n := 3) (by simp), t, drop_take_one _ _ h, getD_of_lt h]
    simp [RepVs, RepV]
  | r4 l =>
    simp only [Arr.len] at h
    simp only [Arr.get, Arr.cells, Arr.size]
    have t := flatMap_take (g := fun x : Int × Int × Int × Int => [Value.int .i64 x.1, .int .i64 x.2.1, .int .i64 x.2.2.1, .int .i64 x.2.2.2]) (n := 4) (by simp) (l.drop i) 1
    rw [Nat.one_mul] at t
    rw [flatMap_drop (n := 4) (by simp), t, drop_take_one _ _ h, getD_of_lt h]
    simp [RepVs, RepV]

/-! entries -/
def CellsL (w : World) (x : Addr) (cs : List Value) : Prop := ∀ j u, cs[j]? = some u → w.cell? (x.add j) = some u
def Thawed (w : World) (x : Addr) (n : Nat) : Prop := ∀ j, j < n → w.frozen? (x.add j) = false
def key3 (k : Int × Int × Int) : Value := .agg #[.int .i64 k.1, .int .i64 k.2.1, .int .i64 k.2.2]
/-- a map's entries: 'true' for the keys of l and no other -/
def MapRep (es : Array MapEntry) (l : List (Int × Int × Int)) : Prop := (∀ e ∈ es.toList, e.val = .bool true ∧ ∃ k ∈ l, e.key = key3 k) ∧ ∀ k ∈ l, ∃ e ∈ es.toList, e.key = key3 k
def RepE (ρ : Env) (w : World) (p : Plc) : Ent → Prop
  | .dead => True
  | .box own cs => p.len = 1 ∧ ∃ x vs, p.base = some x ∧ x.spot = none ∧ RepVs ρ cs vs ∧ CellsL w x vs ∧ (own = true → Thawed w x vs.length)
  | .arr own nil a => a.len = p.len ∧ a.size = p.size ∧ (nil = true ↔ p.base = none) ∧ (p.base = none → p.cap = 0 ∧ p.len = 0) ∧
      (∀ x, p.base = some x → p.len ≤ p.cap ∧ CellsL w x a.cells) ∧ (own = true → ∃ e, w.ownsRow 0 e p.size (.slice p.base p.len p.cap) p.len a.cells)
  | .mp l => ∃ x es clock, p.base = some x ∧ w.heap[x.block]? = some (.map es clock) ∧ MapRep es l
def Ent.own : Ent → Bool
  | .dead => false
  | .box own _ => own
  | .arr own _ _ => own
  | .mp _ => true
def foot (p : Plc) : Ent → Nat → Nat → Prop
  | .dead, _, _ => False
  | .box _ cs, b, off => ∃ x, p.base = some x ∧ x.block = b ∧ x.off ≤ off ∧ off < x.off + cs.length
  | .arr own _ a, b, off => ∃ x, p.base = some x ∧ x.block = b ∧ (own = true ∨ (x.off ≤ off ∧ off < x.off + a.len * a.size))
  | .mp _, b, _ => ∃ x, p.base = some x ∧ x.block = b
structure HeapOk (ρ : Env) (g : Hp) (w : World) : Prop where
  rep : ∀ id, g id ≠ .dead → ∃ p, ρ id = some p ∧ RepE ρ w p (g id)
  sep : ∀ i j p q, i ≠ j → ρ i = some p → ρ j = some q → (g i).own = true → ∀ b off, foot p (g i) b off → ¬ foot q (g j) b off

/-- outside of M the world w' is as w was -/
structure Fr (M : Nat → Nat → Prop) (w w' : World) : Prop where
  os : w'.os = w.os
  tape : w'.tape = w.tape
  output : w'.output = w.output
  size : w.heap.size ≤ w'.heap.size
  shell : ∀ b, b < w.heap.size → (∃ c c' t z, w.heap[b]? = some (.cells c t z) ∧ w'.heap[b]? = some (.cells c' t z) ∧ c'.size = c.size ∧ ∀ off, ¬ M b off → c'[off]? = c[off]?) ∨ w'.heap[b]? = w.heap[b]? ∨ (∃ c t c' t', w.heap[b]? = some (.map c t) ∧ w'.heap[b]? = some (.map c' t') ∧ M b 0)
theorem Fr.refl (M : Nat → Nat → Prop) (w : World) : Fr M w w := ⟨rfl, rfl, rfl, Nat.le_refl _, fun _ _ => .inr (.inl rfl)⟩
theorem Fr.trans {M : Nat → Nat → Prop} {a b c : World} (h : Fr M a b) (k : Fr M b c) : Fr M a c := by
  refine ⟨k.os.trans h.os, k.tape.trans h.tape, k.output.trans h.output, Nat.le_trans h.size k.size, fun i hi => ?_⟩
  rcases h.shell i hi with ⟨c1, c2, t, z, h1, h2, h3, h4⟩ | h1 | ⟨m1, t1, m2, t2, h1, h2, h3⟩
  · rcases k.shell i (Nat.lt_of_lt_of_le hi h.size) with ⟨d1, d2, t', z', k1, k2, k3, k4⟩ | k1 | ⟨m3, t3, m4, t4, k1, k2, k3⟩
    · rw [h2] at k1
      cases k1
      exact .inl ⟨_, _, _, _, h1, k2, k3.trans h3, fun off ho => (k4 off ho).trans (h4 off ho)⟩
    · exact .inl ⟨_, _, _, _, h1, k1.trans h2, h3, h4⟩
    · rw [h2] at k1; cases k1
  · rcases k.shell i (Nat.lt_of_lt_of_le hi h.size) with ⟨d1, d2, t', z', k1, k2, k3, k4⟩ | k1 | ⟨m3, t3, m4, t4, k1, k2, k3⟩
    · exact .inl ⟨_, _, _, _, h1 ▸ k1, k2, k3, k4⟩
    · exact .inr (.inl (k1.trans h1))
    · exact .inr (.inr ⟨_, _, _, _, h1 ▸ k1, k2, k3⟩)
  · rcases k.shell i (Nat.lt_of_lt_of_le hi h.size) with ⟨d1, d2, t', z', k1, k2, k3, k4⟩ | k1 | ⟨m3, t3, m4, t4, k1, k2, k3⟩
    · rw [h2] at k1; cases k1
    · exact .inr (.inr ⟨_, _, _, _, h1, k1.trans h2, h3⟩)
    · exact .inr (.inr ⟨_, _, _, _, h1, k2, h3⟩)
theorem Fr.mono {M M' : Nat → Nat → Prop} {a b : World} (h : Fr M a b) (hm : ∀ x y, x < a.heap.size → M x y → M' x y) : Fr M' a b := by
  refine ⟨h.os, h.tape, h.output, h.size, fun i hi => ?_⟩
  rcases h.shell i hi with ⟨c1, c2, t, z, h1, h2, h3, h4⟩ | h1 | ⟨m1, t1, m2, t2, h1, h2, h3⟩
  · exact .inl ⟨_, _, _, _, h1, h2, h3, fun off ho => h4 off fun e => ho (hm _ _ hi e)⟩
  · exact .inr (.inl h1)
  · exact .inr (.inr ⟨_, _, _, _, h1, h2, hm _ _ hi h3⟩)
theorem Fr.trans' {M N : Nat → Nat → Prop} {a b c : World} (h : Fr M a b) (k : Fr N b c) (hn : ∀ x y, N x y → M x y ∨ a.heap.size ≤ x) : Fr M a c := by
  refine ⟨k.os.trans h.os, k.tape.trans h.tape, k.output.trans h.output, Nat.le_trans h.size k.size, fun i hi => ?_⟩
  have hn' : ∀ y, ¬ M i y → ¬ N i y := fun y hm hy => by
    rcases hn i y hy with h1 | h1
    · exact hm h1
    · omega
  have hnM : N i 0 → M i 0 := fun hy => by
    rcases hn i 0 hy with h1 | h1
    · exact h1
    · omega
  rcases h.shell i hi with ⟨c1, c2, t, z, h1, h2, h3, h4⟩ | h1 | ⟨m1, t1, m2, t2, h1, h2, h3⟩
  · rcases k.shell i (Nat.lt_of_lt_of_le hi h.size) with ⟨d1, d2, t', z', k1, k2, k3, k4⟩ | k1 | ⟨m3, t3, m4, t4, k1, k2, k3⟩
    · rw [h2] at k1
      cases k1
      exact .inl ⟨_, _, _, _, h1, k2, k3.trans h3, fun off ho => (k4 off (hn' off ho)).trans (h4 off ho)⟩
    · exact .inl ⟨_, _, _, _, h1, k1.trans h2, h3, h4⟩
    · rw [h2] at k1; cases k1
  · rcases k.shell i (Nat.lt_of_lt_of_le hi h.size) with ⟨d1, d2, t', z', k1, k2, k3, k4⟩ | k1 | ⟨m3, t3, m4, t4, k1, k2, k3⟩
    · exact .inl ⟨_, _, _, _, h1 ▸ k1, k2, k3, fun off ho => k4 off (hn' off ho)⟩
    · exact .inr (.inl (k1.trans h1))
    · exact .inr (.inr ⟨_, _, _, _, h1 ▸ k1, k2, hnM k3⟩)
  · rcases k.shell i (Nat.lt_of_lt_of_le hi h.size) with ⟨d1, d2, t', z', k1, k2, k3, k4⟩ | k1 | ⟨m3, t3, m4, t4, k1, k2, k3⟩
    · rw [h2] at k1; cases k1
    · exact .inr (.inr ⟨_, _, _, _, h1, k1.trans h2, h3⟩)
    · exact .inr (.inr ⟨_, _, _, _, h1, k2, h3⟩)
/-- a cell outside of M -/
theorem Fr.cell {M : Nat → Nat → Prop} {a b : World} (h : Fr M a b) {x : Addr} {v : Value} (hv : a.cell? x = some v) (hm : ¬ M x.block x.off) : b.cell? x = some v := by
  have hlt := World.block_lt_of_cell? a x hv
  rcases h.shell x.block hlt with ⟨c1, c2, t, z, h1, h2, h3, h4⟩ | h1 | ⟨m1, t1, m2, t2, h1, h2, h3⟩
  · simp only [World.cell?, h1, h2] at hv ⊢
    by_cases hs : x.spot.isSome = true
    · rw [if_pos hs] at hv; cases hv
    · rw [if_neg hs] at hv ⊢; rw [h4 _ hm]; exact hv
  · rw [World.cell?_of_block (w := a) h1]; exact hv
  · simp [World.cell?, h1] at hv
theorem Fr.frozen {M : Nat → Nat → Prop} {a b : World} (h : Fr M a b) {x : Addr} (hx : x.block < a.heap.size) : b.frozen? x = a.frozen? x := by
  rcases h.shell x.block hx with ⟨c1, c2, t, z, h1, h2, h3, h4⟩ | h1 | ⟨m1, t1, m2, t2, h1, h2, h3⟩
  · simp only [World.frozen?, h1, h2]
  · simp only [World.frozen?, h1]
  · simp only [World.frozen?, h1, h2]
theorem Fr.below {a b : World} (h : Fr (fun _ _ => False) a b) : Below a.heap.size a b := by
  refine ⟨h.os, h.tape, h.output, h.size, fun k hk => ?_⟩
  rcases h.shell k hk with ⟨c1, c2, t, z, h1, h2, h3, h4⟩ | h1 | ⟨m1, t1, m2, t2, h1, h2, h3⟩
  · rw [h1, h2]
    have : c2 = c1 := Array.ext_getElem? fun i => h4 i (by simp)
    rw [this]
  · exact h1
  · exact h3.elim
end Go.Ev
