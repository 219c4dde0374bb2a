/- The evaluator: what its values stand for in memory. The evaluator: a run of one operation's asks as a list of steps, and what memory keeps. The evaluator: each operation that calls no function does in memory what the evaluator says. First part: what touches no memory, and reading. -/
import Derived.Test.YtcaapedadpnjoaaE0
import Derived.Below
import Derived.WalkKit
namespace Go.Ev
open Go Go.RowKit

structure Plc where
  base : Option Addr
  len : Nat
  cap : Nat
  size : Nat
  inn : List (List Value)
abbrev Env := Nat → Option Plc
abbrev Hp := Nat → Ent

def RepSl (p : Plc) (w : Option (Nat × Nat)) (v : Value) : Prop := match w with
  | none => v = .slice p.base p.len p.cap
  | some (o, n) => o + n ≤ p.len ∧ ∃ a c, v = .slice a n c ∧ n ≤ c ∧ (n = 0 ∨ ∃ b, p.base = some b ∧ a = some (b.add (o * p.size))) ∧ (a = none ↔ p.base = none) ∧ (p.base = none → c = 0)
mutual
def RepV (ρ : Env) : AV → Value → Prop
  | .un, _ => True
  | .nils, v => v = .slice none 0 0
  | .int k n, v => v = .int k n
  | .bool b, v => v = .bool b
  | .str s, v => v = .string s
  | .sl id w, v => ∃ p, ρ id = some p ∧ RepSl p w v
  | .ptr id i o, v => ∃ p a, ρ id = some p ∧ p.base = some a ∧ i < p.len ∧ v = .pointer (some (a.add (i * p.size + o)))
  | .agg cs, v => ∃ vs, v = .agg vs ∧ RepVs ρ cs vs.toList
  | .tup cs, v => ∃ vs, v = .tuple vs ∧ RepVs ρ cs vs.toList
  | .fn f cs, v => ∃ vs, v = .func (.func f) #[] vs ∧ RepVs ρ cs vs.toList
  | .mp id, v => ∃ p a, ρ id = some p ∧ p.base = some a ∧ v = .map (some a.block)
def RepVs (ρ : Env) : List AV → List Value → Prop
  | [], vs => vs = []
  | c :: cs, vs => ∃ u us, vs = u :: us ∧ RepV ρ c u ∧ RepVs ρ cs us
end

/-- more places are known -/
def Sub (ρ ρ' : Env) : Prop := ∀ id p, ρ id = some p → ρ' id = some p
theorem Sub.refl (ρ : Env) : Sub ρ ρ := fun _ _ h => h
theorem Sub.trans {a b c : Env} (h : Sub a b) (k : Sub b c) : Sub a c := fun i p e => k i p (h i p e)
mutual
theorem RepV.mono {ρ ρ' : Env} (h : Sub ρ ρ') : ∀ (c : AV) (v : Value), RepV ρ c v → RepV ρ' c v
  | .un, _, _ => by simp only [RepV]
  | .nils, _, r => by simpa only [RepV] using r
  | .int _ _, _, r => by simpa only [RepV] using r
  | .bool _, _, r => by simpa only [RepV] using r
  | .str _, _, r => by simpa only [RepV] using r
  | .sl id w, v, r => by
    simp only [RepV] at r ⊢
    obtain ⟨p, hp, hs⟩ := r
    exact ⟨p, h _ _ hp, hs⟩
  | .ptr id i o, v, r => by
    simp only [RepV] at r ⊢
    obtain ⟨p, a, hp, hs⟩ := r
    exact ⟨p, a, h _ _ hp, hs⟩
  | .agg cs, v, r => by
    simp only [RepV] at r ⊢
    obtain ⟨vs, hv, hs⟩ := r
    exact ⟨vs, hv, RepVs.mono h cs _ hs⟩
  | .tup cs, v, r => by
    simp only [RepV] at r ⊢
    obtain ⟨vs, hv, hs⟩ := r
    exact ⟨vs, hv, RepVs.mono h cs _ hs⟩
  | .fn f cs, v, r => by
    simp only [RepV] at r ⊢
    obtain ⟨vs, hv, hs⟩ := r
    exact ⟨vs, hv, RepVs.mono h cs _ hs⟩
  | .mp id, v, r => by
    simp only [RepV] at r ⊢
    obtain ⟨p, a, hp, hs⟩ := r
    exact ⟨p, a, h _ _ hp, hs⟩
theorem RepVs.mono {ρ ρ' : Env} (h : Sub ρ ρ') : ∀ (cs : List AV) (vs : List Value), RepVs ρ cs vs → RepVs ρ' cs vs
  | [], _, r => by simpa only [RepVs] using r
  | c :: cs, vs, r => by
    simp only [RepVs] at r ⊢
    obtain ⟨u, us, hv, h1, h2⟩ := r
    exact ⟨u, us, hv, RepV.mono h c u h1, RepVs.mono h cs us h2⟩
end
theorem RepVs.length {ρ : Env} : ∀ {cs : List AV} {vs : List Value}, RepVs ρ cs vs → vs.length = cs.length
  | [], vs, r => by simp only [RepVs] at r; simp [r]
  | c :: cs, vs, r => by
    simp only [RepVs] at r
    obtain ⟨u, us, rfl, _, h⟩ := r
    simp [h.length]
theorem RepVs.nil (ρ : Env) : RepVs ρ [] [] := by simp only [RepVs]
theorem RepVs.cons {ρ : Env} {c : AV} {cs : List AV} {v : Value} {vs : List Value} (h : RepV ρ c v) (hs : RepVs ρ cs vs) : RepVs ρ (c :: cs) (v :: vs) := by
  simp only [RepVs]; exact ⟨v, vs, rfl, h, hs⟩
theorem RepVs.uncons {ρ : Env} {c : AV} {cs : List AV} {v : Value} {vs : List Value} (h : RepVs ρ (c :: cs) (v :: vs)) : RepV ρ c v ∧ RepVs ρ cs vs := by
  simp only [RepVs] at h
  obtain ⟨u, us, e, h1, h2⟩ := h
  cases e
  exact ⟨h1, h2⟩
theorem RepVs.append {ρ : Env} : ∀ {cs : List AV} {vs : List Value} {ds : List AV} {us : List Value}, RepVs ρ cs vs → RepVs ρ ds us → RepVs ρ (cs ++ ds) (vs ++ us)
  | [], vs, ds, us, h, k => by simp only [RepVs] at h; subst h; simpa using k
  | c :: cs, vs, ds, us, h, k => by
    simp only [RepVs] at h
    obtain ⟨u, vs, rfl, h1, h2⟩ := h
    exact RepVs.cons h1 (h2.append k)
theorem RepVs.split {ρ : Env} : ∀ {cs ds : List AV} {vs : List Value}, RepVs ρ (cs ++ ds) vs → RepVs ρ cs (vs.take cs.length) ∧ RepVs ρ ds (vs.drop cs.length)
  | [], ds, vs, h => ⟨by simp [RepVs], by simpa using h⟩
  | c :: cs, ds, vs, h => by
    simp only [List.cons_append, RepVs] at h
    obtain ⟨u, us, rfl, h1, h2⟩ := h
    obtain ⟨h3, h4⟩ := h2.split
    exact ⟨by simpa using RepVs.cons h1 h3, by simpa using h4⟩
theorem RepVs.get {ρ : Env} : ∀ {cs : List AV} {vs : List Value}, RepVs ρ cs vs → ∀ i, RepV ρ (cs.getD i .un) (vs.getD i undef)
  | [], vs, h, i => by simp only [RepVs] at h; subst h; simp [RepV]
  | c :: cs, vs, h, i => by
    simp only [RepVs] at h
    obtain ⟨u, us, rfl, h1, h2⟩ := h
    cases i with
    | zero => simpa using h1
    | succ i => simpa using h2.get i
theorem RepVs.get? {ρ : Env} : ∀ {cs : List AV} {vs : List Value}, RepVs ρ cs vs → ∀ {i : Nat} {c : AV}, cs[i]? = some c → ∃ v, vs[i]? = some v ∧ RepV ρ c v
  | [], vs, h, i, c, e => by simp at e
  | c :: cs, vs, h, i, d, e => by
    simp only [RepVs] at h
    obtain ⟨u, us, rfl, h1, h2⟩ := h
    cases i with
    | zero => simp at e; subst e; exact ⟨u, by simp, h1⟩
    | succ i => simp at e; obtain ⟨v, hv, r⟩ := h2.get? e; exact ⟨v, by simpa using hv, r⟩
theorem RepVs.set {ρ : Env} : ∀ {cs : List AV} {vs : List Value}, RepVs ρ cs vs → ∀ (i : Nat) {c : AV} {v : Value}, RepV ρ c v → RepVs ρ (cs.set i c) (vs.set i v)
  | [], vs, h, i, c, v, r => by simp only [RepVs] at h; subst h; simp [RepVs]
  | c :: cs, vs, h, i, d, v, r => by
    simp only [RepVs] at h
    obtain ⟨u, us, rfl, h1, h2⟩ := h
    cases i with
    | zero => simpa using RepVs.cons r h2
    | succ i => simpa using RepVs.cons h1 (h2.set i r)
theorem RepVs.take {ρ : Env} {cs : List AV} {vs : List Value} (h : RepVs ρ cs vs) (n : Nat) : RepVs ρ (cs.take n) (vs.take n) := by
  have e : cs = cs.take n ++ cs.drop n := (List.take_append_drop n cs).symm
  rw [e] at h
  have := h.split.1
  rw [List.length_take] at this
  by_cases hn : n ≤ cs.length
  · rwa [Nat.min_eq_left hn] at this
  · have hl := h.length
    rw [← e] at hl
    rw [Nat.min_eq_right (by omega), List.take_of_length_le (i := cs.length) (by omega)] at this
    rw [List.take_of_length_le (i := n) (l := vs) (by omega)]
    exact this
theorem RepVs.drop {ρ : Env} {cs : List AV} {vs : List Value} (h : RepVs ρ cs vs) (n : Nat) : RepVs ρ (cs.drop n) (vs.drop n) := by
  have e : cs = cs.take n ++ cs.drop n := (List.take_append_drop n cs).symm
  rw [e] at h
  have := h.split.2
  rw [List.length_take] at this
  by_cases hn : n ≤ cs.length
  · rwa [Nat.min_eq_left hn] at this
  · have hl := h.length
    rw [← e] at hl
    rw [List.drop_of_length_le (by omega), List.drop_of_length_le (by omega)]
    exact RepVs.nil ρ
theorem RepVs.un {ρ : Env} : ∀ (vs : List Value), RepVs ρ (List.replicate vs.length .un) vs
  | [] => RepVs.nil ρ
  | v :: vs => by simpa [List.replicate_succ] using RepVs.cons (by simp [RepV]) (RepVs.un vs)

/-! arrays -/
def Arr.cells : Arr → List Value
  | .ints k l => l.map (.int k ·)
  | .bools l => l.map (.bool ·)
  | .strs l => l.map (.string ·)
  | .r3 l => l.flatMap fun x => [.int .i64 x.1, .int .i64 x.2.1, .int .i64 x.2.2]
  | .r4 l => l.flatMap fun x => [.int .i64 x.1, .int .i64 x.2.1, .int .i64 x.2.2.1, .int .i64 x.2.2.2]
theorem flatMap_length_const {α β : Type} {l : List α} {g : α → List β} {n : Nat} (h : ∀ x, (g x).length = n) : (l.flatMap g).length = l.length * n := by
  induction l with
  | nil => simp
  | cons x l ih => simp [h, ih, Nat.add_mul, Nat.add_comm]
theorem Arr.cells_length (a : Arr) : a.cells.length = a.len * a.size := by
  cases a <;> simp [Arr.cells, Arr.len, Arr.size, flatMap_length_const (n := 3), flatMap_length_const (n := 4)]
theorem Arr.size_pos (a : Arr) : 0 < a.size := by cases a <;> simp [Arr.size]
theorem Arr.cells_one (a : Arr) : ∀ u ∈ a.cells, u.oneCell' = true := by
  intro u hu
  cases a <;> simp only [Arr.cells, List.mem_map, List.mem_flatMap, List.mem_cons, List.not_mem_nil, or_false] at hu
  · obtain ⟨_, _, rfl⟩ := hu; rfl
  · obtain ⟨_, _, rfl⟩ := hu; rfl
  · obtain ⟨_, _, rfl⟩ := hu; rfl
  · obtain ⟨_, _, rfl | rfl | rfl⟩ := hu <;> rfl
  · obtain ⟨_, _, rfl | rfl | rfl | rfl⟩ := hu <;> rfl
theorem flatMap_drop {α β : Type} {g : α → List β} {n : Nat} (h : ∀ x, (g x).length = n) : ∀ (l : List α) (i : Nat), (l.flatMap g).drop (i * n) = (l.drop i).flatMap g
  | l, 0 => by simp
  | [], i + 1 => by simp
  | x :: l, i + 1 => by
    have e : (i + 1) * n = (g x).length + i * n := by rw [h, Nat.add_mul]; omega
    rw [List.flatMap_cons, e, List.drop_append, List.drop_of_length_le (by omega), Nat.add_sub_cancel_left, flatMap_drop h l i]
    simp
theorem flatMap_take {α β : Type} {g : α → List β} {n : Nat} (h : ∀ x, (g x).length = n) : ∀ (l : List α) (i : Nat), (l.flatMap g).take (i * n) = (l.take i).flatMap g
  | l, 0 => by simp
  | [], i + 1 => by simp
  | x :: l, i + 1 => by
    have e : (i + 1) * n = (g x).length + i * n := by rw [h, Nat.add_mul]; omega
    rw [List.flatMap_cons, e, List.take_append, List.take_of_length_le (i := (g x).length + i * n) (l := g x) (by omega), Nat.add_sub_cancel_left, flatMap_take h l i]
    simp
theorem Arr.sub_cells (o n : Nat) (a : Arr) : (a.sub o n).cells = (a.cells.drop (o * a.size)).take (n * a.size) := by
  cases a with
  | ints k l => simp [Arr.sub, Arr.cells, Arr.size, List.map_take, List.map_drop]
  | bools l => simp [Arr.sub, Arr.cells, Arr.size, List.map_take, List.map_drop]
  | strs l => simp [Arr.sub, Arr.cells, Arr.size, List.map_take, List.map_drop]
  | r3 l => simp only [Arr.sub, Arr.cells, Arr.size]; rw [flatMap_drop (n := 3) (by simp), flatMap_take (n := 3) (by simp)]
  | r4 l => simp only [Arr.sub, Arr.cells, Arr.size]; rw [flatMap_drop (n := 4) (by simp), flatMap_take (n := 4) (by simp)]
theorem Arr.sub_len (o n : Nat) (a : Arr) (h : o + n ≤ a.len) : (a.sub o n).len = n := by
  cases a <;> simp only [Arr.sub, Arr.len, List.length_take, List.length_drop] at h ⊢ <;> omega
theorem Arr.sub_size (o n : Nat) (a : Arr) : (a.sub o n).size = a.size := by cases a <;> rfl
theorem Arr.app_spec {a b c : Arr} (h : a.app b = some c) : c.cells = a.cells ++ b.cells ∧ c.len = a.len + b.len ∧ c.size = a.size ∧ b.size = a.size := by
  cases a <;> cases b <;> simp only [Arr.app] at h <;> try contradiction
  · split at h
    · rename_i e; subst e; cases h; simp [Arr.cells, Arr.len, Arr.size]
    · contradiction
  all_goals (cases h; simp [Arr.cells, Arr.len, Arr.size])
theorem Arr.get_length (i : Nat) (a : Arr) : (a.get i).length = a.size := by cases a <;> rfl
theorem getD_of_lt {α : Type} {l : List α} {i : Nat} (h : i < l.length) (d : α) : l.getD i d = l[i] := by simp [h]
theorem drop_take_one {α : Type} (l : List α) (i : Nat) (h : i < l.length) : (l.drop i).take 1 = [l[i]] := by
  rw [List.take_one]; simp [h]
theorem Arr.get_rep (ρ : Env) (i : Nat) (a : Arr) (h : i < a.len) : RepVs ρ (a.get i) ((a.cells.drop (i * a.size)).take a.size) := by
  cases a with
  | ints k l =>
    simp only [Arr.len] at h
    simp only [Arr.get, Arr.cells, Arr.size, Nat.mul_one]
    rw [drop_take_one _ _ (by simpa using h), getD_of_lt h]
    simp [RepVs, RepV]
  | bools l =>
    simp only [Arr.len] at h
    simp only [Arr.get, Arr.cells, Arr.size, Nat.mul_one]
    rw [drop_take_one _ _ (by simpa using h), getD_of_lt h]
    simp [RepVs, RepV]
  | strs l =>
    simp only [Arr.len] at h
    simp only [Arr.get, Arr.cells, Arr.size, Nat.mul_one]
    rw [drop_take_one _ _ (by simpa using h), getD_of_lt h]
    simp [RepVs, RepV]
  | r3 l =>
    simp only [Arr.len] at h
    simp only [Arr.get, Arr.cells, Arr.size]
    have t := flatMap_take (g := fun x : Int × Int × Int => [Value.int .i64 x.1, .int .i64 x.2.1, .int .i64 x.2.2]) (n := 3) (by simp) (l.drop i) 1
    rw [Nat.one_mul] at t
    rw [flatMap_drop (n := 3) (by simp), t, drop_take_one _ _ h, getD_of_lt h]
    simp [RepVs, RepV]
  | r4 l =>
    simp only [Arr.len] at h
    simp only [Arr.get, Arr.cells, Arr.size]
    have t := flatMap_take (g := fun x : Int × Int × Int × Int => [Value.int .i64 x.1, .int .i64 x.2.1, .int .i64 x.2.2.1, .int .i64 x.2.2.2]) (n := 4) (by simp) (l.drop i) 1
    rw [Nat.one_mul] at t
    rw [flatMap_drop (n := 4) (by simp), t, drop_take_one _ _ h, getD_of_lt h]
    simp [RepVs, RepV]

/-! entries -/
def CellsL (w : World) (x : Addr) (cs : List Value) : Prop := ∀ j u, cs[j]? = some u → w.cell? (x.add j) = some u
def Thawed (w : World) (x : Addr) (n : Nat) : Prop := ∀ j, j < n → w.frozen? (x.add j) = false
def key3 (k : Int × Int × Int) : Value := .agg #[.int .i64 k.1, .int .i64 k.2.1, .int .i64 k.2.2]
/-- a map's entries: 'true' for the keys of l and no other -/
def MapRep (es : Array MapEntry) (l : List (Int × Int × Int)) : Prop := (∀ e ∈ es.toList, e.val = .bool true ∧ ∃ k ∈ l, e.key = key3 k) ∧ ∀ k ∈ l, ∃ e ∈ es.toList, e.key = key3 k
/-! records with lists in them -/
def SlL (w : World) (a : Arr) (nil : Bool) (v : Value) : Prop := ∃ b n c, v = .slice b n c ∧ a.len = n ∧ (nil = true ↔ b = none) ∧ (b = none → c = 0 ∧ n = 0) ∧ ∀ x, b = some x → n ≤ c ∧ CellsL w x a.cells
def ColL (w : World) : RC → RK → Value → Prop
  | .n x, .n, v => v = .int .i64 x
  | .is nil l, .is, v => SlL w (.ints .i64 l) nil v
  | .r3 nil l, .r3, v => SlL w (.r3 l) nil v
  | _, _, _ => False
def RowL (w : World) : List RK → List Value → List RC → Prop
  | [], us, r => us = [] ∧ r = []
  | k :: z, us, r => ∃ u us' c r', us = u :: us' ∧ r = c :: r' ∧ ColL w c k u ∧ RowL w z us' r'
def RowsL (w : World) (z : List RK) : List (List Value) → List (List RC) → Prop
  | [], l => l = []
  | us :: uss, l => ∃ r l', l = r :: l' ∧ RowL w z us r ∧ RowsL w z uss l'
def kspan : RK → Value → Nat → Nat → Prop
  | .n, _, _, _ => False
  | .is, v, b, off => ∃ x n c, v = .slice (some x) n c ∧ x.block = b ∧ x.off ≤ off ∧ off < x.off + n
  | .r3, v, b, off => ∃ x n c, v = .slice (some x) n c ∧ x.block = b ∧ x.off ≤ off ∧ off < x.off + n * 3
def innR : List RK → List Value → Nat → Nat → Prop
  | k :: z, u :: us, b, off => kspan k u b off ∨ innR z us b off
  | _, _, _, _ => False
/-- what lies behind the records -/
def inn (p : Plc) : Ent → Nat → Nat → Prop
  | .rows _ _ z _, b, off => ∃ us ∈ p.inn, innR z us b off
  | _, _, _ => False
theorem RowL.len {w : World} : ∀ {z : List RK} {us : List Value} {r : List RC}, RowL w z us r → us.length = z.length ∧ r.length = z.length
  | [], us, r, h => by obtain ⟨rfl, rfl⟩ := h; simp
  | k :: z, us, r, h => by obtain ⟨u, us', c, r', rfl, rfl, _, h⟩ := h; have := h.len; simp [this]
theorem RowsL.len {w : World} {z : List RK} : ∀ {uss : List (List Value)} {l : List (List RC)}, RowsL w z uss l → uss.length = l.length
  | [], l, h => by subst h; rfl
  | us :: uss, l, h => by obtain ⟨r, l', rfl, _, h⟩ := h; simp [h.len]
theorem RowsL.all {w : World} {z : List RK} : ∀ {uss : List (List Value)} {l : List (List RC)}, RowsL w z uss l → ∀ us ∈ uss, us.length = z.length
  | [], l, h, us, hu => by cases hu
  | us :: uss, l, h, vs, hv => by
    obtain ⟨r, l', rfl, h1, h⟩ := h
    rcases List.mem_cons.1 hv with rfl | hv
    · exact h1.len.1
    · exact h.all vs hv
theorem RowsL.flat {w : World} {z : List RK} : ∀ {uss : List (List Value)} {l : List (List RC)}, RowsL w z uss l → uss.flatten.length = l.length * z.length
  | [], l, h => by subst h; simp
  | us :: uss, l, h => by
    obtain ⟨r, l', rfl, h1, h⟩ := h
    have := h.flat
    simp only [List.flatten_cons, List.length_append, List.length_cons, Nat.add_mul, Nat.one_mul, this, h1.len.1]; omega
theorem RowsL.app {w : World} {z : List RK} {vss : List (List Value)} {m : List (List RC)} (k : RowsL w z vss m) : ∀ {uss : List (List Value)} {l : List (List RC)}, RowsL w z uss l → RowsL w z (uss ++ vss) (l ++ m)
  | [], l, h => by subst h; exact k
  | us :: uss, l, h => by obtain ⟨r, l', rfl, h1, h⟩ := h; exact ⟨r, l' ++ m, rfl, h1, k.app h⟩
theorem RowsL.get {w : World} {z : List RK} : ∀ {uss : List (List Value)} {l : List (List RC)}, RowsL w z uss l → ∀ {i : Nat}, i < l.length → RowL w z (uss.getD i []) (rrow l i) ∧ uss.getD i [] ∈ uss ∧ (uss.flatten.drop (i * z.length)).take z.length = uss.getD i []
  | [], l, h, i, hi => by subst h; simp at hi
  | us :: uss, l, h, i, hi => by
    obtain ⟨r, l', rfl, h1, h⟩ := h
    have hl := h1.len.1
    cases i with
    | zero =>
      refine ⟨h1, by simp, ?_⟩
      simp only [Nat.zero_mul, List.drop_zero, List.flatten_cons, List.getD_cons_zero]
      rw [List.take_append_of_le_length (by omega), List.take_of_length_le (by omega)]
    | succ i =>
      obtain ⟨g1, g2, g3⟩ := h.get (i := i) (by simpa using hi)
      refine ⟨by simpa [rrow] using g1, by simp only [List.getD_cons_succ]; exact List.mem_cons_of_mem _ g2, ?_⟩
      simp only [List.flatten_cons, List.getD_cons_succ, Nat.add_mul, Nat.one_mul]
      rw [List.drop_append, List.drop_of_length_le (by omega), List.nil_append, show i * z.length + z.length - us.length = i * z.length by omega]
      exact g3
theorem RowL.part {w : World} (o n : Nat) : ∀ {z : List RK} {us : List Value} {r : List RC}, RowL w z us r → RowL w ((z.drop o).take n) ((us.drop o).take n) ((r.drop o).take n) := by
  intro z us r h
  have key : ∀ (n : Nat) {z : List RK} {us : List Value} {r : List RC}, RowL w z us r → RowL w (z.take n) (us.take n) (r.take n) := by
    intro n
    induction n with
    | zero => intro z us r h; simp [RowL]
    | succ n ih =>
      intro z us r h
      cases z with
      | nil => obtain ⟨rfl, rfl⟩ := h; simp [RowL]
      | cons k z => obtain ⟨u, us', c, r', rfl, rfl, h1, h⟩ := h; exact ⟨u, _, c, _, rfl, rfl, h1, ih h⟩
  have key2 : ∀ (o : Nat) {z : List RK} {us : List Value} {r : List RC}, RowL w z us r → RowL w (z.drop o) (us.drop o) (r.drop o) := by
    intro o
    induction o with
    | zero => intro z us r h; simpa using h
    | succ o ih =>
      intro z us r h
      cases z with
      | nil => obtain ⟨rfl, rfl⟩ := h; simp [RowL]
      | cons k z => obtain ⟨u, us', c, r', rfl, rfl, h1, h⟩ := h; simpa using ih h
  exact key n (key2 o h)
theorem innR_part (o n : Nat) : ∀ {z : List RK} {us : List Value} {b off : Nat}, innR ((z.drop o).take n) ((us.drop o).take n) b off → innR z us b off := by
  have key : ∀ (n : Nat) {z : List RK} {us : List Value} {b off : Nat}, innR (z.take n) (us.take n) b off → innR z us b off := by
    intro n
    induction n with
    | zero => intro z us b off h; simp [innR] at h
    | succ n ih =>
      intro z us b off h
      cases z with
      | nil => simp [innR] at h
      | cons k z => cases us with
        | nil => simp [innR] at h
        | cons u us => exact h.imp id ih
  have key2 : ∀ (o : Nat) {z : List RK} {us : List Value} {b off : Nat}, innR (z.drop o) (us.drop o) b off → innR z us b off := by
    intro o
    induction o with
    | zero => intro z us b off h; simpa using h
    | succ o ih =>
      intro z us b off h
      cases z with
      | nil => simp [innR] at h
      | cons k z => cases us with
        | nil => cases z.drop o <;> simp [innR] at h <;> exact h.elim
        | cons u us => exact .inr (ih (by simpa using h))
  intro z us b off h
  exact key2 o (key n h)
def RepE (ρ : Env) (w : World) (p : Plc) : Ent → Prop
  | .dead => True
  | .box own cs => p.len = 1 ∧ ∃ x vs, p.base = some x ∧ x.spot = none ∧ RepVs ρ cs vs ∧ CellsL w x vs ∧ (own = true → Thawed w x vs.length)
  | .arr own nil a => a.len = p.len ∧ a.size = p.size ∧ (nil = true ↔ p.base = none) ∧ (p.base = none → p.cap = 0 ∧ p.len = 0) ∧
      (∀ x, p.base = some x → p.len ≤ p.cap ∧ CellsL w x a.cells) ∧ (own = true → ∃ e, w.ownsRow 0 e p.size (.slice p.base p.len p.cap) p.len a.cells)
  | .mp l => ∃ x es clock, p.base = some x ∧ w.heap[x.block]? = some (.map es clock) ∧ MapRep es l
  | .parts o n i1 i2 i3 => p.len = 1 ∧ ∃ x q1 q2 q3, p.base = some x ∧ ρ i1 = some q1 ∧ q1.base = some x ∧ q1.len = 1 ∧ ρ i2 = some q2 ∧ q2.base = some (x.add o) ∧ q2.len = 1 ∧ ρ i3 = some q3 ∧ q3.base = some (x.add (o + n)) ∧ q3.len = 1
  | .rows own nil z l => l.length = p.len ∧ z.length = p.size ∧ (nil = true ↔ p.base = none) ∧ (p.base = none → p.cap = 0 ∧ p.len = 0) ∧
      (∀ x, p.base = some x → p.len ≤ p.cap ∧ CellsL w x p.inn.flatten) ∧ (own = true → ∃ e, w.ownsRow 0 e p.size (.slice p.base p.len p.cap) p.len p.inn.flatten) ∧ RowsL w z p.inn l
def Ent.own : Ent → Bool
  | .dead => false
  | .box own _ => own
  | .arr own _ _ => own
  | .mp _ => true
  | .parts _ _ _ _ _ => false
  | .rows own _ _ _ => own
def foot (p : Plc) : Ent → Nat → Nat → Prop
  | .dead, _, _ => False
  | .box _ cs, b, off => ∃ x, p.base = some x ∧ x.block = b ∧ x.off ≤ off ∧ off < x.off + cs.length
  | .arr own _ a, b, off => ∃ x, p.base = some x ∧ x.block = b ∧ (own = true ∨ (x.off ≤ off ∧ off < x.off + a.len * a.size))
  | .mp _, b, _ => ∃ x, p.base = some x ∧ x.block = b
  | .parts _ _ _ _ _, _, _ => False
  | .rows own _ z l, b, off => ∃ x, p.base = some x ∧ x.block = b ∧ (own = true ∨ (x.off ≤ off ∧ off < x.off + l.length * z.length))
structure HeapOk (ρ : Env) (g : Hp) (w : World) : Prop where
  rep : ∀ id, g id ≠ .dead → ∃ p, ρ id = some p ∧ RepE ρ w p (g id)
  sep : ∀ i j p q, i ≠ j → ρ i = some p → ρ j = some q → (g i).own = true → ∀ b off, foot p (g i) b off → ¬ foot q (g j) b off
  inn : ∀ i j p q, ρ i = some p → ρ j = some q → (g i).own = true → ∀ b off, foot p (g i) b off → ¬ inn q (g j) b off

/-- outside of M the world w' is as w was -/
structure Fr (M : Nat → Nat → Prop) (w w' : World) : Prop where
  os : w'.os = w.os
  tape : w'.tape = w.tape
  output : w'.output = w.output
  size : w.heap.size ≤ w'.heap.size
  shell : ∀ b, b < w.heap.size → (∃ c c' t z, w.heap[b]? = some (.cells c t z) ∧ w'.heap[b]? = some (.cells c' t z) ∧ c'.size = c.size ∧ ∀ off, ¬ M b off → c'[off]? = c[off]?) ∨ w'.heap[b]? = w.heap[b]? ∨ (∃ c t c' t', w.heap[b]? = some (.map c t) ∧ w'.heap[b]? = some (.map c' t') ∧ M b 0)
theorem Fr.refl (M : Nat → Nat → Prop) (w : World) : Fr M w w := ⟨rfl, rfl, rfl, Nat.le_refl _, fun _ _ => .inr (.inl rfl)⟩
theorem Fr.trans {M : Nat → Nat → Prop} {a b c : World} (h : Fr M a b) (k : Fr M b c) : Fr M a c := by
  refine ⟨k.os.trans h.os, k.tape.trans h.tape, k.output.trans h.output, Nat.le_trans h.size k.size, fun i hi => ?_⟩
  rcases h.shell i hi with ⟨c1, c2, t, z, h1, h2, h3, h4⟩ | h1 | ⟨m1, t1, m2, t2, h1, h2, h3⟩
  · rcases k.shell i (Nat.lt_of_lt_of_le hi h.size) with ⟨d1, d2, t', z', k1, k2, k3, k4⟩ | k1 | ⟨m3, t3, m4, t4, k1, k2, k3⟩
    · rw [h2] at k1
      cases k1
      exact .inl ⟨_, _, _, _, h1, k2, k3.trans h3, fun off ho => (k4 off ho).trans (h4 off ho)⟩
    · exact .inl ⟨_, _, _, _, h1, k1.trans h2, h3, h4⟩
    · rw [h2] at k1; cases k1
  · rcases k.shell i (Nat.lt_of_lt_of_le hi h.size) with ⟨d1, d2, t', z', k1, k2, k3, k4⟩ | k1 | ⟨m3, t3, m4, t4, k1, k2, k3⟩
    · exact .inl ⟨_, _, _, _, h1 ▸ k1, k2, k3, k4⟩
    · exact .inr (.inl (k1.trans h1))
    · exact .inr (.inr ⟨_, _, _, _, h1 ▸ k1, k2, k3⟩)
  · rcases k.shell i (Nat.lt_of_lt_of_le hi h.size) with ⟨d1, d2, t', z', k1, k2, k3, k4⟩ | k1 | ⟨m3, t3, m4, t4, k1, k2, k3⟩
    · rw [h2] at k1; cases k1
    · exact .inr (.inr ⟨_, _, _, _, h1, k1.trans h2, h3⟩)
    · exact .inr (.inr ⟨_, _, _, _, h1, k2, h3⟩)
theorem Fr.mono {M M' : Nat → Nat → Prop} {a b : World} (h : Fr M a b) (hm : ∀ x y, x < a.heap.size → M x y → M' x y) : Fr M' a b := by
  refine ⟨h.os, h.tape, h.output, h.size, fun i hi => ?_⟩
  rcases h.shell i hi with ⟨c1, c2, t, z, h1, h2, h3, h4⟩ | h1 | ⟨m1, t1, m2, t2, h1, h2, h3⟩
  · exact .inl ⟨_, _, _, _, h1, h2, h3, fun off ho => h4 off fun e => ho (hm _ _ hi e)⟩
  · exact .inr (.inl h1)
  · exact .inr (.inr ⟨_, _, _, _, h1, h2, hm _ _ hi h3⟩)
theorem Fr.trans' {M N : Nat → Nat → Prop} {a b c : World} (h : Fr M a b) (k : Fr N b c) (hn : ∀ x y, N x y → M x y ∨ a.heap.size ≤ x) : Fr M a c := by
  refine ⟨k.os.trans h.os, k.tape.trans h.tape, k.output.trans h.output, Nat.le_trans h.size k.size, fun i hi => ?_⟩
  have hn' : ∀ y, ¬ M i y → ¬ N i y := fun y hm hy => by
    rcases hn i y hy with h1 | h1
    · exact hm h1
    · omega
  have hnM : N i 0 → M i 0 := fun hy => by
    rcases hn i 0 hy with h1 | h1
    · exact h1
    · omega
  rcases h.shell i hi with ⟨c1, c2, t, z, h1, h2, h3, h4⟩ | h1 | ⟨m1, t1, m2, t2, h1, h2, h3⟩
  · rcases k.shell i (Nat.lt_of_lt_of_le hi h.size) with ⟨d1, d2, t', z', k1, k2, k3, k4⟩ | k1 | ⟨m3, t3, m4, t4, k1, k2, k3⟩
    · rw [h2] at k1
      cases k1
      exact .inl ⟨_, _, _, _, h1, k2, k3.trans h3, fun off ho => (k4 off (hn' off ho)).trans (h4 off ho)⟩
    · exact .inl ⟨_, _, _, _, h1, k1.trans h2, h3, h4⟩
    · rw [h2] at k1; cases k1
  · rcases k.shell i (Nat.lt_of_lt_of_le hi h.size) with ⟨d1, d2, t', z', k1, k2, k3, k4⟩ | k1 | ⟨m3, t3, m4, t4, k1, k2, k3⟩
    · exact .inl ⟨_, _, _, _, h1 ▸ k1, k2, k3, fun off ho => k4 off (hn' off ho)⟩
    · exact .inr (.inl (k1.trans h1))
    · exact .inr (.inr ⟨_, _, _, _, h1 ▸ k1, k2, hnM k3⟩)
  · rcases k.shell i (Nat.lt_of_lt_of_le hi h.size) with ⟨d1, d2, t', z', k1, k2, k3, k4⟩ | k1 | ⟨m3, t3, m4, t4, k1, k2, k3⟩
    · rw [h2] at k1; cases k1
    · exact .inr (.inr ⟨_, _, _, _, h1, k1.trans h2, h3⟩)
    · exact .inr (.inr ⟨_, _, _, _, h1, k2, h3⟩)
/-- a cell outside of M -/
theorem Fr.cell {M : Nat → Nat → Prop} {a b : World} (h : Fr M a b) {x : Addr} {v : Value} (hv : a.cell? x = some v) (hm : ¬ M x.block x.off) : b.cell? x = some v := by
  have hlt := World.block_lt_of_cell? a x hv
  rcases h.shell x.block hlt with ⟨c1, c2, t, z, h1, h2, h3, h4⟩ | h1 | ⟨m1, t1, m2, t2, h1, h2, h3⟩
  · simp only [World.cell?, h1, h2] at hv ⊢
    by_cases hs : x.spot.isSome = true
    · rw [if_pos hs] at hv; cases hv
    · rw [if_neg hs] at hv ⊢; rw [h4 _ hm]; exact hv
  · rw [World.cell?_of_block (w := a) h1]; exact hv
  · simp [World.cell?, h1] at hv
theorem Fr.frozen {M : Nat → Nat → Prop} {a b : World} (h : Fr M a b) {x : Addr} (hx : x.block < a.heap.size) : b.frozen? x = a.frozen? x := by
  rcases h.shell x.block hx with ⟨c1, c2, t, z, h1, h2, h3, h4⟩ | h1 | ⟨m1, t1, m2, t2, h1, h2, h3⟩
  · simp only [World.frozen?, h1, h2]
  · simp only [World.frozen?, h1]
  · simp only [World.frozen?, h1, h2]
theorem Fr.below {a b : World} (h : Fr (fun _ _ => False) a b) : Below a.heap.size a b := by
  refine ⟨h.os, h.tape, h.output, h.size, fun k hk => ?_⟩
  rcases h.shell k hk with ⟨c1, c2, t, z, h1, h2, h3, h4⟩ | h1 | ⟨m1, t1, m2, t2, h1, h2, h3⟩
  · rw [h1, h2]
    have : c2 = c1 := Array.ext_getElem? fun i => h4 i (by simp)
    rw [this]
  · exact h1
  · exact h3.elim
end Go.Ev
namespace Go.Ev
set_option linter.unusedSimpArgs false
set_option linter.unusedVariables false
open Go Go.RowKit

inductive Ac where
  | rd (id : Nat) (e : Ent)
  | wr (id : Nat) (e : Ent)
  | new (id : Nat) (e : Ent)
  | call (f : Nat) (ds rs : List D)

inductive Run (cal : Nat → List D → Option (List D)) {α : Type} : Prog α → List Ac → α → Prop
  | ret (a : α) : Run cal (.ret a) [] a
  | rd {id : Nat} {e : Ent} {k : Ent → Prog α} {l : List Ac} {a : α} : Run cal (k e) l a → Run cal (.rd id k) (.rd id e :: l) a
  | wr {id : Nat} {e : Ent} {k : Prog α} {l : List Ac} {a : α} : Run cal k l a → Run cal (.wr id e k) (.wr id e :: l) a
  | new {id : Nat} {e : Ent} {k : Nat → Prog α} {l : List Ac} {a : α} : Run cal (k id) l a → Run cal (.new e k) (.new id e :: l) a
  | chk {c : Bool} {k : Prog α} {l : List Ac} {a : α} : c = true → Run cal k l a → Run cal (.chk c k) l a
  | brT {c : Bool} {k₁ k₂ : Prog α} {l : List Ac} {a : α} : c = true → Run cal k₁ l a → Run cal (.br c k₁ k₂) l a
  | brF {c : Bool} {k₁ k₂ : Prog α} {l : List Ac} {a : α} : c = false → Run cal k₂ l a → Run cal (.br c k₁ k₂) l a
  | call {f : Nat} {ds rs : List D} {k : List D → Prog α} {l : List Ac} {a : α} : cal f ds = some rs → Run cal (k rs) l a → Run cal (.call f ds k) (.call f ds rs :: l) a

def upd (g : Hp) (id : Nat) (e : Ent) : Hp := fun i => if i = id then e else g i
@[simp] theorem upd_same (g : Hp) (id : Nat) (e : Ent) : upd g id e id = e := by simp [upd]
theorem upd_other (g : Hp) {id i : Nat} (e : Ent) (h : i ≠ id) : upd g id e i = g i := by simp [upd, h]
def Cons : List Ac → Hp → Prop
  | [], _ => True
  | .rd id e :: l, g => g id = e ∧ Cons l g
  | .wr id e :: l, g => g id ≠ .dead ∧ Cons l (upd g id e)
  | .new id e :: l, g => g id = .dead ∧ Cons l (upd g id e)
  | .call _ _ _ :: l, g => Cons l g
def appl : List Ac → Hp → Hp
  | [], g => g
  | .rd _ _ :: l, g => appl l g
  | .wr id e :: l, g => appl l (upd g id e)
  | .new id e :: l, g => appl l (upd g id e)
  | .call _ _ _ :: l, g => appl l g
def news : List Ac → List Nat
  | [] => []
  | .new id _ :: l => id :: news l
  | _ :: l => news l
def rds : List Ac → List Nat
  | [] => []
  | .rd id _ :: l => id :: rds l
  | _ :: l => rds l
def wrs : List Ac → List Nat
  | [] => []
  | .wr id _ :: l => id :: wrs l
  | .new id _ :: l => id :: wrs l
  | _ :: l => wrs l

theorem ent_set (h : List Ent) (id : Nat) (e : Ent) (hd : ent h id ≠ .dead) : ent (h.set id e) = upd (ent h) id e := by
  have hlt : id < h.length := by
    rcases Nat.lt_or_ge id h.length with hl | hl
    · exact hl
    · exact absurd (by simp [ent, hl]) hd
  funext i
  by_cases hi : i = id
  · subst hi; simp [ent, hlt]
  · rw [upd_other _ _ hi]; simp [ent, List.getElem?_set, Ne.symm hi]
theorem ent_push (h : List Ent) (e : Ent) : ent (h ++ [e]) = upd (ent h) h.length e := by
  funext i
  by_cases hi : i = h.length
  · subst hi; simp [ent]
  · rw [upd_other _ _ hi]
    rcases Nat.lt_or_ge i h.length with hl | hl
    · simp [ent, List.getElem?_append_left hl]
    · have : h.length < i := by omega
      simp only [ent, List.getD_eq_getElem?_getD]
      rw [List.getElem?_eq_none (by simp; omega), List.getElem?_eq_none (by omega)]
theorem ent_ge (h : List Ent) (id : Nat) (hl : h.length ≤ id) : ent h id = .dead := by simp [ent, hl]

theorem runP_run {cal : Nat → List D → Option (List D)} {α ω : Type} (p : Prog α) : ∀ {h : List Ent} {R W : List Nat} {K : α → List Ent → List Nat → List Nat → Option ω} {out : ω},
    runP cal p h R W K = some out → ∃ l v h' R' W', Run cal p l v ∧ Cons l (ent h) ∧ ent h' = appl l (ent h) ∧ K v h' R' W' = some out ∧
      (∀ id ∈ news l, h.length ≤ id ∧ id < h'.length) ∧ h.length ≤ h'.length ∧ (∀ id, id ∈ R' ↔ id ∈ rds l ∨ id ∈ R) ∧ (∀ id, id ∈ W' ↔ id ∈ wrs l ∨ id ∈ W) ∧ (news l).Nodup := by
  induction p with
  | ret a =>
    intro h R W K out hr
    simp only [runP] at hr
    exact ⟨[], a, h, R, W, .ret a, trivial, rfl, hr, by simp [news], Nat.le_refl _, by simp [rds], by simp [wrs], by simp [news]⟩
  | rd id k ih =>
    intro h R W K out hr
    simp only [runP] at hr
    obtain ⟨l, v, h', R', W', h1, h2, h3, h4, h5, h6, h7, h8, h9⟩ := ih _ hr
    refine ⟨.rd id (ent h id) :: l, v, h', R', W', .rd h1, ⟨rfl, h2⟩, h3, h4, h5, h6, ?_, h8, h9⟩
    intro i; rw [h7]; simp [rds]
    constructor
    · rintro (a | a | a) <;> simp [a]
    · rintro ((a | a) | a) <;> simp [a]
  | wr id e k ih =>
    intro h R W K out hr
    have hd : ent h id ≠ .dead := by intro hd; simp only [runP, hd] at hr; cases hr
    have hr' : runP cal k (h.set id e) R (id :: W) K = some out := by
      simp only [runP] at hr
      split at hr
      · cases hr
      · exact hr
      · exact hr
      · exact hr
      · exact hr
      · exact hr
    obtain ⟨l, v, h', R', W', h1, h2, h3, h4, h5, h6, h7, h8, h9⟩ := ih hr'
    rw [ent_set h id e hd] at h2 h3
    refine ⟨.wr id e :: l, v, h', R', W', .wr h1, ⟨hd, h2⟩, h3, h4, fun i hi => by simpa using h5 i (by simpa [news] using hi), by simpa using h6, h7, ?_, h9⟩
    intro i; rw [h8]; simp [wrs]
    constructor
    · rintro (a | a | a) <;> simp [a]
    · rintro ((a | a) | a) <;> simp [a]
  | new e k ih =>
    intro h R W K out hr
    simp only [runP] at hr
    obtain ⟨l, v, h', R', W', h1, h2, h3, h4, h5, h6, h7, h8, h9⟩ := ih _ hr
    rw [ent_push] at h2 h3
    rw [List.length_append] at h5 h6
    simp only [List.length_cons, List.length_nil] at h5 h6
    refine ⟨.new h.length e :: l, v, h', R', W', .new h1, ⟨ent_ge h _ (Nat.le_refl _), h2⟩, h3, h4, ?_, by omega, h7, ?_, ?_⟩
    rotate_left
    · intro i; rw [h8]; simp [wrs]
      constructor
      · rintro (a | a | a) <;> simp [a]
      · rintro ((a | a) | a) <;> simp [a]
    · simp only [news, List.nodup_cons]
      exact ⟨fun hm => by have := h5 _ hm; omega, h9⟩
    intro i hi
    simp only [news, List.mem_cons] at hi
    rcases hi with rfl | hi
    · omega
    · have := h5 i hi; omega
  | chk c k ih =>
    intro h R W K out hr
    cases c with
    | false => simp [runP] at hr
    | true =>
      simp only [runP, cond_true] at hr
      obtain ⟨l, v, h', R', W', h1, h2⟩ := ih hr
      exact ⟨l, v, h', R', W', .chk rfl h1, h2⟩
  | br c k₁ k₂ ih₁ ih₂ =>
    intro h R W K out hr
    cases c with
    | false =>
      simp only [runP, cond_false] at hr
      obtain ⟨l, v, h', R', W', h1, h2⟩ := ih₂ hr
      exact ⟨l, v, h', R', W', .brF rfl h1, h2⟩
    | true =>
      simp only [runP, cond_true] at hr
      obtain ⟨l, v, h', R', W', h1, h2⟩ := ih₁ hr
      exact ⟨l, v, h', R', W', .brT rfl h1, h2⟩
  | call f ds k ih =>
    intro h R W K out hr
    simp only [runP] at hr
    cases hc : cal f ds with
    | none => rw [hc] at hr; cases hr
    | some rs =>
      rw [hc] at hr
      simp only [Option.bind_some] at hr
      obtain ⟨l, v, h', R', W', h1, h2, h3, h4, h5⟩ := ih _ hr
      exact ⟨.call f ds rs :: l, v, h', R', W', .call hc h1, h2, h3, h4, h5⟩
  | fail =>
    intro h R W K out hr
    simp [runP] at hr

/-! memory -/
theorem addr_add_zero (x : Addr) : x.add 0 = x := rfl
theorem addr_block (x : Addr) (n : Nat) : (x.add n).block = x.block := by unfold Addr.add; split <;> rfl
theorem addr_off (x : Addr) (n : Nat) : (x.add n).off = x.off + n := by unfold Addr.add; split <;> simp_all
theorem addr_add_add (x : Addr) (m n : Nat) : (x.add m).add n = x.add (m + n) := by
  unfold Addr.add
  by_cases hm : m = 0
  · subst hm; simp
  · by_cases hn : n = 0
    · subst hn; simp [hm]
    · have : ¬ m + n = 0 := by omega
      simp [hm, hn, this]; omega

theorem RepE.mono {ρ ρ' : Env} (h : Sub ρ ρ') {w : World} {p : Plc} {e : Ent} (r : RepE ρ w p e) : RepE ρ' w p e := by
  cases e with
  | dead => trivial
  | box own cs =>
    obtain ⟨h1, x, vs, h2, h3, h4, h5⟩ := r
    exact ⟨h1, x, vs, h2, h3, RepVs.mono h _ _ h4, h5⟩
  | arr own nil a => exact r
  | mp l => exact r
  | parts o n i1 i2 i3 =>
    obtain ⟨h1, x, q1, q2, q3, h2, a1, b1, c1, a2, b2, c2, a3, b3, c3⟩ := r
    exact ⟨h1, x, q1, q2, q3, h2, h _ _ a1, b1, c1, h _ _ a2, b2, c2, h _ _ a3, b3, c3⟩
  | rows own nil z l => exact r
theorem CellsL.frame {w w' : World} {N : Nat → Nat → Prop} (f : Fr N w w') {x : Addr} {us : List Value} (h : CellsL w x us) (hd : ∀ b off, x.block = b → x.off ≤ off → off < x.off + us.length → ¬ N b off) : CellsL w' x us := by
  intro j u hj
  refine f.cell (h j u hj) (hd _ _ (addr_block x j).symm ?_ ?_)
  · rw [addr_off]; omega
  · rw [addr_off]; have := (List.getElem?_eq_some_iff.1 hj).1; omega
theorem CellsL.lt {w : World} {x : Addr} {us : List Value} (h : CellsL w x us) {off : Nat} (h1 : x.off ≤ off) (h2 : off < x.off + us.length) : x.block < w.heap.size := by
  have := World.block_lt_of_cell? w _ (h (off - x.off) _ (List.getElem?_eq_getElem (by omega)))
  rwa [addr_block] at this
theorem ColL.frame {w w' : World} {N : Nat → Nat → Prop} (f : Fr N w w') {c : RC} {k : RK} {v : Value} (h : ColL w c k v) (hd : ∀ b off, kspan k v b off → ¬ N b off) : ColL w' c k v := by
  cases c <;> cases k <;> first | exact h | skip
  · obtain ⟨b, n, cp, rfl, h1, h2, h3, h4⟩ := h
    refine ⟨b, n, cp, rfl, h1, h2, h3, fun x hx => ⟨(h4 x hx).1, (h4 x hx).2.frame f fun bb off e1 e2 e3 => hd bb off ⟨x, n, cp, by rw [hx], e1, e2, ?_⟩⟩⟩
    rw [Arr.cells_length, h1] at e3; simpa [Arr.size] using e3
  · obtain ⟨b, n, cp, rfl, h1, h2, h3, h4⟩ := h
    refine ⟨b, n, cp, rfl, h1, h2, h3, fun x hx => ⟨(h4 x hx).1, (h4 x hx).2.frame f fun bb off e1 e2 e3 => hd bb off ⟨x, n, cp, by rw [hx], e1, e2, ?_⟩⟩⟩
    rw [Arr.cells_length, h1] at e3; simpa [Arr.size] using e3
theorem ColL.lt {w : World} {c : RC} {k : RK} {v : Value} (h : ColL w c k v) {b off : Nat} (hs : kspan k v b off) : b < w.heap.size := by
  cases c <;> cases k <;> first | exact hs.elim | exact h.elim | skip
  · obtain ⟨b', n, cp, rfl, h1, h2, h3, h4⟩ := h
    obtain ⟨x, n', c', e, rfl, e2, e3⟩ := hs
    simp only [Value.slice.injEq] at e
    obtain ⟨rfl, rfl, rfl⟩ := e
    exact (h4 x rfl).2.lt e2 (by rw [Arr.cells_length, h1]; simpa [Arr.size] using e3)
  · obtain ⟨b', n, cp, rfl, h1, h2, h3, h4⟩ := h
    obtain ⟨x, n', c', e, rfl, e2, e3⟩ := hs
    simp only [Value.slice.injEq] at e
    obtain ⟨rfl, rfl, rfl⟩ := e
    exact (h4 x rfl).2.lt e2 (by rw [Arr.cells_length, h1]; simpa [Arr.size] using e3)
theorem RowL.frame {w w' : World} {N : Nat → Nat → Prop} (f : Fr N w w') : ∀ {z : List RK} {us : List Value} {r : List RC}, RowL w z us r → (∀ b off, innR z us b off → ¬ N b off) → RowL w' z us r
  | [], us, r, h, hd => h
  | k :: z, us, r, h, hd => by
    obtain ⟨u, us', c, r', rfl, rfl, h1, h⟩ := h
    exact ⟨u, us', c, r', rfl, rfl, h1.frame f fun b off hk => hd b off (.inl hk), h.frame f fun b off hk => hd b off (.inr hk)⟩
theorem RowL.lt {w : World} : ∀ {z : List RK} {us : List Value} {r : List RC}, RowL w z us r → ∀ {b off : Nat}, innR z us b off → b < w.heap.size
  | [], us, r, h, b, off, hi => by simp [innR] at hi
  | k :: z, us, r, h, b, off, hi => by
    obtain ⟨u, us', c, r', rfl, rfl, h1, h⟩ := h
    rcases hi with hi | hi
    · exact h1.lt hi
    · exact h.lt hi
theorem RowsL.frame {w w' : World} {N : Nat → Nat → Prop} (f : Fr N w w') {z : List RK} : ∀ {uss : List (List Value)} {l : List (List RC)}, RowsL w z uss l → (∀ b off, (∃ us ∈ uss, innR z us b off) → ¬ N b off) → RowsL w' z uss l
  | [], l, h, hd => h
  | us :: uss, l, h, hd => by
    obtain ⟨r, l', rfl, h1, h⟩ := h
    exact ⟨r, l', rfl, h1.frame f fun b off hk => hd b off ⟨us, by simp, hk⟩, h.frame f fun b off ⟨vs, hv, hk⟩ => hd b off ⟨vs, by simp [hv], hk⟩⟩
theorem RowsL.lt {w : World} {z : List RK} : ∀ {uss : List (List Value)} {l : List (List RC)}, RowsL w z uss l → ∀ {us : List Value}, us ∈ uss → ∀ {b off : Nat}, innR z us b off → b < w.heap.size
  | [], l, h, us, hu, b, off, hi => by cases hu
  | us :: uss, l, h, vs, hv, b, off, hi => by
    obtain ⟨r, l', rfl, h1, h⟩ := h
    rcases List.mem_cons.1 hv with rfl | hv
    · exact h1.lt hi
    · exact h.lt hv hi
theorem RepE.frame {ρ : Env} {w w' : World} {p : Plc} {e : Ent} {N : Nat → Nat → Prop} (r : RepE ρ w p e) (f : Fr N w w') (hd : ∀ b off, foot p e b off ∨ inn p e b off → ¬ N b off) : RepE ρ w' p e := by
  cases e with
  | dead => trivial
  | box own cs =>
    obtain ⟨h1, x, vs, h2, h3, h4, h5, h6⟩ := r
    refine ⟨h1, x, vs, h2, h3, h4, ?_, ?_⟩
    · intro j u hj
      have hc := h5 j u hj
      refine f.cell hc (hd _ _ (.inl ⟨x, h2, (addr_block x j).symm, ?_, ?_⟩))
      · rw [addr_off]; omega
      · rw [addr_off]
        have := (List.getElem?_eq_some_iff.1 hj).1
        rw [h4.length] at this; omega
    · intro ho
      have h7 := h6 ho
      intro j hj
      have hc := h5 j _ (List.getElem?_eq_getElem hj)
      rw [f.frozen (World.block_lt_of_cell? w _ hc)]
      exact h7 j hj
  | arr own nil a =>
    obtain ⟨h1, h2, h3, h4, h5, h6⟩ := r
    refine ⟨h1, h2, h3, h4, ?_, ?_⟩
    · intro x hx
      obtain ⟨h7, h8⟩ := h5 x hx
      refine ⟨h7, fun j u hj => f.cell (h8 j u hj) (hd _ _ (.inl ⟨x, hx, (addr_block x j).symm, .inr ⟨?_, ?_⟩⟩))⟩
      · rw [addr_off]; omega
      · rw [addr_off]
        have := (List.getElem?_eq_some_iff.1 hj).1
        rw [a.cells_length] at this; omega
    · intro ho
      obtain ⟨e, he⟩ := h6 ho
      refine ⟨e, he.1, ?_⟩
      rcases he.2 with hn | ⟨b, cap, cur, hv, hb, hg, hle, hm, hs, ht⟩
      · exact .inl hn
      · refine .inr ⟨b, cap, cur, hv, hb, ?_, hle, hm, hs, ht⟩
        have hbase : p.base = some ⟨b, 0, none⟩ := by simpa using congrArg (fun v => match v with | Value.slice x _ _ => x | _ => none) hv
        have hlt := (Array.getElem?_eq_some_iff.1 hg).1
        rcases f.shell b hlt with ⟨c1, c2, t, z, k1, k2, k3, k4⟩ | k1 | ⟨m1, t1, m2, t2, k1, k2, k3⟩
        · rw [hg] at k1
          cases k1
          rw [k2]
          have : c2 = cur := Array.ext_getElem? fun i => k4 i (hd b i (.inl ⟨_, hbase, rfl, .inl ho⟩))
          rw [this]
        · rw [k1]; exact hg
        · rw [hg] at k1; cases k1
  | mp l =>
    obtain ⟨x, es, ck, h1, h2, h3⟩ := r
    refine ⟨x, ?_⟩
    rcases f.shell x.block (Array.getElem?_eq_some_iff.1 h2).1 with ⟨c1, c2, t, z, k1, k2, k3, k4⟩ | k1 | ⟨m1, t1, m2, t2, k1, k2, k3⟩
    · rw [h2] at k1; cases k1
    · exact ⟨es, ck, h1, by rw [k1]; exact h2, h3⟩
    · exact absurd k3 (hd _ _ (.inl ⟨x, h1, rfl⟩))
  | parts o n i1 i2 i3 => exact r
  | rows own nil z l =>
    obtain ⟨h1, h2, h3, h4, h5, h6, h7⟩ := r
    have hfl : p.inn.flatten.length = l.length * z.length := h7.flat
    refine ⟨h1, h2, h3, h4, ?_, ?_, h7.frame f fun b off hk => hd b off (.inr hk)⟩
    · intro x hx
      obtain ⟨h8, h9⟩ := h5 x hx
      exact ⟨h8, h9.frame f fun b off e1 e2 e3 => hd b off (.inl ⟨x, hx, e1, .inr ⟨e2, by rw [hfl] at e3; exact e3⟩⟩)⟩
    · intro ho
      obtain ⟨e, he⟩ := h6 ho
      refine ⟨e, he.1, ?_⟩
      rcases he.2 with hn | ⟨b, cap, cur, hv, hb, hg, hle, hm, hs, ht⟩
      · exact .inl hn
      · refine .inr ⟨b, cap, cur, hv, hb, ?_, hle, hm, hs, ht⟩
        have hbase : p.base = some ⟨b, 0, none⟩ := by simpa using congrArg (fun v => match v with | Value.slice x _ _ => x | _ => none) hv
        have hlt := (Array.getElem?_eq_some_iff.1 hg).1
        rcases f.shell b hlt with ⟨c1, c2, t, z', k1, k2, k3, k4⟩ | k1 | ⟨m1, t1, m2, t2, k1, k2, k3⟩
        · rw [hg] at k1
          cases k1
          rw [k2]
          have : c2 = cur := Array.ext_getElem? fun i => k4 i (hd b i (.inl ⟨_, hbase, rfl, .inl ho⟩))
          rw [this]
        · rw [k1]; exact hg
        · rw [hg] at k1; cases k1

structure Inv (w0 : World) (M : Nat → Nat → Prop) (ρ : Env) (g : Hp) (w : World) : Prop where
  ok : HeapOk ρ g w
  fr : Fr M w0 w
  own : ∀ id p, ρ id = some p → (g id).own = true → ∀ b off, foot p (g id) b off → M b off ∨ w0.heap.size ≤ b

/-- the blocks of an entry are there -/
theorem RepE.lt {ρ : Env} {w : World} {p : Plc} {e : Ent} (r : RepE ρ w p e) : ∀ b off, foot p e b off → (∃ own nil a, e = .arr own nil a ∧ own = true ∧ p.len = 0) ∨ b < w.heap.size := by
  intro b off hf
  cases e with
  | rows own nil z l =>
    obtain ⟨h1, h2, h3, h4, h5, h6, h7⟩ := r
    obtain ⟨y, hy, rfl, ho⟩ := hf
    rcases ho with ho | ⟨hlo, hhi⟩
    · obtain ⟨e, he⟩ := h6 ho
      right
      exact (he.lt y.block (by simp [Value.ownBlock, hy])).2
    · exact .inr ((h5 y hy).2.lt hlo (by rw [h7.flat]; exact hhi))
  | dead => exact hf.elim
  | box own cs =>
    obtain ⟨h1, x, vs, h2, h3, h4, h5, h6⟩ := r
    obtain ⟨y, hy, rfl, hlo, hhi⟩ := hf
    rw [h2] at hy; cases hy
    have hj : off - x.off < vs.length := by rw [h4.length]; omega
    have := World.block_lt_of_cell? w _ (h5 (off - x.off) _ (List.getElem?_eq_getElem hj))
    rw [addr_block] at this
    exact .inr this
  | arr own nil a =>
    obtain ⟨h1, h2, h3, h4, h5, h6⟩ := r
    obtain ⟨y, hy, rfl, ho⟩ := hf
    rcases ho with ho | ⟨hlo, hhi⟩
    · obtain ⟨e, he⟩ := h6 ho
      right
      exact (he.lt y.block (by simp [Value.ownBlock, hy])).2
    · have hj : off - y.off < a.cells.length := by rw [a.cells_length]; omega
      have := World.block_lt_of_cell? w _ ((h5 y hy).2 (off - y.off) _ (List.getElem?_eq_getElem hj))
      rw [addr_block] at this
      exact .inr this
  | mp l =>
    obtain ⟨x, es, ck, h1, h2, h3⟩ := r
    obtain ⟨y, hy, rfl⟩ := hf
    rw [h1] at hy; cases hy
    exact .inr (Array.getElem?_eq_some_iff.1 h2).1
  | parts o n i1 i2 i3 => exact hf.elim
theorem RepE.lt' {ρ : Env} {w : World} {p : Plc} {e : Ent} (r : RepE ρ w p e) : ∀ b off, foot p e b off → b < w.heap.size := by
  intro b off hf
  rcases r.lt b off hf with ⟨own, nil, a, rfl, ho, _⟩ | h
  · obtain ⟨y, hy, rfl, _⟩ := hf
    obtain ⟨e, he⟩ := r.2.2.2.2.2 ho
    exact (he.lt y.block (by simp [Value.ownBlock, hy])).2
  · exact h

theorem RepE.ltI {ρ : Env} {w : World} {p : Plc} {e : Ent} (r : RepE ρ w p e) : ∀ b off, inn p e b off → b < w.heap.size := by
  intro b off hf
  cases e with
  | rows own nil z l =>
    obtain ⟨us, hu, hi⟩ := hf
    exact r.2.2.2.2.2.2.lt hu hi
  | _ => exact hf.elim
def updρ (ρ : Env) (id : Nat) (p : Plc) : Env := fun i => if i = id then some p else ρ i
theorem updρ_same (ρ : Env) (id : Nat) (p : Plc) : updρ ρ id p id = some p := by simp [updρ]
theorem updρ_other (ρ : Env) {id i : Nat} (p : Plc) (h : i ≠ id) : updρ ρ id p i = ρ i := by simp [updρ, h]
theorem sub_updρ {ρ : Env} {id : Nat} {p : Plc} (h : ρ id = none) : Sub ρ (updρ ρ id p) := by
  intro i q hq
  by_cases hi : i = id
  · subst hi; rw [h] at hq; cases hq
  · rw [updρ_other _ _ hi]; exact hq

/-- a new entry -/
theorem Inv.new {w0 : World} {M : Nat → Nat → Prop} {ρ : Env} {g : Hp} {w w' : World} (I : Inv w0 M ρ g w) {id : Nat} {p : Plc} {e : Ent} (hid : ρ id = none)
    (hw : Fr (fun _ _ => False) w w') (hr : RepE (updρ ρ id p) w' p e)
    (hs : (e.own = true ∧ ∀ b off, foot p e b off → w.heap.size ≤ b) ∨ (e.own = false ∧ ∀ j q, ρ j = some q → (g j).own = true → ∀ b off, foot q (g j) b off → ¬ foot p e b off)) (hin : ∀ b off, inn p e b off → False := by intro _ _ h; exact h) :
    Inv w0 M (updρ ρ id p) (upd g id e) w' := by
  have hold : ∀ i, g i ≠ .dead → i ≠ id := by
    intro i hi e'
    subst e'
    obtain ⟨q, hq, _⟩ := I.ok.rep _ hi
    rw [hid] at hq; cases hq
  refine ⟨⟨?_, ?_, ?_⟩, (I.fr.trans (hw.mono (fun _ _ _ h => h.elim))), ?_⟩
  · intro i hi
    by_cases hii : i = id
    · subst hii; rw [upd_same] at hi ⊢; exact ⟨p, updρ_same _ _ _, hr⟩
    · rw [upd_other _ _ hii] at hi ⊢
      obtain ⟨q, hq, hrq⟩ := I.ok.rep i hi
      exact ⟨q, by rw [updρ_other _ _ hii]; exact hq, (hrq.mono (sub_updρ hid)).frame hw (fun _ _ _ h => h)⟩
  · intro i j q r hij hq hrr ho b off hf hf'
    by_cases hii : i = id
    · subst hii
      rw [updρ_same] at hq; cases hq
      rw [upd_same] at ho hf
      have hji : j ≠ i := Ne.symm hij
      rw [updρ_other _ _ hji] at hrr
      rw [upd_other _ _ hji] at hf'
      rcases hs with ⟨_, hge⟩ | ⟨h0, _⟩
      · have hb := hge b off hf
        have hnd : g j ≠ .dead := by intro h0; rw [h0] at hf'; exact hf'
        obtain ⟨q', hq', hrq⟩ := I.ok.rep j hnd
        rw [hrr] at hq'; cases hq'
        have := hrq.lt' b off hf'
        omega
      · rw [h0] at ho; cases ho
    · rw [updρ_other _ _ hii] at hq
      rw [upd_other _ _ hii] at ho hf
      by_cases hjj : j = id
      · subst hjj
        rw [updρ_same] at hrr; cases hrr
        rw [upd_same] at hf'
        rcases hs with ⟨_, hge⟩ | ⟨_, hne⟩
        · have hb := hge b off hf'
          have hnd : g i ≠ .dead := by intro h0; rw [h0] at hf; exact hf
          obtain ⟨q', hq', hrq⟩ := I.ok.rep i hnd
          rw [hq] at hq'; cases hq'
          have := hrq.lt' b off hf
          omega
        · exact hne i q hq ho b off hf hf'
      · rw [updρ_other _ _ hjj] at hrr
        rw [upd_other _ _ hjj] at hf'
        exact I.ok.sep i j q r hij hq hrr ho b off hf hf'
  · intro i j q r hq hrr ho b off hf hf'
    by_cases hjj : j = id
    · subst hjj
      rw [updρ_same] at hrr; cases hrr
      rw [upd_same] at hf'
      exact hin b off hf'
    · rw [updρ_other _ _ hjj] at hrr
      rw [upd_other _ _ hjj] at hf'
      by_cases hii : i = id
      · subst hii
        rw [updρ_same] at hq; cases hq
        rw [upd_same] at ho hf
        rcases hs with ⟨_, hge⟩ | ⟨h0, _⟩
        · have hb := hge b off hf
          have hnd : g j ≠ .dead := by intro h0; rw [h0] at hf'; exact hf'
          obtain ⟨q', hq', hrq⟩ := I.ok.rep j hnd
          rw [hrr] at hq'; cases hq'
          have := hrq.ltI b off hf'
          omega
        · rw [h0] at ho; cases ho
      · rw [updρ_other _ _ hii] at hq
        rw [upd_other _ _ hii] at ho hf
        exact I.ok.inn i j q r hq hrr ho b off hf hf'
  · intro i q hq ho b off hf
    by_cases hii : i = id
    · subst hii
      rw [updρ_same] at hq; cases hq
      rw [upd_same] at ho hf
      rcases hs with ⟨_, hge⟩ | ⟨h0, _⟩
      · exact .inr (Nat.le_trans I.fr.size (hge b off hf))
      · rw [h0] at ho; cases ho
    · rw [updρ_other _ _ hii] at hq
      rw [upd_other _ _ hii] at ho hf
      exact I.own i q hq ho b off hf

/-- an entry is given up -/
theorem Inv.kill {w0 : World} {M : Nat → Nat → Prop} {ρ : Env} {g : Hp} {w : World} (I : Inv w0 M ρ g w) (id : Nat) : Inv w0 M ρ (upd g id .dead) w := by
  refine ⟨⟨?_, ?_, ?_⟩, I.fr, ?_⟩
  · intro i hi
    by_cases hii : i = id
    · subst hii; rw [upd_same] at hi; exact absurd rfl hi
    · rw [upd_other _ _ hii] at hi ⊢; exact I.ok.rep i hi
  · intro i j q r hij hq hrr ho b off hf hf'
    by_cases hii : i = id
    · subst hii; rw [upd_same] at hf; exact hf
    · by_cases hjj : j = id
      · subst hjj; rw [upd_same] at hf'; exact hf'
      · rw [upd_other _ _ hii] at ho hf; rw [upd_other _ _ hjj] at hf'
        exact I.ok.sep i j q r hij hq hrr ho b off hf hf'
  · intro i j q r hq hrr ho b off hf hf'
    by_cases hii : i = id
    · subst hii; rw [upd_same] at hf; exact hf
    · by_cases hjj : j = id
      · subst hjj; rw [upd_same] at hf'; exact hf'
      · rw [upd_other _ _ hii] at ho hf; rw [upd_other _ _ hjj] at hf'
        exact I.ok.inn i j q r hq hrr ho b off hf hf'
  · intro i q hq ho b off hf
    by_cases hii : i = id
    · subst hii; rw [upd_same] at hf; exact hf.elim
    · rw [upd_other _ _ hii] at ho hf; exact I.own i q hq ho b off hf

/-- an entry is turned where it lies -/
theorem Inv.turn {w0 : World} {M : Nat → Nat → Prop} {ρ : Env} {g : Hp} {w w' : World} (I : Inv w0 M ρ g w) {id : Nat} {p : Plc} {e : Ent} (hp : ρ id = some p) (ho : (g id).own = true)
    {N : Nat → Nat → Prop} (hw : Fr N w w') (hN : ∀ b off, N b off → foot p (g id) b off) (hr : RepE ρ w' p e) (hf : ∀ b off, foot p e b off → foot p (g id) b off) (hin : ∀ b off, inn p e b off → False := by intro _ _ h; exact h) :
    Inv w0 M ρ (upd g id e) w' := by
  refine ⟨⟨?_, ?_, ?_⟩, I.fr.trans' hw ?_, ?_⟩
  · intro i hi
    by_cases hii : i = id
    · subst hii; rw [upd_same] at hi ⊢; exact ⟨p, hp, hr⟩
    · rw [upd_other _ _ hii] at hi ⊢
      obtain ⟨q, hq, hrq⟩ := I.ok.rep i hi
      exact ⟨q, hq, hrq.frame hw fun b off h1 h2 => h1.elim (fun h1 => I.ok.sep id i p q (Ne.symm hii) hp hq ho b off (hN b off h2) h1) (fun h1 => I.ok.inn id i p q hp hq ho b off (hN b off h2) h1)⟩
  · intro i j q r hij hq hrr ho' b off hf1 hf2
    by_cases hii : i = id
    · subst hii
      rw [hp] at hq; cases hq
      rw [upd_same] at hf1
      have hji : j ≠ i := Ne.symm hij
      rw [upd_other _ _ hji] at hf2
      exact I.ok.sep i j p r hij hp hrr ho b off (hf b off hf1) hf2
    · rw [upd_other _ _ hii] at ho' hf1
      by_cases hjj : j = id
      · subst hjj
        rw [hp] at hrr; cases hrr
        rw [upd_same] at hf2
        exact I.ok.sep i j q p hij hq hp ho' b off hf1 (hf b off hf2)
      · rw [upd_other _ _ hjj] at hf2
        exact I.ok.sep i j q r hij hq hrr ho' b off hf1 hf2
  · intro i j q r hq hrr ho' b off hf1 hf2
    by_cases hjj : j = id
    · subst hjj
      rw [hp] at hrr; cases hrr
      rw [upd_same] at hf2
      exact hin b off hf2
    · rw [upd_other _ _ hjj] at hf2
      by_cases hii : i = id
      · subst hii
        rw [hp] at hq; cases hq
        rw [upd_same] at hf1
        exact I.ok.inn i j p r hp hrr ho b off (hf b off hf1) hf2
      · rw [upd_other _ _ hii] at ho' hf1
        exact I.ok.inn i j q r hq hrr ho' b off hf1 hf2
  · intro b off hN'
    exact I.own id p hp ho b off (hN b off hN')
  · intro i q hq ho' b off hf1
    by_cases hii : i = id
    · subst hii
      rw [hp] at hq; cases hq
      rw [upd_same] at hf1
      exact I.own i p hp ho b off (hf b off hf1)
    · rw [upd_other _ _ hii] at ho' hf1
      exact I.own i q hq ho' b off hf1
/-- the world goes on without touching what is held -/
theorem Inv.world {w0 : World} {M : Nat → Nat → Prop} {ρ : Env} {g : Hp} {w w' : World} (I : Inv w0 M ρ g w) (hw : Fr (fun _ _ => False) w w') : Inv w0 M ρ g w' :=
  ⟨⟨fun i hi => let ⟨q, hq, hr⟩ := I.ok.rep i hi; ⟨q, hq, hr.frame hw (fun _ _ _ h => h)⟩, I.ok.sep, I.ok.inn⟩, I.fr.trans (hw.mono (fun _ _ _ h => h.elim)), I.own⟩
end Go.Ev
namespace Go.Ev
set_option linter.unusedSimpArgs false
set_option linter.unusedVariables false
open Go Go.RowKit

structure Sit (cal : Nat → List D → Option (List D)) {α : Type} (p : Prog α) (l : List Ac) (u : α) (w0 : World) (M : Nat → Nat → Prop) (ρ : Env) (g : Hp) (w : World) : Prop where
  run : Run cal p l u
  cons : Cons l g
  fresh : ∀ id ∈ news l, ρ id = none
  nodup : (news l).Nodup
  inv : Inv w0 M ρ g w
def Fin (w0 : World) (M : Nat → Nat → Prop) (l : List Ac) (g : Hp) (ρ : Env) (w' : World) (X : Env → Prop) : Prop :=
  ∃ ρ', Inv w0 M ρ' (appl l g) w' ∧ Sub ρ ρ' ∧ (∀ id, id ∉ news l → ρ' id = ρ id) ∧ X ρ'

section
variable {cal : Nat → List D → Option (List D)} {α : Type} {l : List Ac} {u : α} {w0 : World} {M : Nat → Nat → Prop} {ρ : Env} {g : Hp} {w w' : World} {X : Env → Prop}
theorem Fin.here (I : Inv w0 M ρ g w) (h : X ρ) : Fin w0 M [] g ρ w X := ⟨ρ, I, Sub.refl ρ, fun _ _ => rfl, h⟩
theorem Fin.rd {id : Nat} {e : Ent} (F : Fin w0 M l g ρ w' X) : Fin w0 M (.rd id e :: l) g ρ w' X := F
theorem Fin.call {f : Nat} {ds rs : List D} (F : Fin w0 M l g ρ w' X) : Fin w0 M (.call f ds rs :: l) g ρ w' X := F
theorem Fin.wr {id : Nat} {e : Ent} (F : Fin w0 M l (upd g id e) ρ w' X) : Fin w0 M (.wr id e :: l) g ρ w' X := F
theorem Fin.new {id : Nat} {e : Ent} {p : Plc} (hn : ρ id = none) (F : Fin w0 M l (upd g id e) (updρ ρ id p) w' X) : Fin w0 M (.new id e :: l) g ρ w' X := by
  obtain ⟨ρ', h1, h2, h3, h4⟩ := F
  refine ⟨ρ', h1, (sub_updρ hn).trans h2, fun i hi => ?_, h4⟩
  simp only [news, List.mem_cons, not_or] at hi
  rw [h3 i hi.2, updρ_other _ _ hi.1]
theorem Sit.ret {a : α} (S : Sit cal (.ret a) l u w0 M ρ g w) : l = [] ∧ u = a := by cases S.run; exact ⟨rfl, rfl⟩
theorem Sit.fail {p : Prop} (S : Sit cal (.fail : Prog α) l u w0 M ρ g w) : p := by cases S.run
theorem Sit.rd {id : Nat} {k : Ent → Prog α} (S : Sit cal (.rd id k) l u w0 M ρ g w) : ∃ l', l = .rd id (g id) :: l' ∧ Sit cal (k (g id)) l' u w0 M ρ g w := by
  obtain ⟨h1, h2, h3, h4, h5⟩ := S
  cases h1 with
  | @rd _ e _ l' _ h1 =>
    obtain ⟨rfl, h2⟩ := h2
    exact ⟨l', rfl, h1, h2, h3, h4, h5⟩
theorem Sit.chk {c : Bool} {k : Prog α} (S : Sit cal (.chk c k) l u w0 M ρ g w) : c = true ∧ Sit cal k l u w0 M ρ g w := by
  obtain ⟨h1, h2, h3, h4, h5⟩ := S
  cases h1 with
  | chk hc h1 => exact ⟨hc, h1, h2, h3, h4, h5⟩
theorem Sit.br {c : Bool} {k₁ k₂ : Prog α} (S : Sit cal (.br c k₁ k₂) l u w0 M ρ g w) : (c = true ∧ Sit cal k₁ l u w0 M ρ g w) ∨ (c = false ∧ Sit cal k₂ l u w0 M ρ g w) := by
  obtain ⟨h1, h2, h3, h4, h5⟩ := S
  cases h1 with
  | brT hc h1 => exact .inl ⟨hc, h1, h2, h3, h4, h5⟩
  | brF hc h1 => exact .inr ⟨hc, h1, h2, h3, h4, h5⟩
theorem Sit.new {e : Ent} {k : Nat → Prog α} (S : Sit cal (.new e k) l u w0 M ρ g w) : ∃ id l', l = .new id e :: l' ∧ ρ id = none ∧ g id = .dead ∧
    (∀ p w', Inv w0 M (updρ ρ id p) (upd g id e) w' → Sit cal (k id) l' u w0 M (updρ ρ id p) (upd g id e) w') := by
  obtain ⟨h1, h2, h3, h4, h5⟩ := S
  cases h1 with
  | @new id _ _ l' _ h1 =>
    simp only [news, List.nodup_cons] at h4
    obtain ⟨hd, h2⟩ := h2
    refine ⟨id, l', rfl, h3 id (by simp [news]), hd, fun p w' I => ⟨h1, h2, fun i hi => ?_, h4.2, I⟩⟩
    have : i ≠ id := by rintro rfl; exact h4.1 hi
    rw [updρ_other _ _ this]
    exact h3 i (by simp [news, hi])
theorem Sit.wr {id : Nat} {e : Ent} {k : Prog α} (S : Sit cal (.wr id e k) l u w0 M ρ g w) : ∃ l', l = .wr id e :: l' ∧ g id ≠ .dead ∧
    (∀ w', Inv w0 M ρ (upd g id e) w' → Sit cal k l' u w0 M ρ (upd g id e) w') := by
  obtain ⟨h1, h2, h3, h4, h5⟩ := S
  cases h1 with
  | @wr _ _ _ l' _ h1 =>
    obtain ⟨hd, h2⟩ := h2
    exact ⟨l', rfl, hd, fun w' I => ⟨h1, h2, h3, h4, I⟩⟩
theorem Sit.call {f : Nat} {ds : List D} {k : List D → Prog α} (S : Sit cal (.call f ds k) l u w0 M ρ g w) : ∃ rs l', l = .call f ds rs :: l' ∧ cal f ds = some rs ∧ Sit cal (k rs) l' u w0 M ρ g w := by
  obtain ⟨h1, h2, h3, h4, h5⟩ := S
  cases h1 with
  | @call _ _ rs _ l' _ hc h1 => exact ⟨rs, l', rfl, hc, h1, h2, h3, h4, h5⟩

/-- the operation's own words, run to their end -/
def SemOk (P : Program) (s : Sem Value) (l : List Ac) (v : AV) (w0 : World) (M : Nat → Nat → Prop) (ρ : Env) (g : Hp) (w : World) : Prop :=
  ∃ vv w', s.run P w = .ok vv w' ∧ Fin w0 M l g ρ w' (fun ρ' => RepV ρ' v vv)

theorem under_some {P : Program} {t : TypeId} {d : TypeDesc} (h : under P t = d) (hd : d ≠ .invalid) : P.underlying t = some d := by
  unfold under at h
  cases hu : P.underlying t with
  | none => rw [hu] at h; simp at h; exact absurd h.symm hd
  | some d' => rw [hu] at h; simp at h; rw [h]
theorem known_some {P : Program} {t : TypeId} (h : known P t = true) : ∃ d, P.underlying t = some d ∧ under P t = d := by
  unfold known at h
  cases hu : P.underlying t with
  | none => simp [under, hu] at h
  | some d => exact ⟨d, rfl, by simp [under, hu]⟩
theorem info_of_underlying {P : Program} {t : TypeId} {d : TypeDesc} (h : P.underlying t = some d) : ∃ i, P.info? t = some i ∧ P.cellsOf t = i.size := by
  unfold Program.underlying at h
  cases hi : P.info? t with
  | none => rw [hi] at h; cases h
  | some i => exact ⟨i, rfl, by simp [Program.cellsOf, hi]⟩
theorem run_isAgg {P : Program} {t : TypeId} {d : TypeDesc} (h : P.underlying t = some d) (w : World) : (isAgg t).run P w = .ok (isAggD d) w := by
  unfold isAgg
  simp only [Sem.run_bind, run_underlying h, Result.andThen_ok]
  cases d <;> simp [isAggD]
theorem run_sizeOf {P : Program} {t : TypeId} {d : TypeDesc} (h : P.underlying t = some d) (w : World) : (sizeOf t).run P w = .ok (P.cellsOf t) w := by
  obtain ⟨i, hi, hc⟩ := info_of_underlying h
  simp [sizeOf, typeInfo, hi, hc]
theorem run_sizeOf' {P : Program} {t : TypeId} (h : P.cellsOf t ≠ 0) (w : World) : (sizeOf t).run P w = .ok (P.cellsOf t) w := by
  cases hi : P.info? t with
  | none => simp [Program.cellsOf, hi] at h
  | some i => simp [sizeOf, typeInfo, hi, Program.cellsOf]

/-! operands -/
theorem constAV_rep (ρ : Env) (v : Value) : RepV ρ (constAV v) v := by
  unfold constAV
  split <;> simp [RepV]
theorem opd_rep {fr : List AV} {a : Act} (h : RepVs ρ fr a.tmps.toList) (x : Operand) : RepV ρ (opd fr x) (a.eval x) := by
  cases x with
  | tmp t => simpa [opd, Act.eval, Array.getD_eq_getD_getElem?] using h.get t
  | const v => exact constAV_rep ρ v
  | global g => simp [opd, RepV]
  | func f => simp [opd, RepV, Act.eval, RepVs]
theorem operands_rep {fr : List AV} {a : Act} (h : RepVs ρ fr a.tmps.toList) (xs : Array Operand) : RepVs ρ (operands fr xs) (xs.map a.eval).toList := by
  obtain ⟨xs⟩ := xs
  simp only [operands, List.map_toArray]
  induction xs with
  | nil => simp [RepVs]
  | cons x xs ih => simpa using RepVs.cons (opd_rep h x) ih

/-! nil -/
theorem arr_of_nil {e : ETy} {a : Arr} (h : e.arr = some a) : a.len = 0 ∧ a.cells = [] := by
  cases e <;> simp [ETy.arr] at h <;> subst h <;> simp [Arr.len, Arr.cells]
theorem rep_nil (ρ : Env) (w : World) (a : Arr) (h0 : a.len = 0) (hc : a.cells = []) : RepE ρ w ⟨none, 0, 0, a.size, []⟩ (.arr true true a) := by
  refine ⟨h0, rfl, by simp, fun _ => ⟨rfl, rfl⟩, fun x hx => by simp at hx, fun _ => ⟨0, ?_⟩⟩
  rw [hc]; exact World.ownsRow_nil w 0 0 a.size
theorem rep_nilR (ρ : Env) (w : World) (z : List RK) : RepE ρ w ⟨none, 0, 0, z.length, []⟩ (.rows true true z []) :=
  ⟨rfl, rfl, by simp, fun _ => ⟨rfl, rfl⟩, fun x hx => by simp at hx, fun _ => ⟨0, World.ownsRow_nil w 0 0 z.length⟩, rfl⟩
/-- what a step ahead of the rest leaves: a situation further on, from which all comes back -/
def Ahead (cal : Nat → List D → Option (List D)) {α β : Type} (K : β → Prog α) (Y : Env → β → Prop) (l : List Ac) (u : α) (w0 : World) (M : Nat → Nat → Prop) (ρ : Env) (g : Hp) (w : World) : Prop :=
  ∃ b l' g' ρ', Sit cal (K b) l' u w0 M ρ' g' w ∧ Y ρ' b ∧ Sub ρ ρ' ∧ ∀ X w', Fin w0 M l' g' ρ' w' X → Fin w0 M l g ρ w' X
theorem Ahead.here {β : Type} {K : β → Prog α} {Y : Env → β → Prop} {b : β} (S : Sit cal (K b) l u w0 M ρ g w) (hy : Y ρ b) : Ahead cal K Y l u w0 M ρ g w :=
  ⟨b, l, g, ρ, S, hy, Sub.refl ρ, fun _ _ F => F⟩
theorem fixNil_ok {c : CTy} {v : AV} {vv : Value} {K : AV → Prog α} (S : Sit cal (fixNil c v K) l u w0 M ρ g w) (hv : RepV ρ v vv) :
    Ahead cal K (fun ρ' v' => RepV ρ' v' vv) l u w0 M ρ g w := by
  unfold fixNil at S
  split at S
  · split at S
    · rename_i z
      obtain ⟨id, l', rfl, hn, hd, hS⟩ := S.new
      have I := S.inv.new (id := id) (p := ⟨none, 0, 0, z.length, []⟩) (e := .rows true true z []) hn (Fr.refl _ w) (rep_nilR _ w z) (.inl ⟨rfl, fun b off hf => by obtain ⟨x, hx, _⟩ := hf; simp at hx⟩)
        (by rintro b off ⟨us, hu, _⟩; simp at hu)
      refine ⟨_, l', _, _, hS _ w I, ?_, sub_updρ hn, fun X w' F => F.new hn⟩
      simp only [RepV] at hv ⊢
      exact ⟨_, updρ_same _ _ _, by simp [RepSl, hv]⟩
    · split at S
      · rename_i a ha
        obtain ⟨h0, hc⟩ := arr_of_nil ha
        obtain ⟨id, l', rfl, hn, hd, hS⟩ := S.new
        have I := S.inv.new (id := id) (p := ⟨none, 0, 0, a.size, []⟩) (e := .arr true true a) hn (Fr.refl _ w) (rep_nil _ w a h0 hc) (.inl ⟨rfl, fun b off hf => by obtain ⟨x, hx, _⟩ := hf; simp at hx⟩)
        refine ⟨_, l', _, _, hS _ w I, ?_, sub_updρ hn, fun X w' F => F.new hn⟩
        simp only [RepV] at hv ⊢
        exact ⟨_, updρ_same _ _ _, by simp [RepSl, hv]⟩
      · exact S.fail
    · exact S.fail
  · exact Ahead.here S hv
theorem fixT_ok {P : Program} {t : TypeId} {v : AV} {vv : Value} {K : AV → Prog α} (S : Sit cal (fixT P t v K) l u w0 M ρ g w) (hv : RepV ρ v vv) :
    Ahead cal K (fun ρ' v' => RepV ρ' v' vv) l u w0 M ρ g w := by
  unfold fixT at S
  split at S
  · split at S
    · exact fixNil_ok S hv
    · exact S.fail
  · exact Ahead.here S hv
theorem fixs_ok : ∀ (ts : List CTy) (vs : List AV) {us : List Value} {K : List AV → Prog α} {l : List Ac} {ρ : Env} {g : Hp}, Sit cal (fixs ts vs K) l u w0 M ρ g w → RepVs ρ vs us →
    Ahead cal K (fun ρ' v' => RepVs ρ' v' us ∧ v'.length = vs.length) l u w0 M ρ g w
  | _, [], us, K, l, ρ, g, S, h => by
    unfold fixs at S
    exact Ahead.here (b := []) (by cases ‹List CTy› <;> exact S) ⟨h, rfl⟩
  | [], v :: vs, us, K, l, ρ, g, S, h => by unfold fixs at S; exact S.fail
  | c :: cs, v :: vs, us, K, l, ρ, g, S, h => by
    simp only [RepVs] at h
    obtain ⟨uu, us, rfl, h1, h2⟩ := h
    unfold fixs at S
    obtain ⟨v', l1, g1, ρ1, S1, hv, hs, hF⟩ := fixNil_ok S h1
    obtain ⟨vs', l2, g2, ρ2, S2, ⟨hvs, hl⟩, hs2, hF2⟩ := fixs_ok cs vs S1 (h2.mono hs _ _)
    exact ⟨v' :: vs', l2, g2, ρ2, S2, ⟨RepVs.cons (hv.mono hs2 _ _) hvs, by simp [hl]⟩, hs.trans hs2, fun X w' F => hF X w' (hF2 X w' F)⟩

/-! numbers -/
theorem intOp_ok {P : Program} {op : BinOp} {k k' : IntKind} {x y : Int} {t : TypeId} {ox oy : Operand} {v : AV} (hk : op = .shl ∨ op = .shr ∨ k = k') (S : Sit cal (intOp op k x y .ret) l v w0 M ρ g w) :
    SemOk P (do eqGuard op t ox oy (.int k x) (.int k' y); binOp op t (.int k x) (.int k' y)) l v w0 M ρ g w := by
  have fin : ∀ {c : AV} {l : List Ac}, Sit cal (.ret c) l v w0 M ρ g w → ∀ vv, RepV ρ c vv → Fin w0 M l g ρ w (fun ρ' => RepV ρ' v vv) := by
    intro c l S vv h
    obtain ⟨rfl, rfl⟩ := S.ret
    exact Fin.here S.inv h
  cases op <;> simp only [intOp] at S
  case shl =>
    obtain ⟨hc, S⟩ := S.chk
    have hy : ¬ y < 0 := by simpa using hc
    exact ⟨_, w, by simp [eqGuard, binOp, Op.shift, hy]; rfl, fin S _ (by simp [RepV, shiftN])⟩
  case shr =>
    obtain ⟨hc, S⟩ := S.chk
    have hy : ¬ y < 0 := by simpa using hc
    exact ⟨_, w, by simp [eqGuard, binOp, Op.shift, hy]; rfl, fin S _ (by simp [RepV, shiftN])⟩
  all_goals (simp only [reduceCtorEq, false_or] at hk; subst hk)
  case quo =>
    obtain ⟨hc, S⟩ := S.chk
    have hy : ¬ y = 0 := by simpa using hc
    exact ⟨_, w, by simp [eqGuard, binOp, Op.intDiv, hy]; rfl, fin S _ (by simp [RepV])⟩
  case rem =>
    obtain ⟨hc, S⟩ := S.chk
    have hy : ¬ y = 0 := by simpa using hc
    exact ⟨_, w, by simp [eqGuard, binOp, Op.intDiv, hy]; rfl, fin S _ (by simp [RepV])⟩
  case eql => exact ⟨_, w, by simp [eqGuard, binOp, Op.intCmp]; rfl, fin S _ (by simp only [RepV]; congr 1)⟩
  case neq => exact ⟨_, w, by simp [eqGuard, binOp, Op.intCmp]; rfl, fin S _ (by simp only [RepV]; congr 1)⟩
  case and => exact ⟨_, w, by simp [eqGuard, binOp, Op.intBits]; rfl, fin S _ (by simp [RepV, bitN])⟩
  case or => exact ⟨_, w, by simp [eqGuard, binOp, Op.intBits]; rfl, fin S _ (by simp [RepV, bitN])⟩
  case xor => exact ⟨_, w, by simp [eqGuard, binOp, Op.intBits]; rfl, fin S _ (by simp [RepV, bitN])⟩
  case andNot => exact ⟨_, w, by simp [eqGuard, binOp, Op.intBits]; rfl, fin S _ (by simp [RepV, bitN])⟩
  all_goals (exact ⟨_, w, by simp [eqGuard, binOp, Op.intCmp, Op.intArith]; rfl, fin S _ (by simp [RepV])⟩)
end
end Go.Ev
