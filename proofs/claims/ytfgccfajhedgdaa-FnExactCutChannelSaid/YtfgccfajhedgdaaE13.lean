/- The evaluator: reading data off the entries. -/
import Derived.Test.YtfgccfajhedgdaaE12
namespace Go.Ev
set_option linter.unusedSimpArgs false
set_option linter.unusedVariables false
open Go Go.RowKit
mutual
def Gat0 (g : Hp) (m : Bool) : AV → D → Met → Prop
  | .int k n, d, q => d = .int k n ∧ q = []
  | .bool b, d, q => d = .bool b ∧ q = []
  | .str s, d, q => d = .str s ∧ q = []
  | .sl id none, d, q => ∃ own nil a, g id = .arr own nil a ∧ d = .arr (m && own) nil a ∧ q = [(id, m && own)]
  | .sl id (some (o, n)), d, q => ∃ own nil a, g id = .arr own nil a ∧ m = false ∧ d = .arr false nil (a.sub o n) ∧ q = [(id, false)]
  | .agg cs, d, q => ∃ l, d = .agg l ∧ Gats0 g m cs l q
  | .fn f cs, d, q => ∃ l, d = .fn f l ∧ Gats0 g m cs l q
  | _, _, _ => False
def Gats0 (g : Hp) (m : Bool) : List AV → List D → Met → Prop
  | [], ds, q => ds = [] ∧ q = []
  | c :: cs, ds, q => ∃ d l q1 q2, ds = d :: l ∧ q = q1 ++ q2 ∧ Gat0 g m c d q1 ∧ Gats0 g m cs l q2
end
mutual
def Gat (g : Hp) (m : Bool) (n : Option Nat) : AV → D → Met → Prop
  | .ptr id i o, d, q => ∃ own cs l q1, i = 0 ∧ g id = .box own cs ∧ (m = true → o = 0 ∧ cs.length ≤ n.getD cs.length) ∧ Gats0 g m ((cs.drop o).take (n.getD cs.length)) l q1 ∧ d = .ptr (m && own) l ∧ q = q1 ++ [(id, m && own)]
  | .agg cs, d, q => ∃ l, d = .agg l ∧ Gats g m cs l q
  | .fn f cs, d, q => ∃ l, d = .fn f l ∧ Gats g m cs l q
  | v, d, q => Gat0 g m v d q
def Gats (g : Hp) (m : Bool) : List AV → List D → Met → Prop
  | [], ds, q => ds = [] ∧ q = []
  | c :: cs, ds, q => ∃ d l q1 q2, ds = d :: l ∧ q = q1 ++ q2 ∧ Gat g m none c d q1 ∧ Gats g m cs l q2
end
def GatA (g : Hp) : List Bool → List (Option Nat) → List AV → List D → Met → Prop
  | _, _, [], ds, q => ds = [] ∧ q = []
  | ms, ns, c :: cs, ds, q => ∃ d l q1 q2, ds = d :: l ∧ q = q1 ++ q2 ∧ Gat g (ms.headD false) (ns.headD none) c d q1 ∧ GatA g ms.tail ns.tail cs l q2

structure Sit0 (cal : Nat → List D → Option (List D)) {α : Type} (p : Prog α) (l : List Ac) (u : α) (ρ : Env) (g : Hp) : Prop where
  run : Run cal p l u
  cons : Cons l g
  fresh : ∀ id ∈ news l, ρ id = none
  nodup : (news l).Nodup
section
variable {cal : Nat → List D → Option (List D)} {α : Type} {l : List Ac} {u : α} {w0 : World} {M : Nat → Nat → Prop} {ρ : Env} {g : Hp} {w w' : World} {X : Env → Prop}
theorem Sit.to {p : Prog α} (S : Sit cal p l u w0 M ρ g w) : Sit0 cal p l u ρ g := ⟨S.run, S.cons, S.fresh, S.nodup⟩
theorem Sit0.sit {p : Prog α} (S : Sit0 cal p l u ρ g) (I : Inv w0 M ρ g w) : Sit cal p l u w0 M ρ g w := ⟨S.run, S.cons, S.fresh, S.nodup, I⟩
theorem Sit0.ret {a : α} (S : Sit0 cal (.ret a) l u ρ g) : l = [] ∧ u = a := by cases S.run; exact ⟨rfl, rfl⟩
theorem Sit0.fail {p : Prop} (S : Sit0 cal (.fail : Prog α) l u ρ g) : p := by cases S.run
theorem Sit0.rd {id : Nat} {k : Ent → Prog α} (S : Sit0 cal (.rd id k) l u ρ g) : ∃ l', l = .rd id (g id) :: l' ∧ Sit0 cal (k (g id)) l' u ρ g := by
  obtain ⟨h1, h2, h3, h4⟩ := S
  cases h1 with
  | @rd _ e _ l' _ h1 =>
    obtain ⟨rfl, h2⟩ := h2
    exact ⟨l', rfl, h1, h2, h3, h4⟩
theorem Sit0.chk {c : Bool} {k : Prog α} (S : Sit0 cal (.chk c k) l u ρ g) : c = true ∧ Sit0 cal k l u ρ g := by
  obtain ⟨h1, h2, h3, h4⟩ := S
  cases h1 with
  | chk hc h1 => exact ⟨hc, h1, h2, h3, h4⟩
theorem Sit0.new {e : Ent} {k : Nat → Prog α} (S : Sit0 cal (.new e k) l u ρ g) : ∃ id l', l = .new id e :: l' ∧ ρ id = none ∧ g id = .dead ∧
    ∀ p, Sit0 cal (k id) l' u (updρ ρ id p) (upd g id e) := by
  obtain ⟨h1, h2, h3, h4⟩ := S
  cases h1 with
  | @new id _ _ l' _ h1 =>
    simp only [news, List.nodup_cons] at h4
    obtain ⟨hd, h2⟩ := h2
    refine ⟨id, l', rfl, h3 id (by simp [news]), hd, fun p => ⟨h1, h2, fun i hi => ?_, h4.2⟩⟩
    have : i ≠ id := by rintro rfl; exact h4.1 hi
    rw [updρ_other _ _ this]
    exact h3 i (by simp [news, hi])
theorem Sit0.wr {id : Nat} {e : Ent} {k : Prog α} (S : Sit0 cal (.wr id e k) l u ρ g) : ∃ l', l = .wr id e :: l' ∧ g id ≠ .dead ∧ Sit0 cal k l' u ρ (upd g id e) := by
  obtain ⟨h1, h2, h3, h4⟩ := S
  cases h1 with
  | @wr _ _ _ l' _ h1 =>
    obtain ⟨hd, h2⟩ := h2
    exact ⟨l', rfl, hd, h1, h2, h3, h4⟩
theorem Sit0.call {f : Nat} {ds : List D} {k : List D → Prog α} (S : Sit0 cal (.call f ds k) l u ρ g) : ∃ rs l', l = .call f ds rs :: l' ∧ cal f ds = some rs ∧ Sit0 cal (k rs) l' u ρ g := by
  obtain ⟨h1, h2, h3, h4⟩ := S
  cases h1 with
  | @call _ _ rs _ l' _ hc h1 => exact ⟨rs, l', rfl, hc, h1, h2, h3, h4⟩

/-- only reads stand between -/
def Reads (l l' : List Ac) : Prop := ∃ rs : List (Nat × Ent), l = rs.map (fun x => Ac.rd x.1 x.2) ++ l'
theorem Reads.refl (l : List Ac) : Reads l l := ⟨[], rfl⟩
theorem Reads.trans {a b c : List Ac} (h : Reads a b) (k : Reads b c) : Reads a c := by
  obtain ⟨r, rfl⟩ := h
  obtain ⟨s, rfl⟩ := k
  exact ⟨r ++ s, by simp⟩
theorem Reads.cons {id : Nat} {e : Ent} {a b : List Ac} (h : Reads a b) : Reads (.rd id e :: a) b := by
  obtain ⟨r, rfl⟩ := h
  exact ⟨(id, e) :: r, rfl⟩
theorem Reads.fin {a b : List Ac} (h : Reads a b) (F : Fin w0 M b g ρ w' X) : Fin w0 M a g ρ w' X := by
  obtain ⟨r, rfl⟩ := h
  induction r with
  | nil => exact F
  | cons x r ih => exact (ih).rd
mutual
theorem gcell0_ok {m : Bool} : ∀ (c : AV) {q : Met} {K : D → Met → Prog α} {l : List Ac}, Sit0 cal (gcell0 m c q K) l u ρ g → ∃ d q' l', Sit0 cal (K d (q ++ q')) l' u ρ g ∧ Gat0 g m c d q' ∧ Reads l l'
  | .int k n, q, K, l, S => ⟨_, [], l, by simpa [gcell0] using S, by simp [Gat0], .refl l⟩
  | .bool b, q, K, l, S => ⟨_, [], l, by simpa [gcell0] using S, by simp [Gat0], .refl l⟩
  | .str s, q, K, l, S => ⟨_, [], l, by simpa [gcell0] using S, by simp [Gat0], .refl l⟩
  | .un, q, K, l, S => by simp only [gcell0] at S; exact S.fail
  | .nils, q, K, l, S => by simp only [gcell0] at S; exact S.fail
  | .ptr _ _ _, q, K, l, S => by simp only [gcell0] at S; exact S.fail
  | .tup _, q, K, l, S => by simp only [gcell0] at S; exact S.fail
  | .sl id wn, q, K, l, S => by
    simp only [gcell0] at S
    have S0 := S.rd; clear S; obtain ⟨l', rfl, S⟩ := S0
    split at S
    · rename_i own nil a hg
      cases wn with
      | none => exact ⟨_, _, l', S, ⟨own, nil, a, hg, rfl, rfl⟩, (Reads.refl _).cons⟩
      | some on =>
        obtain ⟨o, n⟩ := on
        simp only at S
        split at S
        · exact S.fail
        · rename_i hm
          exact ⟨_, _, l', S, ⟨own, nil, a, hg, by simpa using hm, rfl, rfl⟩, (Reads.refl _).cons⟩
    · exact S.fail
  | .agg cs, q, K, l, S => by
    simp only [gcell0] at S
    obtain ⟨ds, q', l', S1, h, hr⟩ := gcells0_ok cs S
    exact ⟨_, q', l', S1, by simp only [Gat0]; exact ⟨_, rfl, h⟩, hr⟩
  | .fn f cs, q, K, l, S => by
    simp only [gcell0] at S
    obtain ⟨ds, q', l', S1, h, hr⟩ := gcells0_ok cs S
    exact ⟨_, q', l', S1, by simp only [Gat0]; exact ⟨_, rfl, h⟩, hr⟩
theorem gcells0_ok {m : Bool} : ∀ (cs : List AV) {q : Met} {K : List D → Met → Prog α} {l : List Ac}, Sit0 cal (gcells0 m cs q K) l u ρ g → ∃ ds q' l', Sit0 cal (K ds (q ++ q')) l' u ρ g ∧ Gats0 g m cs ds q' ∧ Reads l l'
  | [], q, K, l, S => ⟨[], [], l, by simpa [gcells0] using S, by simp [Gats0], .refl l⟩
  | c :: cs, q, K, l, S => by
    simp only [gcells0] at S
    obtain ⟨d, q1, l1, S1, h1, r1⟩ := gcell0_ok c S
    obtain ⟨ds, q2, l2, S2, h2, r2⟩ := gcells0_ok cs S1
    exact ⟨d :: ds, q1 ++ q2, l2, by rw [← List.append_assoc]; exact S2, by simp only [Gats0]; exact ⟨_, _, _, _, rfl, rfl, h1, h2⟩, r1.trans r2⟩
end
mutual
theorem gcell_ok {m : Bool} : ∀ (n : Option Nat) (c : AV) {q : Met} {K : D → Met → Prog α} {l : List Ac}, Sit0 cal (gcell m n c q K) l u ρ g → ∃ d q' l', Sit0 cal (K d (q ++ q')) l' u ρ g ∧ Gat g m n c d q' ∧ Reads l l'
  | n, .int k x, q, K, l, S => by simpa only [Gat] using gcell0_ok _ (by simpa only [gcell] using S)
  | n, .bool k, q, K, l, S => by simpa only [Gat] using gcell0_ok _ (by simpa only [gcell] using S)
  | n, .str k, q, K, l, S => by simpa only [Gat] using gcell0_ok _ (by simpa only [gcell] using S)
  | n, .un, q, K, l, S => by simpa only [Gat] using gcell0_ok _ (by simpa only [gcell] using S)
  | n, .nils, q, K, l, S => by simpa only [Gat] using gcell0_ok _ (by simpa only [gcell] using S)
  | n, .tup k, q, K, l, S => by simpa only [Gat] using gcell0_ok _ (by simpa only [gcell] using S)
  | n, .sl k x, q, K, l, S => by simpa only [Gat] using gcell0_ok _ (by simpa only [gcell] using S)
  | n, .ptr id i o, q, K, l, S => by
    simp only [gcell] at S
    have S0 := S.rd; clear S; obtain ⟨l', rfl, S⟩ := S0
    split at S
    · rename_i own cs hg
      have S0 := S.chk; clear S; obtain ⟨hc, S⟩ := S0
      obtain ⟨ds, q', l2, S1, h, hr⟩ := gcells0_ok _ S
      refine ⟨_, q' ++ [(id, m && own)], l2, by rw [← List.append_assoc]; exact S1, ?_, hr.cons⟩
      simp only [Gat]
      refine ⟨own, cs, ds, q', trivial, hg, fun hm => ?_, h, rfl, rfl⟩
      subst hm
      simp only [Bool.not_true, Bool.false_or, Bool.and_eq_true] at hc
      exact ⟨Nat.eq_of_beq_eq_true hc.1, Nat.le_of_ble_eq_true hc.2⟩
    · exact S.fail
  | n, .agg cs, q, K, l, S => by
    simp only [gcell] at S
    obtain ⟨ds, q', l', S1, h, hr⟩ := gcells_ok cs S
    exact ⟨_, q', l', S1, by simp only [Gat]; exact ⟨_, rfl, h⟩, hr⟩
  | n, .fn f cs, q, K, l, S => by
    simp only [gcell] at S
    obtain ⟨ds, q', l', S1, h, hr⟩ := gcells_ok cs S
    exact ⟨_, q', l', S1, by simp only [Gat]; exact ⟨_, rfl, h⟩, hr⟩
theorem gcells_ok {m : Bool} : ∀ (cs : List AV) {q : Met} {K : List D → Met → Prog α} {l : List Ac}, Sit0 cal (gcells m cs q K) l u ρ g → ∃ ds q' l', Sit0 cal (K ds (q ++ q')) l' u ρ g ∧ Gats g m cs ds q' ∧ Reads l l'
  | [], q, K, l, S => ⟨[], [], l, by simpa [gcells] using S, by simp [Gats], .refl l⟩
  | c :: cs, q, K, l, S => by
    simp only [gcells] at S
    obtain ⟨d, q1, l1, S1, h1, r1⟩ := gcell_ok none c S
    obtain ⟨ds, q2, l2, S2, h2, r2⟩ := gcells_ok cs S1
    exact ⟨d :: ds, q1 ++ q2, l2, by rw [← List.append_assoc]; exact S2, by simp only [Gats]; exact ⟨_, _, _, _, rfl, rfl, h1, h2⟩, r1.trans r2⟩
end
theorem gargs_ok : ∀ (ms : List Bool) (ns : List (Option Nat)) (cs : List AV) {q : Met} {K : List D → Met → Prog α} {l : List Ac}, Sit0 cal (gargs ms ns cs q K) l u ρ g → ∃ ds q' l', Sit0 cal (K ds (q ++ q')) l' u ρ g ∧ GatA g ms ns cs ds q' ∧ Reads l l'
  | ms, ns, [], q, K, l, S => ⟨[], [], l, by simpa [gargs] using S, by simp [GatA], .refl l⟩
  | ms, ns, c :: cs, q, K, l, S => by
    simp only [gargs] at S
    obtain ⟨d, q1, l1, S1, h1, r1⟩ := gcell_ok _ c S
    obtain ⟨ds, q2, l2, S2, h2, r2⟩ := gargs_ok ms.tail ns.tail cs S1
    exact ⟨d :: ds, q1 ++ q2, l2, by rw [← List.append_assoc]; exact S2, by simp only [GatA]; exact ⟨_, _, _, _, rfl, rfl, h1, h2⟩, r1.trans r2⟩
theorem gmut_ok : ∀ (cs : List AV) {q : Met} {K : List D → Met → Prog α} {l : List Ac}, Sit0 cal (gmut cs q K) l u ρ g → ∃ ds q' l', Sit0 cal (K ds (q ++ q')) l' u ρ g ∧ Gats g true cs ds q' ∧ Reads l l'
  | [], q, K, l, S => ⟨[], [], l, by simpa [gmut] using S, by simp [Gats], .refl l⟩
  | c :: cs, q, K, l, S => by
    simp only [gmut] at S
    obtain ⟨d, q1, l1, S1, h1, r1⟩ := gcell_ok none c S
    obtain ⟨ds, q2, l2, S2, h2, r2⟩ := gmut_ok cs S1
    exact ⟨d :: ds, q1 ++ q2, l2, by rw [← List.append_assoc]; exact S2, by simp only [Gats]; exact ⟨_, _, _, _, rfl, rfl, h1, h2⟩, r1.trans r2⟩
end

/-! what was read stands for what is there -/
inductive All2 {α β : Type} (R : α → β → Prop) : List α → List β → Prop
  | nil : All2 R [] []
  | cons {a : α} {b : β} {l : List α} {m : List β} : R a b → All2 R l m → All2 R (a :: l) (b :: m)
def Match (ρ : Env) (g : Hp) (q : Met) (F : Feet) : Prop :=
  All2 (fun (x : Nat × Bool) A => A.1 = x.2 ∧ (x.2 = true → (g x.1).own = true) ∧ ∃ p, ρ x.1 = some p ∧ g x.1 ≠ .dead ∧ ∀ b off, A.2 b off → foot p (g x.1) b off) q F
theorem Match.append {ρ : Env} {g : Hp} {q q' : Met} {F F' : Feet} (h : Match ρ g q F) (k : Match ρ g q' F') : Match ρ g (q ++ q') (F ++ F') := by
  unfold Match at *
  induction h with
  | nil => exact k
  | cons h _ ih => exact .cons h ih
section
variable {w0 : World} {M : Nat → Nat → Prop} {ρ : Env} {g : Hp} {w : World}
mutual
theorem Gat0.rep {m : Bool} (I : HeapOk ρ g w) : ∀ (c : AV) {d : D} {q : Met} {v : Value}, Gat0 g m c d q → RepV ρ c v → ∃ F, RepD w d v F ∧ Match ρ g q F
  | .int k n, d, q, v, h, r => by
    simp only [Gat0] at h; simp only [RepV] at r; obtain ⟨rfl, rfl⟩ := h; subst r
    exact ⟨[], by simp [RepD], .nil⟩
  | .bool b, d, q, v, h, r => by
    simp only [Gat0] at h; simp only [RepV] at r; obtain ⟨rfl, rfl⟩ := h; subst r
    exact ⟨[], by simp [RepD], .nil⟩
  | .str b, d, q, v, h, r => by
    simp only [Gat0] at h; simp only [RepV] at r; obtain ⟨rfl, rfl⟩ := h; subst r
    exact ⟨[], by simp [RepD], .nil⟩
  | .un, d, q, v, h, r => by simp only [Gat0] at h
  | .nils, d, q, v, h, r => by simp only [Gat0] at h
  | .ptr _ _ _, d, q, v, h, r => by simp only [Gat0] at h
  | .tup _, d, q, v, h, r => by simp only [Gat0] at h
  | .sl id none, d, q, v, h, r => by
    simp only [Gat0] at h
    obtain ⟨own, nil, a, hg, rfl, rfl⟩ := h
    simp only [RepV, RepSl] at r
    obtain ⟨p, hp, rfl⟩ := r
    obtain ⟨p', hp', hr⟩ := I.rep id (by rw [hg]; simp)
    rw [hp] at hp'; cases hp'
    rw [hg] at hr
    refine ⟨[(m && own, foot p (.arr (m && own) nil a))], ?_, .cons ⟨rfl, fun h => ?_, p, hp, by rw [hg]; simp, fun b off hf => ?_⟩ .nil⟩
    · simp only [RepD]
      obtain ⟨h1, h2, h3, h4, h5, h6⟩ := hr
      exact ⟨p, rfl, ⟨h1, h2, h3, h4, h5, fun h => h6 (by simp at h; exact h.2)⟩, rfl⟩
    · rw [hg]; simp at h; exact h.2
    · rw [hg]
      obtain ⟨x, hx, hb, ho⟩ := hf
      exact ⟨x, hx, hb, ho.imp (fun h => by simp at h; exact h.2) (fun h => h)⟩
  | .sl id (some (o, n)), d, q, v, h, r => by
    simp only [Gat0] at h
    obtain ⟨own, nil, a, hg, rfl, rfl, rfl⟩ := h
    simp only [RepV] at r
    obtain ⟨p, hp, hs⟩ := r
    obtain ⟨p', hp', hr⟩ := I.rep id (by rw [hg]; simp)
    rw [hp] at hp'; cases hp'
    rw [hg] at hr
    obtain ⟨x, c, rfl, hlc, hoff, hbase⟩ := lenW_ok hr hs
    obtain ⟨hn1, hn2⟩ := nilW_ok hr hs
    obtain ⟨h1, h2, h3, h4, h5, h6⟩ := hr
    simp only [lenW, offW] at hlc hoff hbase ⊢
    have hsl : (a.sub o n).len = n := a.sub_len o n (by omega)
    refine ⟨[(false, foot ⟨x, n, c, p.size⟩ (.arr false nil (a.sub o n)))], ?_, .cons ⟨rfl, fun h => by simp at h, p, hp, by rw [hg]; simp, fun b off hf => ?_⟩ .nil⟩
    · simp only [RepD]
      refine ⟨⟨x, n, c, p.size⟩, rfl, ⟨hsl, by rw [a.sub_size]; exact h2, by simp only [h3, hn1], fun hx => ?_, fun y hy => ⟨hlc, ?_⟩, fun h => by simp at h⟩, rfl⟩
      · have hb := hn1.1 hx
        exact ⟨hn2 hb, by have := (h4 hb).2; simp only; omega⟩
      · intro j u hj
        have hj' : j < n * a.size := by
          have := (List.getElem?_eq_some_iff.1 hj).1
          rw [(a.sub o n).cells_length, hsl, a.sub_size] at this; exact this
        obtain ⟨bb, hbb, hx⟩ := hbase (by rintro rfl; omega)
        simp only at hy
        rw [hx] at hy
        cases hy
        rw [addr_add_add]
        refine (h5 bb hbb).2 _ u ?_
        rw [a.sub_cells, List.getElem?_take, if_pos hj', List.getElem?_drop, h2] at hj
        exact hj
    · rw [hg]
      obtain ⟨y, hy, hb, ho⟩ := hf
      rcases ho with ho | ⟨hlo, hhi⟩
      · cases ho
      rw [hsl, a.sub_size] at hhi
      obtain ⟨bb, hbb, hx⟩ := hbase (by rintro rfl; omega)
      simp only at hy
      rw [hx] at hy
      cases hy
      rw [addr_block] at hb
      rw [addr_off] at hlo hhi
      refine ⟨bb, hbb, hb, .inr ⟨by omega, ?_⟩⟩
      have : (o + n) * a.size ≤ a.len * a.size := Nat.mul_le_mul_right _ (by omega)
      rw [Nat.add_mul] at this
      rw [← h2] at hhi
      omega
  | .agg cs, d, q, v, h, r => by
    simp only [Gat0] at h
    obtain ⟨ds, rfl, h⟩ := h
    simp only [RepV] at r
    obtain ⟨vs, rfl, r⟩ := r
    obtain ⟨F, h1, h2⟩ := Gats0.rep I cs h r
    exact ⟨F, by simp only [RepD]; exact ⟨_, rfl, h1⟩, h2⟩
  | .fn f cs, d, q, v, h, r => by
    simp only [Gat0] at h
    obtain ⟨ds, rfl, h⟩ := h
    simp only [RepV] at r
    obtain ⟨vs, rfl, r⟩ := r
    obtain ⟨F, h1, h2⟩ := Gats0.rep I cs h r
    exact ⟨F, by simp only [RepD]; exact ⟨_, rfl, h1⟩, h2⟩
theorem Gats0.rep {m : Bool} (I : HeapOk ρ g w) : ∀ (cs : List AV) {ds : List D} {q : Met} {vs : List Value}, Gats0 g m cs ds q → RepVs ρ cs vs → ∃ F, RepDs w ds vs F ∧ Match ρ g q F
  | [], ds, q, vs, h, r => by
    simp only [Gats0] at h; simp only [RepVs] at r; obtain ⟨rfl, rfl⟩ := h; subst r
    exact ⟨[], by simp [RepDs], .nil⟩
  | c :: cs, ds, q, vs, h, r => by
    simp only [Gats0] at h
    obtain ⟨d, l, q1, q2, rfl, rfl, h1, h2⟩ := h
    simp only [RepVs] at r
    obtain ⟨u, us, rfl, r1, r2⟩ := r
    obtain ⟨F1, k1, m1⟩ := Gat0.rep I c h1 r1
    obtain ⟨F2, k2, m2⟩ := Gats0.rep I cs h2 r2
    exact ⟨F1 ++ F2, by simp only [RepDs]; exact ⟨_, _, _, _, rfl, rfl, k1, k2⟩, m1.append m2⟩
end
theorem CellsL.sub {x : Addr} {vs : List Value} (h : CellsL w x vs) (o n : Nat) : CellsL w (x.add o) ((vs.drop o).take n) := by
  intro j u hj
  rw [addr_add_add]
  rw [List.getElem?_take] at hj
  split at hj
  · rw [List.getElem?_drop] at hj; exact h _ u hj
  · cases hj
theorem spot_add (x : Addr) (n : Nat) (h : x.spot = none) : (x.add n).spot = none := by
  unfold Addr.add
  split
  · exact h
  · rfl
mutual
theorem Gat.rep {m : Bool} (I : HeapOk ρ g w) : ∀ (n : Option Nat) (c : AV) {d : D} {q : Met} {v : Value}, Gat g m n c d q → RepV ρ c v → ∃ F, RepD w d v F ∧ Match ρ g q F
  | n, .int k x, d, q, v, h, r => Gat0.rep I _ (by simpa only [Gat] using h) r
  | n, .bool b, d, q, v, h, r => Gat0.rep I _ (by simpa only [Gat] using h) r
  | n, .str b, d, q, v, h, r => Gat0.rep I _ (by simpa only [Gat] using h) r
  | n, .un, d, q, v, h, r => Gat0.rep I _ (by simpa only [Gat] using h) r
  | n, .nils, d, q, v, h, r => Gat0.rep I _ (by simpa only [Gat] using h) r
  | n, .tup _, d, q, v, h, r => Gat0.rep I _ (by simpa only [Gat] using h) r
  | n, .sl id wn, d, q, v, h, r => Gat0.rep I _ (by simpa only [Gat] using h) r
  | n, .ptr id i o, d, q, v, h, r => by
    simp only [Gat] at h
    obtain ⟨own, cs, l, q1, rfl, hg, hm, h1, rfl, rfl⟩ := h
    simp only [RepV] at r
    obtain ⟨p, x, hp, hb, hi, rfl⟩ := r
    obtain ⟨p', hp', hr⟩ := I.rep id (by rw [hg]; simp)
    rw [hp] at hp'; cases hp'
    rw [hg] at hr
    obtain ⟨k1, y, vs, k2, k3, k4, k5, k6⟩ := hr
    rw [hb] at k2; cases k2
    obtain ⟨F, f1, f2⟩ := Gats0.rep I _ h1 ((k4.drop o).take (n.getD cs.length))
    have hlen : ((vs.drop o).take (n.getD cs.length)).length = l.length := f1.length
    have hadd : x.add (0 * p.size + o) = x.add o := by simp
    refine ⟨F ++ [(m && own, boxFoot (x.add o) l.length)], ?_, f2.append (.cons ⟨rfl, fun h => ?_, p, hp, by rw [hg]; simp, fun b off hf => ?_⟩ .nil)⟩
    · simp only [RepD]
      refine ⟨x.add o, _, F, by rw [hadd], spot_add x o k3, f1, k5.sub o _, fun h => ?_, rfl⟩
      simp only [Bool.and_eq_true] at h
      intro j hj
      rw [addr_add_add]
      refine k6 h.2 _ ?_
      simp only [List.length_take, List.length_drop] at hj
      omega
    · rw [hg]; simp at h; exact h.2
    · rw [hg, foot_box hb]
      obtain ⟨f1', f2', f3'⟩ := hf
      rw [addr_block] at f1'
      rw [addr_off] at f2' f3'
      rw [← hlen] at f3'
      simp only [List.length_take, List.length_drop] at f3'
      have := k4.length
      exact ⟨f1', by omega, by omega⟩
  | n, .agg cs, d, q, v, h, r => by
    simp only [Gat] at h
    obtain ⟨ds, rfl, h⟩ := h
    simp only [RepV] at r
    obtain ⟨vs, rfl, r⟩ := r
    obtain ⟨F, h1, h2⟩ := Gats.rep I cs h r
    exact ⟨F, by simp only [RepD]; exact ⟨_, rfl, h1⟩, h2⟩
  | n, .fn f cs, d, q, v, h, r => by
    simp only [Gat] at h
    obtain ⟨ds, rfl, h⟩ := h
    simp only [RepV] at r
    obtain ⟨vs, rfl, r⟩ := r
    obtain ⟨F, h1, h2⟩ := Gats.rep I cs h r
    exact ⟨F, by simp only [RepD]; exact ⟨_, rfl, h1⟩, h2⟩
theorem Gats.rep {m : Bool} (I : HeapOk ρ g w) : ∀ (cs : List AV) {ds : List D} {q : Met} {vs : List Value}, Gats g m cs ds q → RepVs ρ cs vs → ∃ F, RepDs w ds vs F ∧ Match ρ g q F
  | [], ds, q, vs, h, r => by
    simp only [Gats] at h; simp only [RepVs] at r; obtain ⟨rfl, rfl⟩ := h; subst r
    exact ⟨[], by simp [RepDs], .nil⟩
  | c :: cs, ds, q, vs, h, r => by
    simp only [Gats] at h
    obtain ⟨d, l, q1, q2, rfl, rfl, h1, h2⟩ := h
    simp only [RepVs] at r
    obtain ⟨u, us, rfl, r1, r2⟩ := r
    obtain ⟨F1, k1, m1⟩ := Gat.rep I none c h1 r1
    obtain ⟨F2, k2, m2⟩ := Gats.rep I cs h2 r2
    exact ⟨F1 ++ F2, by simp only [RepDs]; exact ⟨_, _, _, _, rfl, rfl, k1, k2⟩, m1.append m2⟩
end
theorem GatA.rep (I : HeapOk ρ g w) : ∀ (ms : List Bool) (ns : List (Option Nat)) (cs : List AV) {ds : List D} {q : Met} {vs : List Value}, GatA g ms ns cs ds q → RepVs ρ cs vs → ∃ F, RepDs w ds vs F ∧ Match ρ g q F
  | ms, ns, [], ds, q, vs, h, r => by
    simp only [GatA] at h; simp only [RepVs] at r; obtain ⟨rfl, rfl⟩ := h; subst r
    exact ⟨[], by simp [RepDs], .nil⟩
  | ms, ns, c :: cs, ds, q, vs, h, r => by
    simp only [GatA] at h
    obtain ⟨d, l, q1, q2, rfl, rfl, h1, h2⟩ := h
    simp only [RepVs] at r
    obtain ⟨u, us, rfl, r1, r2⟩ := r
    obtain ⟨F1, k1, m1⟩ := Gat.rep I _ c h1 r1
    obtain ⟨F2, k2, m2⟩ := GatA.rep I ms.tail ns.tail cs h2 r2
    exact ⟨F1 ++ F2, by simp only [RepDs]; exact ⟨_, _, _, _, rfl, rfl, k1, k2⟩, m1.append m2⟩
theorem Match.sep (I : HeapOk ρ g w) : ∀ {q : Met} {F : Feet}, Match ρ g q F → sepIds q = true → Sep F := by
  intro q F h
  unfold Match at h
  unfold Sep
  induction h with
  | nil => intro _; exact .nil
  | @cons x A q F h1 h2 ih =>
    obtain ⟨i, b⟩ := x
    intro hs
    simp only [sepIds, Bool.and_eq_true, List.all_eq_true] at hs
    refine .cons ?_ (ih hs.2)
    have key : ∀ (q' : Met) (F' : Feet), All2 (fun (x : Nat × Bool) A => A.1 = x.2 ∧ (x.2 = true → (g x.1).own = true) ∧ ∃ p, ρ x.1 = some p ∧ g x.1 ≠ .dead ∧ ∀ b off, A.2 b off → foot p (g x.1) b off) q' F' →
        (∀ y ∈ q', (!Nat.beq y.1 i || !(b || y.2)) = true) → ∀ B ∈ F', A.1 = true ∨ B.1 = true → Apart A.2 B.2 := by
      intro q' F' hq
      induction hq with
      | nil => intro _ B hB; cases hB
      | @cons y B q' F' k1 k2 ih2 =>
        intro hall C hC hor
        rcases List.mem_cons.1 hC with rfl | hC
        · obtain ⟨e1, o1, p1, hp1, d1, f1⟩ := h1
          obtain ⟨e2, o2, p2, hp2, d2, f2⟩ := k1
          have hne : y.1 ≠ i := by
            have := hall y (by simp)
            intro he
            subst he
            rw [e1, e2] at hor
            simp only [Nat.beq_refl, Bool.not_true, Bool.false_or, Bool.not_eq_true', Bool.or_eq_false_iff] at this
            simp only [this] at hor
            simp at hor
          intro bb off ha hb
          rcases hor with ho | ho
          · exact I.sep i y.1 p1 p2 (Ne.symm hne) hp1 hp2 (o1 (e1 ▸ ho)) bb off (f1 _ _ ha) (f2 _ _ hb)
          · exact I.sep y.1 i p2 p1 hne hp2 hp1 (o2 (e2 ▸ ho)) bb off (f2 _ _ hb) (f1 _ _ ha)
        · exact ih2 (fun z hz => hall z (by simp [hz])) C hC hor
    exact key q F h2 hs.1
end
end Go.Ev
