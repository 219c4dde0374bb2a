/- The evaluator: reading data off the entries. The evaluator: what a call does to the caller's entries. The evaluator: a call by its contract. -/
import Derived.Test.YtcaapedadpnjoaaE12
namespace Go.Ev
set_option linter.unusedSimpArgs false
set_option linter.unusedVariables false
open Go Go.RowKit
mutual
def Gat0 (g : Hp) (m : Bool) : AV → D → Met → Prop
  | .int k n, d, q => d = .int k n ∧ q = []
  | .bool b, d, q => d = .bool b ∧ q = []
  | .str s, d, q => d = .str s ∧ q = []
  | .sl id none, d, q => (∃ own nil a, g id = .arr own nil a ∧ d = .arr (m && own) nil a ∧ q = [(id, m && own)]) ∨ ∃ own nil z l, g id = .rows own nil z l ∧ m = false ∧ d = .rows nil z l ∧ q = [(id, false), (id, false)]
  | .sl id (some (o, n)), d, q => ∃ own nil a, g id = .arr own nil a ∧ m = false ∧ d = .arr false nil (a.sub o n) ∧ q = [(id, false)]
  | .agg cs, d, q => ∃ l, d = .agg l ∧ Gats0 g m cs l q
  | .fn f cs, d, q => ∃ l, d = .fn f l ∧ Gats0 g m cs l q
  | _, _, _ => False
def Gats0 (g : Hp) (m : Bool) : List AV → List D → Met → Prop
  | [], ds, q => ds = [] ∧ q = []
  | c :: cs, ds, q => ∃ d l q1 q2, ds = d :: l ∧ q = q1 ++ q2 ∧ Gat0 g m c d q1 ∧ Gats0 g m cs l q2
end
mutual
def Gat (g : Hp) (m : Bool) (n : Option Nat) : AV → D → Met → Prop
  | .ptr id i o, d, q => ∃ own cs l q1, i = 0 ∧ g id = .box own cs ∧ (m = true → o = 0 ∧ cs.length ≤ n.getD cs.length) ∧ Gats0 g m ((cs.drop o).take (n.getD cs.length)) l q1 ∧ d = .ptr (m && own) l ∧ q = q1 ++ [(id, m && own)]
  | .agg cs, d, q => ∃ l, d = .agg l ∧ Gats g m cs l q
  | .fn f cs, d, q => ∃ l, d = .fn f l ∧ Gats g m cs l q
  | v, d, q => Gat0 g m v d q
def Gats (g : Hp) (m : Bool) : List AV → List D → Met → Prop
  | [], ds, q => ds = [] ∧ q = []
  | c :: cs, ds, q => ∃ d l q1 q2, ds = d :: l ∧ q = q1 ++ q2 ∧ Gat g m none c d q1 ∧ Gats g m cs l q2
end
def GatA (g : Hp) : List Bool → List (Option Nat) → List AV → List D → Met → Prop
  | _, _, [], ds, q => ds = [] ∧ q = []
  | ms, ns, c :: cs, ds, q => ∃ d l q1 q2, ds = d :: l ∧ q = q1 ++ q2 ∧ Gat g (ms.headD false) (ns.headD none) c d q1 ∧ GatA g ms.tail ns.tail cs l q2

structure Sit0 (cal : Nat → List D → Option (List D)) {α : Type} (p : Prog α) (l : List Ac) (u : α) (ρ : Env) (g : Hp) : Prop where
  run : Run cal p l u
  cons : Cons l g
  fresh : ∀ id ∈ news l, ρ id = none
  nodup : (news l).Nodup
section
variable {cal : Nat → List D → Option (List D)} {α : Type} {l : List Ac} {u : α} {w0 : World} {M : Nat → Nat → Prop} {ρ : Env} {g : Hp} {w w' : World} {X : Env → Prop}
theorem Sit.to {p : Prog α} (S : Sit cal p l u w0 M ρ g w) : Sit0 cal p l u ρ g := ⟨S.run, S.cons, S.fresh, S.nodup⟩
theorem Sit0.sit {p : Prog α} (S : Sit0 cal p l u ρ g) (I : Inv w0 M ρ g w) : Sit cal p l u w0 M ρ g w := ⟨S.run, S.cons, S.fresh, S.nodup, I⟩
theorem Sit0.ret {a : α} (S : Sit0 cal (.ret a) l u ρ g) : l = [] ∧ u = a := by cases S.run; exact ⟨rfl, rfl⟩
theorem Sit0.fail {p : Prop} (S : Sit0 cal (.fail : Prog α) l u ρ g) : p := by cases S.run
theorem Sit0.rd {id : Nat} {k : Ent → Prog α} (S : Sit0 cal (.rd id k) l u ρ g) : ∃ l', l = .rd id (g id) :: l' ∧ Sit0 cal (k (g id)) l' u ρ g := by
  obtain ⟨h1, h2, h3, h4⟩ := S
  cases h1 with
  | @rd _ e _ l' _ h1 =>
    obtain ⟨rfl, h2⟩ := h2
    exact ⟨l', rfl, h1, h2, h3, h4⟩
theorem Sit0.chk {c : Bool} {k : Prog α} (S : Sit0 cal (.chk c k) l u ρ g) : c = true ∧ Sit0 cal k l u ρ g := by
  obtain ⟨h1, h2, h3, h4⟩ := S
  cases h1 with
  | chk hc h1 => exact ⟨hc, h1, h2, h3, h4⟩
theorem Sit0.new {e : Ent} {k : Nat → Prog α} (S : Sit0 cal (.new e k) l u ρ g) : ∃ id l', l = .new id e :: l' ∧ ρ id = none ∧ g id = .dead ∧
    ∀ p, Sit0 cal (k id) l' u (updρ ρ id p) (upd g id e) := by
  obtain ⟨h1, h2, h3, h4⟩ := S
  cases h1 with
  | @new id _ _ l' _ h1 =>
    simp only [news, List.nodup_cons] at h4
    obtain ⟨hd, h2⟩ := h2
    refine ⟨id, l', rfl, h3 id (by simp [news]), hd, fun p => ⟨h1, h2, fun i hi => ?_, h4.2⟩⟩
    have : i ≠ id := by rintro rfl; exact h4.1 hi
    rw [updρ_other _ _ this]
    exact h3 i (by simp [news, hi])
theorem Sit0.wr {id : Nat} {e : Ent} {k : Prog α} (S : Sit0 cal (.wr id e k) l u ρ g) : ∃ l', l = .wr id e :: l' ∧ g id ≠ .dead ∧ Sit0 cal k l' u ρ (upd g id e) := by
  obtain ⟨h1, h2, h3, h4⟩ := S
  cases h1 with
  | @wr _ _ _ l' _ h1 =>
    obtain ⟨hd, h2⟩ := h2
    exact ⟨l', rfl, hd, h1, h2, h3, h4⟩
theorem Sit0.call {f : Nat} {ds : List D} {k : List D → Prog α} (S : Sit0 cal (.call f ds k) l u ρ g) : ∃ rs l', l = .call f ds rs :: l' ∧ cal f ds = some rs ∧ Sit0 cal (k rs) l' u ρ g := by
  obtain ⟨h1, h2, h3, h4⟩ := S
  cases h1 with
  | @call _ _ rs _ l' _ hc h1 => exact ⟨rs, l', rfl, hc, h1, h2, h3, h4⟩

/-- only reads stand between -/
def Reads (l l' : List Ac) : Prop := ∃ rs : List (Nat × Ent), l = rs.map (fun x => Ac.rd x.1 x.2) ++ l'
theorem Reads.refl (l : List Ac) : Reads l l := ⟨[], rfl⟩
theorem Reads.trans {a b c : List Ac} (h : Reads a b) (k : Reads b c) : Reads a c := by
  obtain ⟨r, rfl⟩ := h
  obtain ⟨s, rfl⟩ := k
  exact ⟨r ++ s, by simp⟩
theorem Reads.cons {id : Nat} {e : Ent} {a b : List Ac} (h : Reads a b) : Reads (.rd id e :: a) b := by
  obtain ⟨r, rfl⟩ := h
  exact ⟨(id, e) :: r, rfl⟩
theorem Reads.fin {a b : List Ac} (h : Reads a b) (F : Fin w0 M b g ρ w' X) : Fin w0 M a g ρ w' X := by
  obtain ⟨r, rfl⟩ := h
  induction r with
  | nil => exact F
  | cons x r ih => exact (ih).rd
mutual
theorem gcell0_ok {m : Bool} : ∀ (c : AV) {q : Met} {K : D → Met → Prog α} {l : List Ac}, Sit0 cal (gcell0 m c q K) l u ρ g → ∃ d q' l', Sit0 cal (K d (q ++ q')) l' u ρ g ∧ Gat0 g m c d q' ∧ Reads l l'
  | .int k n, q, K, l, S => ⟨_, [], l, by simpa [gcell0] using S, by simp [Gat0], .refl l⟩
  | .bool b, q, K, l, S => ⟨_, [], l, by simpa [gcell0] using S, by simp [Gat0], .refl l⟩
  | .str s, q, K, l, S => ⟨_, [], l, by simpa [gcell0] using S, by simp [Gat0], .refl l⟩
  | .un, q, K, l, S => by simp only [gcell0] at S; exact S.fail
  | .nils, q, K, l, S => by simp only [gcell0] at S; exact S.fail
  | .ptr _ _ _, q, K, l, S => by simp only [gcell0] at S; exact S.fail
  | .tup _, q, K, l, S => by simp only [gcell0] at S; exact S.fail
  | .sl id wn, q, K, l, S => by
    simp only [gcell0] at S
    have S0 := S.rd; clear S; obtain ⟨l', rfl, S⟩ := S0
    split at S
    · rename_i own nil a hg
      cases wn with
      | none => exact ⟨_, _, l', S, .inl ⟨own, nil, a, hg, rfl, rfl⟩, (Reads.refl _).cons⟩
      | some on =>
        obtain ⟨o, n⟩ := on
        simp only at S
        split at S
        · exact S.fail
        · rename_i hm
          exact ⟨_, _, l', S, ⟨own, nil, a, hg, by simpa using hm, rfl, rfl⟩, (Reads.refl _).cons⟩
    · rename_i own nil z ll hg
      cases wn with
      | some _ => exact S.fail
      | none =>
        simp only at S
        split at S
        · exact S.fail
        · rename_i hm
          exact ⟨_, _, l', S, .inr ⟨own, nil, z, ll, hg, by simpa using hm, rfl, rfl⟩, (Reads.refl _).cons⟩
    · exact S.fail
  | .agg cs, q, K, l, S => by
    simp only [gcell0] at S
    obtain ⟨ds, q', l', S1, h, hr⟩ := gcells0_ok cs S
    exact ⟨_, q', l', S1, by simp only [Gat0]; exact ⟨_, rfl, h⟩, hr⟩
  | .fn f cs, q, K, l, S => by
    simp only [gcell0] at S
    obtain ⟨ds, q', l', S1, h, hr⟩ := gcells0_ok cs S
    exact ⟨_, q', l', S1, by simp only [Gat0]; exact ⟨_, rfl, h⟩, hr⟩
theorem gcells0_ok {m : Bool} : ∀ (cs : List AV) {q : Met} {K : List D → Met → Prog α} {l : List Ac}, Sit0 cal (gcells0 m cs q K) l u ρ g → ∃ ds q' l', Sit0 cal (K ds (q ++ q')) l' u ρ g ∧ Gats0 g m cs ds q' ∧ Reads l l'
  | [], q, K, l, S => ⟨[], [], l, by simpa [gcells0] using S, by simp [Gats0], .refl l⟩
  | c :: cs, q, K, l, S => by
    simp only [gcells0] at S
    obtain ⟨d, q1, l1, S1, h1, r1⟩ := gcell0_ok c S
    obtain ⟨ds, q2, l2, S2, h2, r2⟩ := gcells0_ok cs S1
    exact ⟨d :: ds, q1 ++ q2, l2, by rw [← List.append_assoc]; exact S2, by simp only [Gats0]; exact ⟨_, _, _, _, rfl, rfl, h1, h2⟩, r1.trans r2⟩
end
mutual
theorem gcell_ok {m : Bool} : ∀ (n : Option Nat) (c : AV) {q : Met} {K : D → Met → Prog α} {l : List Ac}, Sit0 cal (gcell m n c q K) l u ρ g → ∃ d q' l', Sit0 cal (K d (q ++ q')) l' u ρ g ∧ Gat g m n c d q' ∧ Reads l l'
  | n, .int k x, q, K, l, S => by simpa only [Gat] using gcell0_ok _ (by simpa only [gcell] using S)
  | n, .bool k, q, K, l, S => by simpa only [Gat] using gcell0_ok _ (by simpa only [gcell] using S)
  | n, .str k, q, K, l, S => by simpa only [Gat] using gcell0_ok _ (by simpa only [gcell] using S)
  | n, .un, q, K, l, S => by simpa only [Gat] using gcell0_ok _ (by simpa only [gcell] using S)
  | n, .nils, q, K, l, S => by simpa only [Gat] using gcell0_ok _ (by simpa only [gcell] using S)
  | n, .tup k, q, K, l, S => by simpa only [Gat] using gcell0_ok _ (by simpa only [gcell] using S)
  | n, .sl k x, q, K, l, S => by simpa only [Gat] using gcell0_ok _ (by simpa only [gcell] using S)
  | n, .ptr id i o, q, K, l, S => by
    simp only [gcell] at S
    have S0 := S.rd; clear S; obtain ⟨l', rfl, S⟩ := S0
    split at S
    · rename_i own cs hg
      have S0 := S.chk; clear S; obtain ⟨hc, S⟩ := S0
      obtain ⟨ds, q', l2, S1, h, hr⟩ := gcells0_ok _ S
      refine ⟨_, q' ++ [(id, m && own)], l2, by rw [← List.append_assoc]; exact S1, ?_, hr.cons⟩
      simp only [Gat]
      refine ⟨own, cs, ds, q', trivial, hg, fun hm => ?_, h, rfl, rfl⟩
      subst hm
      simp only [Bool.not_true, Bool.false_or, Bool.and_eq_true] at hc
      exact ⟨Nat.eq_of_beq_eq_true hc.1, Nat.le_of_ble_eq_true hc.2⟩
    · exact S.fail
  | n, .agg cs, q, K, l, S => by
    simp only [gcell] at S
    obtain ⟨ds, q', l', S1, h, hr⟩ := gcells_ok cs S
    exact ⟨_, q', l', S1, by simp only [Gat]; exact ⟨_, rfl, h⟩, hr⟩
  | n, .fn f cs, q, K, l, S => by
    simp only [gcell] at S
    obtain ⟨ds, q', l', S1, h, hr⟩ := gcells_ok cs S
    exact ⟨_, q', l', S1, by simp only [Gat]; exact ⟨_, rfl, h⟩, hr⟩
theorem gcells_ok {m : Bool} : ∀ (cs : List AV) {q : Met} {K : List D → Met → Prog α} {l : List Ac}, Sit0 cal (gcells m cs q K) l u ρ g → ∃ ds q' l', Sit0 cal (K ds (q ++ q')) l' u ρ g ∧ Gats g m cs ds q' ∧ Reads l l'
  | [], q, K, l, S => ⟨[], [], l, by simpa [gcells] using S, by simp [Gats], .refl l⟩
  | c :: cs, q, K, l, S => by
    simp only [gcells] at S
    obtain ⟨d, q1, l1, S1, h1, r1⟩ := gcell_ok none c S
    obtain ⟨ds, q2, l2, S2, h2, r2⟩ := gcells_ok cs S1
    exact ⟨d :: ds, q1 ++ q2, l2, by rw [← List.append_assoc]; exact S2, by simp only [Gats]; exact ⟨_, _, _, _, rfl, rfl, h1, h2⟩, r1.trans r2⟩
end
theorem gargs_ok : ∀ (ms : List Bool) (ns : List (Option Nat)) (cs : List AV) {q : Met} {K : List D → Met → Prog α} {l : List Ac}, Sit0 cal (gargs ms ns cs q K) l u ρ g → ∃ ds q' l', Sit0 cal (K ds (q ++ q')) l' u ρ g ∧ GatA g ms ns cs ds q' ∧ Reads l l'
  | ms, ns, [], q, K, l, S => ⟨[], [], l, by simpa [gargs] using S, by simp [GatA], .refl l⟩
  | ms, ns, c :: cs, q, K, l, S => by
    simp only [gargs] at S
    obtain ⟨d, q1, l1, S1, h1, r1⟩ := gcell_ok _ c S
    obtain ⟨ds, q2, l2, S2, h2, r2⟩ := gargs_ok ms.tail ns.tail cs S1
    exact ⟨d :: ds, q1 ++ q2, l2, by rw [← List.append_assoc]; exact S2, by simp only [GatA]; exact ⟨_, _, _, _, rfl, rfl, h1, h2⟩, r1.trans r2⟩
theorem gmut_ok : ∀ (cs : List AV) {q : Met} {K : List D → Met → Prog α} {l : List Ac}, Sit0 cal (gmut cs q K) l u ρ g → ∃ ds q' l', Sit0 cal (K ds (q ++ q')) l' u ρ g ∧ Gats g true cs ds q' ∧ Reads l l'
  | [], q, K, l, S => ⟨[], [], l, by simpa [gmut] using S, by simp [Gats], .refl l⟩
  | c :: cs, q, K, l, S => by
    simp only [gmut] at S
    obtain ⟨d, q1, l1, S1, h1, r1⟩ := gcell_ok none c S
    obtain ⟨ds, q2, l2, S2, h2, r2⟩ := gmut_ok cs S1
    exact ⟨d :: ds, q1 ++ q2, l2, by rw [← List.append_assoc]; exact S2, by simp only [Gats]; exact ⟨_, _, _, _, rfl, rfl, h1, h2⟩, r1.trans r2⟩
end

/-! what was read stands for what is there -/
inductive All2 {α β : Type} (R : α → β → Prop) : List α → List β → Prop
  | nil : All2 R [] []
  | cons {a : α} {b : β} {l : List α} {m : List β} : R a b → All2 R l m → All2 R (a :: l) (b :: m)
def Match (ρ : Env) (g : Hp) (q : Met) (F : Feet) : Prop :=
  All2 (fun (x : Nat × Bool) A => A.1 = x.2 ∧ (x.2 = true → (g x.1).own = true) ∧ ∃ p, ρ x.1 = some p ∧ g x.1 ≠ .dead ∧ (∀ b off, A.2 b off → foot p (g x.1) b off ∨ inn p (g x.1) b off) ∧ (x.2 = true → ∀ b off, A.2 b off → foot p (g x.1) b off)) q F
theorem Match.append {ρ : Env} {g : Hp} {q q' : Met} {F F' : Feet} (h : Match ρ g q F) (k : Match ρ g q' F') : Match ρ g (q ++ q') (F ++ F') := by
  unfold Match at *
  induction h with
  | nil => exact k
  | cons h _ ih => exact .cons h ih
section
variable {w0 : World} {M : Nat → Nat → Prop} {ρ : Env} {g : Hp} {w : World}
mutual
theorem Gat0.rep {m : Bool} (I : HeapOk ρ g w) : ∀ (c : AV) {d : D} {q : Met} {v : Value}, Gat0 g m c d q → RepV ρ c v → ∃ F, RepD w d v F ∧ Match ρ g q F
  | .int k n, d, q, v, h, r => by
    simp only [Gat0] at h; simp only [RepV] at r; obtain ⟨rfl, rfl⟩ := h; subst r
    exact ⟨[], by simp [RepD], .nil⟩
  | .bool b, d, q, v, h, r => by
    simp only [Gat0] at h; simp only [RepV] at r; obtain ⟨rfl, rfl⟩ := h; subst r
    exact ⟨[], by simp [RepD], .nil⟩
  | .str b, d, q, v, h, r => by
    simp only [Gat0] at h; simp only [RepV] at r; obtain ⟨rfl, rfl⟩ := h; subst r
    exact ⟨[], by simp [RepD], .nil⟩
  | .un, d, q, v, h, r => by simp only [Gat0] at h
  | .nils, d, q, v, h, r => by simp only [Gat0] at h
  | .ptr _ _ _, d, q, v, h, r => by simp only [Gat0] at h
  | .tup _, d, q, v, h, r => by simp only [Gat0] at h
  | .sl id none, d, q, v, h, r => by
    simp only [Gat0] at h
    rcases h with ⟨own, nil, a, hg, rfl, rfl⟩ | ⟨own, nil, z, ll, hg, rfl, rfl, rfl⟩
    rotate_left
    · simp only [RepV, RepSl] at r
      obtain ⟨p, hp, rfl⟩ := r
      obtain ⟨p', hp', hr⟩ := I.rep id (by rw [hg]; simp)
      rw [hp] at hp'; cases hp'
      rw [hg] at hr
      obtain ⟨h1, h2, h3, h4, h5, h6, h7⟩ := hr
      refine ⟨[(false, foot p (.rows false nil z ll)), (false, inn p (.rows false nil z ll))], ?_, .cons ⟨rfl, fun h => by simp at h, p, hp, by rw [hg]; simp, fun b off hf => .inl ?_, fun h => by simp at h⟩ (.cons ⟨rfl, fun h => by simp at h, p, hp, by rw [hg]; simp, fun b off hf => .inr ?_, fun h => by simp at h⟩ .nil)⟩
      · simp only [RepD]
        exact ⟨p, rfl, ⟨h1, h2, h3, h4, h5, fun h => by simp at h, h7⟩, rfl⟩
      · rw [hg]
        obtain ⟨x, hx, hb, ho⟩ := hf
        exact ⟨x, hx, hb, .inr (ho.resolve_left (by simp))⟩
      · rw [hg]; exact hf
    simp only [RepV, RepSl] at r
    obtain ⟨p, hp, rfl⟩ := r
    obtain ⟨p', hp', hr⟩ := I.rep id (by rw [hg]; simp)
    rw [hp] at hp'; cases hp'
    rw [hg] at hr
    have hff : ∀ b off, foot p (.arr (m && own) nil a) b off → foot p (g id) b off := by
      intro b off hf
      rw [hg]
      obtain ⟨x, hx, hb, ho⟩ := hf
      exact ⟨x, hx, hb, ho.imp (fun h => by simp at h; exact h.2) (fun h => h)⟩
    refine ⟨[(m && own, foot p (.arr (m && own) nil a))], ?_, .cons ⟨rfl, fun h => ?_, p, hp, by rw [hg]; simp, fun b off hf => .inl (hff b off hf), fun _ => hff⟩ .nil⟩
    · simp only [RepD]
      obtain ⟨h1, h2, h3, h4, h5, h6⟩ := hr
      exact ⟨p, rfl, ⟨h1, h2, h3, h4, h5, fun h => h6 (by simp at h; exact h.2)⟩, rfl⟩
    · rw [hg]; simp at h; exact h.2
  | .sl id (some (o, n)), d, q, v, h, r => by
    simp only [Gat0] at h
    obtain ⟨own, nil, a, hg, rfl, rfl, rfl⟩ := h
    simp only [RepV] at r
    obtain ⟨p, hp, hs⟩ := r
    obtain ⟨p', hp', hr⟩ := I.rep id (by rw [hg]; simp)
    rw [hp] at hp'; cases hp'
    rw [hg] at hr
    obtain ⟨x, c, rfl, hlc, hoff, hbase⟩ := lenW_ok hr hs
    obtain ⟨hn1, hn2⟩ := nilW_ok hr hs
    obtain ⟨h1, h2, h3, h4, h5, h6⟩ := hr
    simp only [lenW, offW] at hlc hoff hbase ⊢
    have hsl : (a.sub o n).len = n := a.sub_len o n (by omega)
    refine ⟨[(false, foot ⟨x, n, c, p.size, []⟩ (.arr false nil (a.sub o n)))], ?_, .cons ⟨rfl, fun h => by simp at h, p, hp, by rw [hg]; simp, fun b off hf => .inl ?_, fun h => by simp at h⟩ .nil⟩
    · simp only [RepD]
      refine ⟨⟨x, n, c, p.size, []⟩, rfl, ⟨hsl, by rw [a.sub_size]; exact h2, by simp only [h3, hn1], fun hx => ?_, fun y hy => ⟨hlc, ?_⟩, fun h => by simp at h⟩, rfl⟩
      · have hb := hn1.1 hx
        exact ⟨hn2 hb, by have := (h4 hb).2; simp only; omega⟩
      · intro j u hj
        have hj' : j < n * a.size := by
          have := (List.getElem?_eq_some_iff.1 hj).1
          rw [(a.sub o n).cells_length, hsl, a.sub_size] at this; exact this
        obtain ⟨bb, hbb, hx⟩ := hbase (by rintro rfl; omega)
        simp only at hy
        rw [hx] at hy
        cases hy
        rw [addr_add_add]
        refine (h5 bb hbb).2 _ u ?_
        rw [a.sub_cells, List.getElem?_take, if_pos hj', List.getElem?_drop, h2] at hj
        exact hj
    · rw [hg]
      obtain ⟨y, hy, hb, ho⟩ := hf
      rcases ho with ho | ⟨hlo, hhi⟩
      · cases ho
      rw [hsl, a.sub_size] at hhi
      obtain ⟨bb, hbb, hx⟩ := hbase (by rintro rfl; omega)
      simp only at hy
      rw [hx] at hy
      cases hy
      rw [addr_block] at hb
      rw [addr_off] at hlo hhi
      refine ⟨bb, hbb, hb, .inr ⟨by omega, ?_⟩⟩
      have : (o + n) * a.size ≤ a.len * a.size := Nat.mul_le_mul_right _ (by omega)
      rw [Nat.add_mul] at this
      rw [← h2] at hhi
      omega
  | .agg cs, d, q, v, h, r => by
    simp only [Gat0] at h
    obtain ⟨ds, rfl, h⟩ := h
    simp only [RepV] at r
    obtain ⟨vs, rfl, r⟩ := r
    obtain ⟨F, h1, h2⟩ := Gats0.rep I cs h r
    exact ⟨F, by simp only [RepD]; exact ⟨_, rfl, h1⟩, h2⟩
  | .fn f cs, d, q, v, h, r => by
    simp only [Gat0] at h
    obtain ⟨ds, rfl, h⟩ := h
    simp only [RepV] at r
    obtain ⟨vs, rfl, r⟩ := r
    obtain ⟨F, h1, h2⟩ := Gats0.rep I cs h r
    exact ⟨F, by simp only [RepD]; exact ⟨_, rfl, h1⟩, h2⟩
theorem Gats0.rep {m : Bool} (I : HeapOk ρ g w) : ∀ (cs : List AV) {ds : List D} {q : Met} {vs : List Value}, Gats0 g m cs ds q → RepVs ρ cs vs → ∃ F, RepDs w ds vs F ∧ Match ρ g q F
  | [], ds, q, vs, h, r => by
    simp only [Gats0] at h; simp only [RepVs] at r; obtain ⟨rfl, rfl⟩ := h; subst r
    exact ⟨[], by simp [RepDs], .nil⟩
  | c :: cs, ds, q, vs, h, r => by
    simp only [Gats0] at h
    obtain ⟨d, l, q1, q2, rfl, rfl, h1, h2⟩ := h
    simp only [RepVs] at r
    obtain ⟨u, us, rfl, r1, r2⟩ := r
    obtain ⟨F1, k1, m1⟩ := Gat0.rep I c h1 r1
    obtain ⟨F2, k2, m2⟩ := Gats0.rep I cs h2 r2
    exact ⟨F1 ++ F2, by simp only [RepDs]; exact ⟨_, _, _, _, rfl, rfl, k1, k2⟩, m1.append m2⟩
end
theorem CellsL.sub {x : Addr} {vs : List Value} (h : CellsL w x vs) (o n : Nat) : CellsL w (x.add o) ((vs.drop o).take n) := by
  intro j u hj
  rw [addr_add_add]
  rw [List.getElem?_take] at hj
  split at hj
  · rw [List.getElem?_drop] at hj; exact h _ u hj
  · cases hj
theorem spot_add (x : Addr) (n : Nat) (h : x.spot = none) : (x.add n).spot = none := by
  unfold Addr.add
  split
  · exact h
  · rfl
mutual
theorem Gat.rep {m : Bool} (I : HeapOk ρ g w) : ∀ (n : Option Nat) (c : AV) {d : D} {q : Met} {v : Value}, Gat g m n c d q → RepV ρ c v → ∃ F, RepD w d v F ∧ Match ρ g q F
  | n, .int k x, d, q, v, h, r => Gat0.rep I _ (by simpa only [Gat] using h) r
  | n, .bool b, d, q, v, h, r => Gat0.rep I _ (by simpa only [Gat] using h) r
  | n, .str b, d, q, v, h, r => Gat0.rep I _ (by simpa only [Gat] using h) r
  | n, .un, d, q, v, h, r => Gat0.rep I _ (by simpa only [Gat] using h) r
  | n, .nils, d, q, v, h, r => Gat0.rep I _ (by simpa only [Gat] using h) r
  | n, .tup _, d, q, v, h, r => Gat0.rep I _ (by simpa only [Gat] using h) r
  | n, .sl id wn, d, q, v, h, r => Gat0.rep I _ (by simpa only [Gat] using h) r
  | n, .ptr id i o, d, q, v, h, r => by
    simp only [Gat] at h
    obtain ⟨own, cs, l, q1, rfl, hg, hm, h1, rfl, rfl⟩ := h
    simp only [RepV] at r
    obtain ⟨p, x, hp, hb, hi, rfl⟩ := r
    obtain ⟨p', hp', hr⟩ := I.rep id (by rw [hg]; simp)
    rw [hp] at hp'; cases hp'
    rw [hg] at hr
    obtain ⟨k1, y, vs, k2, k3, k4, k5, k6⟩ := hr
    rw [hb] at k2; cases k2
    obtain ⟨F, f1, f2⟩ := Gats0.rep I _ h1 ((k4.drop o).take (n.getD cs.length))
    have hlen : ((vs.drop o).take (n.getD cs.length)).length = l.length := f1.length
    have hadd : x.add (0 * p.size + o) = x.add o := by simp
    have hff : ∀ b off, boxFoot (x.add o) l.length b off → foot p (g id) b off := by
      intro b off hf
      rw [hg, foot_box hb]
      obtain ⟨f1', f2', f3'⟩ := hf
      rw [addr_block] at f1'
      rw [addr_off] at f2' f3'
      rw [← hlen] at f3'
      simp only [List.length_take, List.length_drop] at f3'
      have := k4.length
      exact ⟨f1', by omega, by omega⟩
    refine ⟨F ++ [(m && own, boxFoot (x.add o) l.length)], ?_, f2.append (.cons ⟨rfl, fun h => ?_, p, hp, by rw [hg]; simp, fun b off hf => .inl (hff b off hf), fun _ => hff⟩ .nil)⟩
    · simp only [RepD]
      refine ⟨x.add o, _, F, by rw [hadd], spot_add x o k3, f1, k5.sub o _, fun h => ?_, rfl⟩
      simp only [Bool.and_eq_true] at h
      intro j hj
      rw [addr_add_add]
      refine k6 h.2 _ ?_
      simp only [List.length_take, List.length_drop] at hj
      omega
    · rw [hg]; simp at h; exact h.2
  | n, .agg cs, d, q, v, h, r => by
    simp only [Gat] at h
    obtain ⟨ds, rfl, h⟩ := h
    simp only [RepV] at r
    obtain ⟨vs, rfl, r⟩ := r
    obtain ⟨F, h1, h2⟩ := Gats.rep I cs h r
    exact ⟨F, by simp only [RepD]; exact ⟨_, rfl, h1⟩, h2⟩
  | n, .fn f cs, d, q, v, h, r => by
    simp only [Gat] at h
    obtain ⟨ds, rfl, h⟩ := h
    simp only [RepV] at r
    obtain ⟨vs, rfl, r⟩ := r
    obtain ⟨F, h1, h2⟩ := Gats.rep I cs h r
    exact ⟨F, by simp only [RepD]; exact ⟨_, rfl, h1⟩, h2⟩
theorem Gats.rep {m : Bool} (I : HeapOk ρ g w) : ∀ (cs : List AV) {ds : List D} {q : Met} {vs : List Value}, Gats g m cs ds q → RepVs ρ cs vs → ∃ F, RepDs w ds vs F ∧ Match ρ g q F
  | [], ds, q, vs, h, r => by
    simp only [Gats] at h; simp only [RepVs] at r; obtain ⟨rfl, rfl⟩ := h; subst r
    exact ⟨[], by simp [RepDs], .nil⟩
  | c :: cs, ds, q, vs, h, r => by
    simp only [Gats] at h
    obtain ⟨d, l, q1, q2, rfl, rfl, h1, h2⟩ := h
    simp only [RepVs] at r
    obtain ⟨u, us, rfl, r1, r2⟩ := r
    obtain ⟨F1, k1, m1⟩ := Gat.rep I none c h1 r1
    obtain ⟨F2, k2, m2⟩ := Gats.rep I cs h2 r2
    exact ⟨F1 ++ F2, by simp only [RepDs]; exact ⟨_, _, _, _, rfl, rfl, k1, k2⟩, m1.append m2⟩
end
theorem GatA.rep (I : HeapOk ρ g w) : ∀ (ms : List Bool) (ns : List (Option Nat)) (cs : List AV) {ds : List D} {q : Met} {vs : List Value}, GatA g ms ns cs ds q → RepVs ρ cs vs → ∃ F, RepDs w ds vs F ∧ Match ρ g q F
  | ms, ns, [], ds, q, vs, h, r => by
    simp only [GatA] at h; simp only [RepVs] at r; obtain ⟨rfl, rfl⟩ := h; subst r
    exact ⟨[], by simp [RepDs], .nil⟩
  | ms, ns, c :: cs, ds, q, vs, h, r => by
    simp only [GatA] at h
    obtain ⟨d, l, q1, q2, rfl, rfl, h1, h2⟩ := h
    simp only [RepVs] at r
    obtain ⟨u, us, rfl, r1, r2⟩ := r
    obtain ⟨F1, k1, m1⟩ := Gat.rep I _ c h1 r1
    obtain ⟨F2, k2, m2⟩ := GatA.rep I ms.tail ns.tail cs h2 r2
    exact ⟨F1 ++ F2, by simp only [RepDs]; exact ⟨_, _, _, _, rfl, rfl, k1, k2⟩, m1.append m2⟩
theorem Match.sep (I : HeapOk ρ g w) : ∀ {q : Met} {F : Feet}, Match ρ g q F → sepIds q = true → Sep F := by
  intro q F h
  unfold Match at h
  unfold Sep
  induction h with
  | nil => intro _; exact .nil
  | @cons x A q F h1 h2 ih =>
    obtain ⟨i, b⟩ := x
    intro hs
    simp only [sepIds, Bool.and_eq_true, List.all_eq_true] at hs
    refine .cons ?_ (ih hs.2)
    have key : ∀ (q' : Met) (F' : Feet), All2 (fun (x : Nat × Bool) A => A.1 = x.2 ∧ (x.2 = true → (g x.1).own = true) ∧ ∃ p, ρ x.1 = some p ∧ g x.1 ≠ .dead ∧ (∀ b off, A.2 b off → foot p (g x.1) b off ∨ inn p (g x.1) b off) ∧ (x.2 = true → ∀ b off, A.2 b off → foot p (g x.1) b off)) q' F' →
        (∀ y ∈ q', (!Nat.beq y.1 i || !(b || y.2)) = true) → ∀ B ∈ F', A.1 = true ∨ B.1 = true → Apart A.2 B.2 := by
      intro q' F' hq
      induction hq with
      | nil => intro _ B hB; cases hB
      | @cons y B q' F' k1 k2 ih2 =>
        intro hall C hC hor
        rcases List.mem_cons.1 hC with rfl | hC
        · obtain ⟨e1, o1, p1, hp1, d1, f1, g1⟩ := h1
          obtain ⟨e2, o2, p2, hp2, d2, f2, g2⟩ := k1
          have hne : y.1 ≠ i := by
            have := hall y (by simp)
            intro he
            subst he
            rw [e1, e2] at hor
            simp only [Nat.beq_refl, Bool.not_true, Bool.false_or, Bool.not_eq_true', Bool.or_eq_false_iff] at this
            simp only [this] at hor
            simp at hor
          intro bb off ha hb
          rcases hor with ho | ho
          · rcases f2 _ _ hb with hb | hb
            · exact I.sep i y.1 p1 p2 (Ne.symm hne) hp1 hp2 (o1 (e1 ▸ ho)) bb off (g1 (e1 ▸ ho) _ _ ha) hb
            · exact I.inn i y.1 p1 p2 hp1 hp2 (o1 (e1 ▸ ho)) bb off (g1 (e1 ▸ ho) _ _ ha) hb
          · rcases f1 _ _ ha with ha | ha
            · exact I.sep y.1 i p2 p1 hne hp2 hp1 (o2 (e2 ▸ ho)) bb off (g2 (e2 ▸ ho) _ _ hb) ha
            · exact I.inn y.1 i p2 p1 hp2 hp1 (o2 (e2 ▸ ho)) bb off (g2 (e2 ▸ ho) _ _ hb) ha
        · exact ih2 (fun z hz => hall z (by simp [hz])) C hC hor
    exact key q F h2 hs.1
end
end Go.Ev
namespace Go.Ev
set_option linter.unusedSimpArgs false
set_option linter.unusedVariables false
set_option linter.unnecessarySimpa false
open Go Go.RowKit
mutual
def Ro (w w' : World) : D → Value → Prop
  | .ptr _ l, v => ∀ x, v = .pointer (some x) → ∀ (j : Nat) nil a, l[j]? = some (.arr false nil a) → w'.cell? (x.add j) = w.cell? (x.add j)
  | .fn _ l, v => ∀ f ps vs, v = .func f ps vs → Ros w w' l vs.toList
  | .agg l, v => ∀ vs, v = .agg vs → Ros w w' l vs.toList
  | _, _ => True
def Ros (w w' : World) : List D → List Value → Prop
  | [], _ => True
  | d :: ds, vs => ∀ u us, vs = u :: us → Ro w w' d u ∧ Ros w w' ds us
end
def retVal (outs : List Value) : Value := match outs with
  | [v] => v
  | vs => .tuple vs.toArray
def Post (P : Program) (fn : Func) (ms : List Bool) (ds rs : List D) (args : List Value) (F : Feet) (w : World) (e : Ending) (w' : World) : Prop :=
  ∃ outs F', e = .returned (retVal outs) ∧ outs.length = fn.resultTypes.size ∧ RepDs w' rs (outs ++ muts ms args) F' ∧ Sep F' ∧ Fr (ownOf F) w w' ∧ (∀ b off, ownOf F' b off → ownOf F b off ∨ w.heap.size ≤ b) ∧
    okTs P fn.resultTypes.toList rs = true ∧ alikes (muts ms ds) (rs.drop fn.resultTypes.size) = true ∧ Ros w w' (muts ms ds) (muts ms args)
def Contract (P : Program) (f : Nat) (ms : List Bool) (ds rs : List D) : Prop :=
  ∃ fn, P.funcs[f]? = some fn ∧ fn.body.isSome = true ∧ ∀ (w : World) (args : Array Value) (F : Feet), RepDs w ds args.toList F → Sep F → Calls P f args w (Post P fn ms ds rs args.toList F w)

def ownL (q : Met) : List Nat := (q.filter (·.2)).map (·.1)
theorem ownL_append (q q' : Met) : ownL (q ++ q') = ownL q ++ ownL q' := by simp [ownL]
theorem mem_ownL {q : Met} {id : Nat} : id ∈ ownL q ↔ (id, true) ∈ q := by
  simp only [ownL, List.mem_map, List.mem_filter]
  constructor
  · rintro ⟨⟨a, b⟩, ⟨h, hb⟩, rfl⟩; simp only at hb; subst hb; exact h
  · intro h; exact ⟨_, ⟨h, rfl⟩, rfl⟩
theorem sepIds_append : ∀ {q q' : Met}, sepIds (q ++ q') = true → sepIds q = true ∧ sepIds q' = true ∧ ∀ x ∈ q, ∀ y ∈ q', (x.2 = true ∨ y.2 = true) → y.1 ≠ x.1
  | [], q', h => ⟨rfl, h, fun x hx => by cases hx⟩
  | (i, b) :: q, q', h => by
    simp only [List.cons_append, sepIds, Bool.and_eq_true, List.all_eq_true, List.mem_append] at h
    obtain ⟨h1, h2, h3⟩ := sepIds_append h.2
    refine ⟨?_, h2, ?_⟩
    · simp only [sepIds, Bool.and_eq_true, List.all_eq_true]
      exact ⟨fun y hy => h.1 y (.inl hy), h1⟩
    · intro x hx y hy hor
      rcases List.mem_cons.1 hx with rfl | hx
      · have := h.1 y (.inr hy)
        intro he
        subst he
        simp only at hor
        rw [Nat.beq_refl] at this
        simp only [Bool.not_true, Bool.false_or, Bool.not_eq_true', Bool.or_eq_false_iff] at this
        rw [this.1, this.2] at hor
        simp at hor
      · exact h3 x hx y hy hor
theorem sepIds_nodup : ∀ {q : Met}, sepIds q = true → (ownL q).Nodup
  | [], _ => by simp [ownL]
  | (i, b) :: q, h => by
    obtain ⟨h1, h2, h3⟩ := sepIds_append (q := [(i, b)]) (q' := q) h
    have := sepIds_nodup h2
    cases b with
    | false => simpa [ownL] using this
    | true =>
      simp only [ownL, List.filter_cons, if_true, List.map_cons, List.nodup_cons]
      refine ⟨fun hm => ?_, this⟩
      have hm' : i ∈ ownL q := hm
      rw [mem_ownL] at hm'
      exact h3 (i, true) (by simp) (i, true) hm' (.inl rfl) rfl

/-! the gathered depends on what was met alone -/
mutual
theorem Gat0.congr {g g' : Hp} {m : Bool} : ∀ (c : AV) {d : D} {q : Met}, Gat0 g m c d q → (∀ x ∈ q, g' x.1 = g x.1) → Gat0 g' m c d q
  | .int _ _, d, q, h, e => by simpa only [Gat0] using h
  | .bool _, d, q, h, e => by simpa only [Gat0] using h
  | .str _, d, q, h, e => by simpa only [Gat0] using h
  | .un, d, q, h, e => by simp only [Gat0] at h
  | .nils, d, q, h, e => by simp only [Gat0] at h
  | .ptr _ _ _, d, q, h, e => by simp only [Gat0] at h
  | .tup _, d, q, h, e => by simp only [Gat0] at h
  | .sl id none, d, q, h, e => by
    simp only [Gat0] at h ⊢
    rcases h with ⟨own, nil, a, hg, hd, rfl⟩ | ⟨own, nil, z, ll, hg, hm, hd, rfl⟩
    · exact .inl ⟨own, nil, a, by rw [e (id, m && own) (by simp)]; exact hg, hd, rfl⟩
    · exact .inr ⟨own, nil, z, ll, by rw [e (id, false) (by simp)]; exact hg, hm, hd, rfl⟩
  | .sl id (some (o, n)), d, q, h, e => by
    simp only [Gat0] at h ⊢
    obtain ⟨own, nil, a, hg, hm, hd, rfl⟩ := h
    exact ⟨own, nil, a, by rw [e (id, false) (by simp)]; exact hg, hm, hd, rfl⟩
  | .agg cs, d, q, h, e => by
    simp only [Gat0] at h ⊢
    obtain ⟨l, hd, h⟩ := h
    exact ⟨l, hd, Gats0.congr cs h e⟩
  | .fn f cs, d, q, h, e => by
    simp only [Gat0] at h ⊢
    obtain ⟨l, hd, h⟩ := h
    exact ⟨l, hd, Gats0.congr cs h e⟩
theorem Gats0.congr {g g' : Hp} {m : Bool} : ∀ (cs : List AV) {ds : List D} {q : Met}, Gats0 g m cs ds q → (∀ x ∈ q, g' x.1 = g x.1) → Gats0 g' m cs ds q
  | [], ds, q, h, e => by simpa only [Gats0] using h
  | c :: cs, ds, q, h, e => by
    simp only [Gats0] at h ⊢
    obtain ⟨d, l, q1, q2, hd, rfl, h1, h2⟩ := h
    exact ⟨d, l, q1, q2, hd, rfl, Gat0.congr c h1 fun x hx => e x (by simp [hx]), Gats0.congr cs h2 fun x hx => e x (by simp [hx])⟩
end
mutual
theorem Gat.congr {g g' : Hp} {m : Bool} : ∀ (n : Option Nat) (c : AV) {d : D} {q : Met}, Gat g m n c d q → (∀ x ∈ q, g' x.1 = g x.1) → Gat g' m n c d q
  | n, .int _ _, d, q, h, e => by simpa only [Gat, Gat0] using h
  | n, .bool _, d, q, h, e => by simpa only [Gat, Gat0] using h
  | n, .str _, d, q, h, e => by simpa only [Gat, Gat0] using h
  | n, .un, d, q, h, e => by simpa only [Gat, Gat0] using h
  | n, .nils, d, q, h, e => by simpa only [Gat, Gat0] using h
  | n, .tup _, d, q, h, e => by simpa only [Gat, Gat0] using h
  | n, .sl id wn, d, q, h, e => by simp only [Gat] at h ⊢; exact Gat0.congr _ h e
  | n, .ptr id i o, d, q, h, e => by
    simp only [Gat] at h ⊢
    obtain ⟨own, cs, l, q1, hi, hg, hm, h1, hd, rfl⟩ := h
    exact ⟨own, cs, l, q1, hi, by rw [e (id, m && own) (by simp)]; exact hg, hm, Gats0.congr _ h1 fun x hx => e x (by simp [hx]), hd, rfl⟩
  | n, .agg cs, d, q, h, e => by
    simp only [Gat] at h ⊢
    obtain ⟨l, hd, h⟩ := h
    exact ⟨l, hd, Gats.congr cs h e⟩
  | n, .fn f cs, d, q, h, e => by
    simp only [Gat] at h ⊢
    obtain ⟨l, hd, h⟩ := h
    exact ⟨l, hd, Gats.congr cs h e⟩
theorem Gats.congr {g g' : Hp} {m : Bool} : ∀ (cs : List AV) {ds : List D} {q : Met}, Gats g m cs ds q → (∀ x ∈ q, g' x.1 = g x.1) → Gats g' m cs ds q
  | [], ds, q, h, e => by simpa only [Gats] using h
  | c :: cs, ds, q, h, e => by
    simp only [Gats] at h ⊢
    obtain ⟨d, l, q1, q2, hd, rfl, h1, h2⟩ := h
    exact ⟨d, l, q1, q2, hd, rfl, Gat.congr none c h1 fun x hx => e x (by simp [hx]), Gats.congr cs h2 fun x hx => e x (by simp [hx])⟩
end
theorem GatA.congr {g g' : Hp} : ∀ (ms : List Bool) (ns : List (Option Nat)) (cs : List AV) {ds : List D} {q : Met}, GatA g ms ns cs ds q → (∀ x ∈ q, g' x.1 = g x.1) → GatA g' ms ns cs ds q
  | ms, ns, [], ds, q, h, e => by simpa only [GatA] using h
  | ms, ns, c :: cs, ds, q, h, e => by
    simp only [GatA] at h ⊢
    obtain ⟨d, l, q1, q2, hd, rfl, h1, h2⟩ := h
    exact ⟨d, l, q1, q2, hd, rfl, Gat.congr _ c h1 fun x hx => e x (by simp [hx]), GatA.congr _ _ cs h2 fun x hx => e x (by simp [hx])⟩

theorem Arr.kin_like {a a' : Arr} {o nil : Bool} (h : a.kin a' = true) : a.like (.arr o nil a') = a' ∧ a.size = a'.size := by
  cases a <;> cases a' <;> simp_all [Arr.kin, Arr.like, Arr.size, D.ints, D.bools, D.strs, D.r3, D.r4]

section
variable {cal : Nat → List D → Option (List D)} {α : Type} {u : α} {w0 : World} {M : Nat → Nat → Prop} {w w' : World}
def Onto (cal : Nat → List D → Option (List D)) {α : Type} (K : Prog α) (S1 S2 : List Nat) (F2 : Feet) (Y : Env → Prop) (l : List Ac) (u : α) (w0 : World) (M : Nat → Nat → Prop) (ρ : Env) (g : Hp) (w' : World) : Prop :=
  ∃ l' g' ρ', Sit0 cal K l' u ρ' g' ∧ Pend false w0 M ρ' g' S2 F2 w' ∧ Sub ρ ρ' ∧ (∀ id, ρ id ≠ none → id ∉ S1 → g' id = g id) ∧ Y ρ' ∧ ∀ X, Fin w0 M l' g' ρ' w' X → Fin w0 M l g ρ w' X
theorem Onto.here {K : Prog α} {S1 S2 : List Nat} {F2 : Feet} {Y : Env → Prop} {l : List Ac} {ρ : Env} {g : Hp} (S : Sit0 cal K l u ρ g) (p : Pend false w0 M ρ g S2 F2 w') (y : Y ρ) : Onto cal K S1 S2 F2 Y l u w0 M ρ g w' :=
  ⟨l, g, ρ, S, p, Sub.refl ρ, fun _ _ _ => rfl, y, fun _ h => h⟩
theorem Sub.ne {ρ ρ' : Env} (h : Sub ρ ρ') {id : Nat} (hn : ρ id ≠ none) : ρ' id ≠ none := by
  cases hr : ρ id with
  | none => exact absurd hr hn
  | some p => rw [h id p hr]; simp
theorem scatC_ok {c : AV} {d0 d : D} {q : Met} {v : Value} {F1 F : Feet} {S : List Nat} {K : AV → Prog α} {l : List Ac} {ρ : Env} {g : Hp} (hg : Gat0 g true c d0 q) (ha : alike d0 d = true) (hr : RepD w' d v F1)
    (hro : ∀ nil a, d0 = .arr false nil a → RepV ρ c v) (hp : Pend false w0 M ρ g (ownL q ++ S) (F1 ++ F) w') (hS : Sit0 cal (scatC c d K) l u ρ g) :
    ∃ c', Onto cal (K c') (ownL q) S F (fun ρ' => RepV ρ' c' v) l u w0 M ρ g w' := by
  unfold scatC at hS
  split at hS
  · rename_i k n
    simp only [Gat0] at hg
    obtain ⟨rfl, rfl⟩ := hg
    cases d <;> simp only [alike, Bool.false_eq_true] at ha
    rename_i k' n'
    have hk : k = k' := by simpa using ha
    subst hk
    simp only [RepD] at hr
    obtain ⟨rfl, rfl⟩ := hr
    exact ⟨_, Onto.here hS hp (by simp [RepV, D.toInt])⟩
  · simp only [Gat0] at hg
    obtain ⟨rfl, rfl⟩ := hg
    cases d <;> simp only [alike, Bool.false_eq_true] at ha
    simp only [RepD] at hr
    obtain ⟨rfl, rfl⟩ := hr
    exact ⟨_, Onto.here hS hp (by simp [RepV, D.toBool])⟩
  · simp only [Gat0] at hg
    obtain ⟨rfl, rfl⟩ := hg
    cases d <;> simp only [alike, Bool.false_eq_true] at ha
    simp only [RepD] at hr
    obtain ⟨rfl, rfl⟩ := hr
    exact ⟨_, Onto.here hS hp (by simp [RepV, D.toStr])⟩
  · rename_i id
    simp only [Gat0] at hg
    obtain ⟨own, nil, a, hge, rfl, rfl⟩ | ⟨_, _, _, _, _, ⟨⟩, _⟩ := hg
    cases d <;> simp only [alike, Bool.false_eq_true] at ha
    rename_i o' nil' a'
    simp only [Bool.true_and, Bool.and_eq_true, beq_iff_eq] at ha
    obtain ⟨rfl, hk⟩ := ha
    obtain ⟨hlike, hsz⟩ := Arr.kin_like (o := own) (nil := nil') hk
    simp only [RepD] at hr
    obtain ⟨p, rfl, hre, rfl⟩ := hr
    have S0 := hS.rd; clear hS; obtain ⟨l1, rfl, hS⟩ := S0
    rw [hge] at hS
    cases own with
    | false =>
      simp only at hS
      refine ⟨_, _, g, ρ, hS, ?_, Sub.refl ρ, fun _ _ _ => rfl, hro nil a (by simp), fun X h => h.rd⟩
      exact Pend.skip (F1 := [(false, foot p (.arr false nil' a'))]) (by simpa [ownL] using hp)
    | true =>
      simp only at hS
      have S0 := hS.wr; clear hS; obtain ⟨l2, rfl, hd, hS⟩ := S0
      have S0 := hS.new; clear hS; obtain ⟨id', l3, rfl, hid', hd', hS⟩ := S0
      have hp1 : Pend false w0 M ρ g (id :: S) ((true, foot p (.arr true nil' a')) :: F) w' := by simpa [ownL] using hp
      have hp2 := hp1.dead.new (id := id') (p := p) (e := .arr true nil' a') hid' hre rfl (.inr rfl) (fun _ _ h => h)
      refine ⟨_, l3, _, _, hS p, ?_, sub_updρ hid', fun i hi hn => ?_, ?_, fun X h => ((Fin.new hid' h).wr).rd⟩
      · simpa [D.nil, hlike] using hp2
      · have h1 : i ≠ id' := by rintro rfl; exact hi hid'
        have h2 : i ≠ id := by rintro rfl; exact hn (by simp [ownL])
        rw [upd_other _ _ h1, upd_other _ _ h2]
      · simp only [RepV]; exact ⟨p, updρ_same _ _ _, rfl⟩
  · exact hS.fail
theorem scatCs_ok : ∀ (cs : List AV) {d0 ds : List D} {d : D} {j : Nat} {q : Met} {vs : List Value} {F1 F : Feet} {S : List Nat} {K : List AV → Prog α} {l : List Ac} {ρ : Env} {g : Hp}, Gats0 g true cs d0 q → alikes d0 ds = true →
    (∀ i, d.cell (j + i) = ds.getD i (.bool false)) → RepDs w' ds vs F1 → (∀ (i : Nat) c v nil a, cs[i]? = some c → vs[i]? = some v → d0[i]? = some (.arr false nil a) → RepV ρ c v) →
    sepIds q = true → (∀ x ∈ q, ρ x.1 ≠ none) → Pend false w0 M ρ g (ownL q ++ S) (F1 ++ F) w' → Sit0 cal (scatCs cs d j K) l u ρ g →
    ∃ cs', Onto cal (K cs') (ownL q) S F (fun ρ' => RepVs ρ' cs' vs) l u w0 M ρ g w'
  | [], d0, ds, d, j, q, vs, F1, F, S, K, l, ρ, g, hg, ha, hc, hr, hro, hs, hk, hp, hS => by
    simp only [Gats0] at hg
    obtain ⟨rfl, rfl⟩ := hg
    cases ds with
    | cons _ _ => simp [alikes] at ha
    | nil =>
      simp only [RepDs] at hr
      obtain ⟨rfl, rfl⟩ := hr
      exact ⟨[], Onto.here (by simpa only [scatCs] using hS) hp (by simp [RepVs])⟩
  | c :: cs, d0, ds, d, j, q, vs, F1, F, S, K, l, ρ, g, hg, ha, hc, hr, hro, hs, hk, hp, hS => by
    simp only [Gats0] at hg
    obtain ⟨e0, l0, q1, q2, rfl, rfl, hg1, hg2⟩ := hg
    cases ds with
    | nil => simp [alikes] at ha
    | cons e ds =>
      simp only [alikes, Bool.and_eq_true] at ha
      simp only [RepDs] at hr
      obtain ⟨x, us, G1, G2, rfl, rfl, hr1, hr2⟩ := hr
      simp only [scatCs] at hS
      have hce : d.cell j = e := by simpa using hc 0
      rw [hce] at hS
      obtain ⟨hs1, hs2, hs3⟩ := sepIds_append hs
      obtain ⟨c', l1, g1, ρ1, S1, p1, sub1, same1, y1, fin1⟩ := scatC_ok (S := ownL q2 ++ S) (F := G2 ++ F) hg1 ha.1 hr1 (fun nil a h0 => hro 0 c x nil a (by simp) (by simp) (by simp [h0])) (by simpa [ownL_append] using hp) hS
      have hg2' : Gats0 g1 true cs l0 q2 := Gats0.congr cs hg2 fun y hy => same1 y.1 (hk y (by simp [hy])) fun hm => hs3 _ (mem_ownL.1 hm) y hy (.inl rfl) rfl
      obtain ⟨cs', l2, g2, ρ2, S2, p2, sub2, same2, y2, fin2⟩ := scatCs_ok cs (d := d) (j := j + 1) (F := F) hg2' ha.2 (fun i => by have := hc (i + 1); rw [show j + 1 + i = j + (i + 1) by omega, this]; simp) hr2
        (fun i c v nil a h1 h2 h3 => (hro (i + 1) c v nil a (by simpa using h1) (by simpa using h2) (by simpa using h3)).mono sub1 _ _) hs2 (fun y hy => sub1.ne (hk y (by simp [hy]))) p1 S1
      refine ⟨c' :: cs', l2, g2, ρ2, S2, p2, sub1.trans sub2, fun i hi hn => ?_, RepVs.cons (y1.mono sub2 _ _) y2, fun X h => fin1 X (fin2 X h)⟩
      rw [ownL_append, List.mem_append, not_or] at hn
      rw [same2 i (sub1.ne hi) hn.2, same1 i hi hn.1]
/-- what was met stood for what lay there before the call -/
def Old (ρ : Env) (g : Hp) (q : Met) (w : World) : Prop := ∀ x ∈ q, ∃ p, ρ x.1 = some p ∧ RepE ρ w p (g x.1)
theorem Old.ne {ρ : Env} {g : Hp} {q : Met} (h : Old ρ g q w) : ∀ x ∈ q, ρ x.1 ≠ none := fun x hx => by
  obtain ⟨p, hp, _⟩ := h x hx
  rw [hp]; simp
theorem Gats0.get {g : Hp} {m : Bool} : ∀ {cs : List AV} {ds : List D} {q : Met}, Gats0 g m cs ds q → ∀ {i : Nat} {d : D}, ds[i]? = some d → ∃ c q', cs[i]? = some c ∧ Gat0 g m c d q'
  | [], ds, q, h, i, d, e => by simp only [Gats0] at h; rw [h.1] at e; simp at e
  | c :: cs, ds, q, h, i, d, e => by
    simp only [Gats0] at h
    obtain ⟨d', l, q1, q2, rfl, rfl, h1, h2⟩ := h
    cases i with
    | zero => simp at e; subst e; exact ⟨c, q1, by simp, h1⟩
    | succ i => simp at e; obtain ⟨c', q', h3, h4⟩ := h2.get e; exact ⟨c', q', by simpa using h3, h4⟩
mutual
theorem scat_ok : ∀ (c : AV) {n : Option Nat} {d0 d : D} {q : Met} {v : Value} {F1 F : Feet} {S : List Nat} {K : Prog α} {l : List Ac} {ρ : Env} {g : Hp}, Gat g true n c d0 q → alike d0 d = true → RepD w' d v F1 → Ro w w' d0 v → RepV ρ c v →
    sepIds q = true → Old ρ g q w → Pend false w0 M ρ g (ownL q ++ S) (F1 ++ F) w' → Sit0 cal (scat c d K) l u ρ g →
    Onto cal K (ownL q) S F (fun _ => True) l u w0 M ρ g w'
  | .int k x, n, d0, d, q, v, F1, F, S, K, l, ρ, g, hg, ha, hr, hro, hv, hs, ho, hp, hS => by
    simp only [Gat, Gat0] at hg
    obtain ⟨rfl, rfl⟩ := hg
    cases d <;> simp only [alike, Bool.false_eq_true] at ha
    simp only [RepD] at hr
    obtain ⟨rfl, rfl⟩ := hr
    exact Onto.here (by simpa only [scat] using hS) hp trivial
  | .bool x, n, d0, d, q, v, F1, F, S, K, l, ρ, g, hg, ha, hr, hro, hv, hs, ho, hp, hS => by
    simp only [Gat, Gat0] at hg
    obtain ⟨rfl, rfl⟩ := hg
    cases d <;> simp only [alike, Bool.false_eq_true] at ha
    simp only [RepD] at hr
    obtain ⟨rfl, rfl⟩ := hr
    exact Onto.here (by simpa only [scat] using hS) hp trivial
  | .str x, n, d0, d, q, v, F1, F, S, K, l, ρ, g, hg, ha, hr, hro, hv, hs, ho, hp, hS => by
    simp only [Gat, Gat0] at hg
    obtain ⟨rfl, rfl⟩ := hg
    cases d <;> simp only [alike, Bool.false_eq_true] at ha
    simp only [RepD] at hr
    obtain ⟨rfl, rfl⟩ := hr
    exact Onto.here (by simpa only [scat] using hS) hp trivial
  | .un, n, d0, d, q, v, F1, F, S, K, l, ρ, g, hg, ha, hr, hro, hv, hs, ho, hp, hS => by simp only [Gat, Gat0] at hg
  | .nils, n, d0, d, q, v, F1, F, S, K, l, ρ, g, hg, ha, hr, hro, hv, hs, ho, hp, hS => by simp only [Gat, Gat0] at hg
  | .tup _, n, d0, d, q, v, F1, F, S, K, l, ρ, g, hg, ha, hr, hro, hv, hs, ho, hp, hS => by simp only [Gat, Gat0] at hg
  | .sl id (some _), n, d0, d, q, v, F1, F, S, K, l, ρ, g, hg, ha, hr, hro, hv, hs, ho, hp, hS => by simp only [scat] at hS; exact hS.fail
  | .agg cs, n, d0, d, q, v, F1, F, S, K, l, ρ, g, hg, ha, hr, hro, hv, hs, ho, hp, hS => by
    simp only [Gat] at hg
    obtain ⟨l0, rfl, hg⟩ := hg
    cases d <;> simp only [alike, Bool.false_eq_true] at ha
    rename_i l'
    simp only [RepD] at hr
    obtain ⟨vs, rfl, hr⟩ := hr
    simp only [RepV] at hv
    obtain ⟨vs2, hvv, hv⟩ := hv
    simp only [Value.agg.injEq] at hvv
    subst hvv
    simp only [Ro] at hro
    simp only [scat] at hS
    exact scats_ok cs (d := .agg l') (j := 0) hg ha (fun i => by simp [D.cell]) hr (hro _ rfl) hv hs ho hp hS
  | .sl id none, n, d0, d, q, v, F1, F, S, K, l, ρ, g, hg, ha, hr, hro, hv, hs, ho, hp, hS => by
    simp only [Gat, Gat0] at hg
    obtain ⟨own, nil, a, hge, rfl, rfl⟩ | ⟨_, _, _, _, _, ⟨⟩, _⟩ := hg
    cases d <;> simp only [alike, Bool.false_eq_true] at ha
    rename_i o' nil' a'
    simp only [Bool.true_and, Bool.and_eq_true, beq_iff_eq] at ha
    obtain ⟨rfl, hk⟩ := ha
    obtain ⟨hlike, hsz⟩ := Arr.kin_like (o := own) (nil := nil') hk
    simp only [RepD] at hr
    obtain ⟨p', hv', hre, rfl⟩ := hr
    simp only [RepV, RepSl] at hv
    obtain ⟨p, hpp, hvv⟩ := hv
    simp only [scat] at hS
    have S0 := hS.rd; clear hS; obtain ⟨l1, rfl, hS⟩ := S0
    rw [hge] at hS
    cases own with
    | false =>
      simp only at hS
      exact ⟨_, g, ρ, hS, Pend.skip (F1 := [(false, foot p' (.arr false nil' a'))]) (by simpa [ownL] using hp), Sub.refl ρ, fun _ _ _ => rfl, trivial, fun X h => h.rd⟩
    | true =>
      simp only at hS
      have S0 := hS.wr; clear hS; obtain ⟨l2, rfl, hd, hS⟩ := S0
      obtain ⟨p2, hp2, hold⟩ := ho (id, true && true) (by simp)
      rw [hpp] at hp2; cases hp2
      rw [hge] at hold
      obtain ⟨pb, pl, pc, ps, pi⟩ := p
      obtain ⟨pb', pl', pc', ps', pi'⟩ := p'
      rw [hvv] at hv'
      simp only [Value.slice.injEq] at hv'
      obtain ⟨rfl, rfl, rfl⟩ := hv'
      have e1 : a.size = ps := hold.2.1
      have e2 : a'.size = ps' := hre.2.1
      have e3 : ps' = ps := by rw [← e1, ← e2, hsz]
      subst e3
      have hnn : nil = nil' := by
        have h1 := hold.2.2.1
        have h2 := hre.2.2.1
        have := h1.trans h2.symm
        cases nil <;> cases nil' <;> simp_all
      subst hnn
      have hp1 : Pend false w0 M ρ g (id :: S) ((true, foot ⟨pb, pl, pc, ps', pi'⟩ (.arr true nil a')) :: F) w' := by simpa [ownL] using hp
      refine ⟨l2, _, ρ, hS, ?_, Sub.refl ρ, fun i hi hn => ?_, trivial, fun X h => h.wr.rd⟩
      · rw [hlike]
        exact hp1.back hpp hre rfl (.inr rfl) (fun _ _ h => h)
      · have h2 : i ≠ id := by rintro rfl; exact hn (by simp [ownL])
        rw [upd_other _ _ h2]
  | .ptr id i o, n, d0, d, q, v, F1, F, S, K, l, ρ, g, hg, ha, hr, hro, hv, hs, ho, hp, hS => by
    simp only [Gat] at hg
    obtain ⟨own, cs, l0, q1, rfl, hge, hm, hg1, rfl, rfl⟩ := hg
    obtain ⟨rfl, hn⟩ := hm trivial
    rw [List.drop_zero, List.take_of_length_le hn] at hg1
    cases d <;> simp only [alike, Bool.false_eq_true] at ha
    rename_i o' l'
    simp only [Bool.true_and, Bool.and_eq_true, beq_iff_eq] at ha
    obtain ⟨rfl, hk⟩ := ha
    simp only [RepD] at hr
    obtain ⟨x, vs, F', rfl, hx, hr, hc, ht, rfl⟩ := hr
    simp only [scat] at hS
    have S0 := hS.rd; clear hS; obtain ⟨l1, rfl, hS⟩ := S0
    rw [hge] at hS
    cases own with
    | false => exact hS.fail
    | true =>
      simp only at hS
      obtain ⟨p, hpp, hold⟩ := ho (id, true && true) (by simp)
      rw [hge] at hold
      obtain ⟨k1, y, vs0, k2, k3, k4, k5, k6⟩ := hold
      simp only [RepV] at hv
      obtain ⟨p2, y2, hp2, hb2, hi, hvv⟩ := hv
      rw [hpp] at hp2; cases hp2
      rw [k2] at hb2; cases hb2
      simp only [Nat.zero_mul, Nat.add_zero, addr_add_zero, Value.pointer.injEq, Option.some.injEq] at hvv
      subst hvv
      obtain ⟨hs1, hs2, hs3⟩ := sepIds_append hs
      have hlen : vs.length = l'.length := hr.length
      obtain ⟨cs', l2, g2, ρ2, S2, p2, sub2, same2, y2, fin2⟩ := scatCs_ok cs (d := .ptr true l') (j := 0) (S := id :: S) (F := (true, boxFoot x l'.length) :: F) hg1 hk (fun i => by simp [D.cell]) hr
        (fun i c v nil a h1 h2 h3 => by
          simp only [Ro] at hro
          have hcell := hro x rfl i nil a h3
          rw [hc i v h2] at hcell
          obtain ⟨u0, hu0, hcu⟩ := k4.get? h1
          rw [k5 i u0 hu0] at hcell
          cases hcell
          exact hcu) hs1 (fun y hy => ho.ne y (by simp [hy])) (by simpa [ownL_append, ownL] using hp) hS
      have S0 := S2.wr; clear S2; obtain ⟨l3, rfl, hd, hS3⟩ := S0
      have hl2 : cs'.length = l'.length := by rw [← y2.length, hlen]
      refine ⟨l3, _, ρ2, hS3, p2.back (sub2 _ _ hpp) ⟨k1, x, vs, k2, hx, y2, hc, ht⟩ rfl (.inr rfl) (fun b off hf => by rw [foot_box k2, hl2] at hf; exact hf), sub2, fun i hi hn => ?_, trivial, fun X h => (fin2 X h.wr).rd⟩
      simp only [ownL_append, List.mem_append, not_or] at hn
      have h2 : i ≠ id := by rintro rfl; exact hn.2 (by simp [ownL])
      rw [upd_other _ _ h2, same2 i hi hn.1]
  | .fn f cs, n, d0, d, q, v, F1, F, S, K, l, ρ, g, hg, ha, hr, hro, hv, hs, ho, hp, hS => by
    simp only [Gat] at hg
    obtain ⟨l0, rfl, hg⟩ := hg
    cases d <;> simp only [alike, Bool.false_eq_true] at ha
    rename_i f' l'
    simp only [Bool.and_eq_true] at ha
    simp only [RepD] at hr
    obtain ⟨vs, rfl, hr⟩ := hr
    simp only [RepV] at hv
    obtain ⟨vs2, hvv, hv⟩ := hv
    simp only [Value.func.injEq, true_and] at hvv
    obtain ⟨_, rfl⟩ := hvv
    simp only [Ro] at hro
    simp only [scat] at hS
    exact scats_ok cs (d := .fn f' l') (j := 0) hg ha.2 (fun i => by simp [D.cell]) hr (hro _ _ _ rfl) hv hs ho hp hS
theorem scats_ok : ∀ (cs : List AV) {d0 ds : List D} {d : D} {j : Nat} {q : Met} {vs : List Value} {F1 F : Feet} {S : List Nat} {K : Prog α} {l : List Ac} {ρ : Env} {g : Hp}, Gats g true cs d0 q → alikes d0 ds = true →
    (∀ i, d.cell (j + i) = ds.getD i (.bool false)) → RepDs w' ds vs F1 → Ros w w' d0 vs → RepVs ρ cs vs → sepIds q = true → Old ρ g q w → Pend false w0 M ρ g (ownL q ++ S) (F1 ++ F) w' → Sit0 cal (scats cs d j K) l u ρ g →
    Onto cal K (ownL q) S F (fun _ => True) l u w0 M ρ g w'
  | [], d0, ds, d, j, q, vs, F1, F, S, K, l, ρ, g, hg, ha, hc, hr, hro, hv, hs, ho, hp, hS => by
    simp only [Gats] at hg
    obtain ⟨rfl, rfl⟩ := hg
    cases ds with
    | cons _ _ => simp [alikes] at ha
    | nil =>
      simp only [RepDs] at hr
      obtain ⟨rfl, rfl⟩ := hr
      exact Onto.here (by simpa only [scats] using hS) hp trivial
  | c :: cs, d0, ds, d, j, q, vs, F1, F, S, K, l, ρ, g, hg, ha, hc, hr, hro, hv, hs, ho, hp, hS => by
    simp only [Gats] at hg
    obtain ⟨e0, l0, q1, q2, rfl, rfl, hg1, hg2⟩ := hg
    cases ds with
    | nil => simp [alikes] at ha
    | cons e ds =>
      simp only [alikes, Bool.and_eq_true] at ha
      simp only [RepDs] at hr
      obtain ⟨x, us, G1, G2, rfl, rfl, hr1, hr2⟩ := hr
      obtain ⟨hv1, hv2⟩ := hv.uncons
      simp only [Ros] at hro
      obtain ⟨ro1, ro2⟩ := hro x us rfl
      simp only [scats] at hS
      have hce : d.cell j = e := by simpa using hc 0
      rw [hce] at hS
      obtain ⟨hs1, hs2, hs3⟩ := sepIds_append hs
      obtain ⟨l1, g1, ρ1, S1, p1, sub1, same1, y1, fin1⟩ := scat_ok c (S := ownL q2 ++ S) (F := G2 ++ F) hg1 ha.1 hr1 ro1 hv1 hs1 (fun y hy => ho y (by simp [hy])) (by simpa [ownL_append] using hp) hS
      have hsm : ∀ y ∈ q2, g1 y.1 = g y.1 := fun y hy => same1 y.1 (ho.ne y (by simp [hy])) fun hm => hs3 _ (mem_ownL.1 hm) y hy (.inl rfl) rfl
      obtain ⟨l2, g2, ρ2, S2, p2, sub2, same2, y2, fin2⟩ := scats_ok cs (d := d) (j := j + 1) (F := F) (Gats.congr cs hg2 hsm) ha.2 (fun i => by have := hc (i + 1); rw [show j + 1 + i = j + (i + 1) by omega, this]; simp) hr2 ro2 (hv2.mono sub1 _ _) hs2
        (fun y hy => by obtain ⟨p, h1, h2⟩ := ho y (by simp [hy]); exact ⟨p, sub1 _ _ h1, by rw [hsm y hy]; exact h2.mono sub1⟩) p1 S1
      refine ⟨l2, g2, ρ2, S2, p2, sub1.trans sub2, fun i hi hn => ?_, trivial, fun X h => fin1 X (fin2 X h)⟩
      rw [ownL_append, List.mem_append, not_or] at hn
      rw [same2 i (sub1.ne hi) hn.2, same1 i hi hn.1]
end
end
end Go.Ev
namespace Go.Ev
set_option linter.unusedSimpArgs false
set_option linter.unusedVariables false
set_option linter.unnecessarySimpa false
open Go Go.RowKit
mutual
theorem Gat0.still {g : Hp} : ∀ (c : AV) {d : D} {q : Met}, Gat0 g false c d q → ownL q = []
  | .int _ _, d, q, h => by simp only [Gat0] at h; rw [h.2]; rfl
  | .bool _, d, q, h => by simp only [Gat0] at h; rw [h.2]; rfl
  | .str _, d, q, h => by simp only [Gat0] at h; rw [h.2]; rfl
  | .un, d, q, h => by simp only [Gat0] at h
  | .nils, d, q, h => by simp only [Gat0] at h
  | .ptr _ _ _, d, q, h => by simp only [Gat0] at h
  | .tup _, d, q, h => by simp only [Gat0] at h
  | .sl id none, d, q, h => by simp only [Gat0] at h; obtain ⟨_, _, _, _, _, rfl⟩ | ⟨_, _, _, _, _, _, _, rfl⟩ := h <;> rfl
  | .sl id (some (o, n)), d, q, h => by simp only [Gat0] at h; obtain ⟨_, _, _, _, _, _, rfl⟩ := h; rfl
  | .agg cs, d, q, h => by simp only [Gat0] at h; obtain ⟨_, _, h⟩ := h; exact Gats0.still cs h
  | .fn f cs, d, q, h => by simp only [Gat0] at h; obtain ⟨_, _, h⟩ := h; exact Gats0.still cs h
theorem Gats0.still {g : Hp} : ∀ (cs : List AV) {ds : List D} {q : Met}, Gats0 g false cs ds q → ownL q = []
  | [], ds, q, h => by simp only [Gats0] at h; rw [h.2]; rfl
  | c :: cs, ds, q, h => by
    simp only [Gats0] at h
    obtain ⟨d, l, q1, q2, hd, rfl, h1, h2⟩ := h
    rw [ownL_append, Gat0.still c h1, Gats0.still cs h2]; rfl
end
mutual
theorem Gat.still {g : Hp} : ∀ (n : Option Nat) (c : AV) {d : D} {q : Met}, Gat g false n c d q → ownL q = []
  | n, .int _ _, d, q, h => Gat0.still _ (by simpa only [Gat] using h)
  | n, .bool _, d, q, h => Gat0.still _ (by simpa only [Gat] using h)
  | n, .str _, d, q, h => Gat0.still _ (by simpa only [Gat] using h)
  | n, .un, d, q, h => Gat0.still _ (by simpa only [Gat] using h)
  | n, .nils, d, q, h => Gat0.still _ (by simpa only [Gat] using h)
  | n, .tup _, d, q, h => Gat0.still _ (by simpa only [Gat] using h)
  | n, .sl _ _, d, q, h => Gat0.still _ (by simpa only [Gat] using h)
  | n, .ptr id i o, d, q, h => by
    simp only [Gat] at h
    obtain ⟨own, cs, l, q1, hi, hg, hm, h1, hd, rfl⟩ := h
    rw [ownL_append, Gats0.still _ h1]; rfl
  | n, .agg cs, d, q, h => by simp only [Gat] at h; obtain ⟨_, _, h⟩ := h; exact Gats.still cs h
  | n, .fn f cs, d, q, h => by simp only [Gat] at h; obtain ⟨_, _, h⟩ := h; exact Gats.still cs h
theorem Gats.still {g : Hp} : ∀ (cs : List AV) {ds : List D} {q : Met}, Gats g false cs ds q → ownL q = []
  | [], ds, q, h => by simp only [Gats] at h; rw [h.2]; rfl
  | c :: cs, ds, q, h => by
    simp only [Gats] at h
    obtain ⟨d, l, q1, q2, hd, rfl, h1, h2⟩ := h
    rw [ownL_append, Gat.still none c h1, Gats.still cs h2]; rfl
end
section
variable {cal : Nat → List D → Option (List D)} {α : Type} {u : α} {w0 : World} {M : Nat → Nat → Prop} {w w' : World}
theorem dropV_own {g : Hp} {n : Option Nat} {id : Nat} {d : D} {q : Met} (h : Gat g true n (.sl id none) d q) : ∃ own nil a, g id = .arr own nil a ∧ q = [(id, own)] := by
  simp only [Gat, Gat0] at h
  obtain ⟨own, nil, a, hg, _, rfl⟩ | ⟨_, _, _, _, _, ⟨⟩, _⟩ := h
  exact ⟨own, nil, a, hg, by simp⟩
mutual
theorem dropV_ok : ∀ (c : AV) {n : Option Nat} {d0 : D} {q : Met} {F : Feet} {S : List Nat} {K : Prog α} {l : List Ac} {ρ : Env} {g : Hp}, Gat g true n c d0 q → sepIds q = true → (∀ x ∈ q, ρ x.1 ≠ none) → Pend false w0 M ρ g (ownL q ++ S) F w' → Sit0 cal (dropV c K) l u ρ g →
    Onto cal K (ownL q) S F (fun _ => True) l u w0 M ρ g w'
  | .int k x, n, d0, q, F, S, K, l, ρ, g, hg, hs, hk, hp, hS => by
    simp only [Gat, Gat0] at hg
    obtain ⟨rfl, rfl⟩ := hg
    exact Onto.here (by simpa only [dropV] using hS) hp trivial
  | .bool x, n, d0, q, F, S, K, l, ρ, g, hg, hs, hk, hp, hS => by
    simp only [Gat, Gat0] at hg
    obtain ⟨rfl, rfl⟩ := hg
    exact Onto.here (by simpa only [dropV] using hS) hp trivial
  | .str x, n, d0, q, F, S, K, l, ρ, g, hg, hs, hk, hp, hS => by
    simp only [Gat, Gat0] at hg
    obtain ⟨rfl, rfl⟩ := hg
    exact Onto.here (by simpa only [dropV] using hS) hp trivial
  | .un, n, d0, q, F, S, K, l, ρ, g, hg, hs, hk, hp, hS => by simp only [dropV] at hS; exact hS.fail
  | .nils, n, d0, q, F, S, K, l, ρ, g, hg, hs, hk, hp, hS => by simp only [dropV] at hS; exact hS.fail
  | .tup _, n, d0, q, F, S, K, l, ρ, g, hg, hs, hk, hp, hS => by simp only [dropV] at hS; exact hS.fail
  | .mp _, n, d0, q, F, S, K, l, ρ, g, hg, hs, hk, hp, hS => by simp only [dropV] at hS; exact hS.fail
  | .fn _ _, n, d0, q, F, S, K, l, ρ, g, hg, hs, hk, hp, hS => by simp only [dropV] at hS; exact hS.fail
  | .ptr _ _ _, n, d0, q, F, S, K, l, ρ, g, hg, hs, hk, hp, hS => by simp only [dropV] at hS; exact hS.fail
  | .sl id (some _), n, d0, q, F, S, K, l, ρ, g, hg, hs, hk, hp, hS => by simp only [dropV] at hS; exact hS.fail
  | .sl id none, n, d0, q, F, S, K, l, ρ, g, hg, hs, hk, hp, hS => by
    obtain ⟨own, nil, a, hge, rfl⟩ := dropV_own hg
    simp only [dropV] at hS
    have S0 := hS.rd; clear hS; obtain ⟨l1, rfl, hS⟩ := S0
    rw [hge] at hS
    cases own with
    | false =>
      simp only at hS
      exact ⟨_, g, ρ, hS, by simpa [ownL] using hp, Sub.refl ρ, fun _ _ _ => rfl, trivial, fun X h => h.rd⟩
    | true =>
      simp only at hS
      have S0 := hS.wr; clear hS; obtain ⟨l2, rfl, hd, hS⟩ := S0
      have hp1 : Pend false w0 M ρ g (id :: S) F w' := by simpa [ownL] using hp
      refine ⟨l2, _, ρ, hS, hp1.dead, Sub.refl ρ, fun i hi hn => ?_, trivial, fun X h => h.wr.rd⟩
      have h2 : i ≠ id := by rintro rfl; exact hn (by simp [ownL])
      rw [upd_other _ _ h2]
  | .agg cs, n, d0, q, F, S, K, l, ρ, g, hg, hs, hk, hp, hS => by
    simp only [Gat] at hg
    obtain ⟨l0, rfl, hg⟩ := hg
    simp only [dropV] at hS
    exact dropVs_ok cs hg hs hk hp hS
theorem dropVs_ok : ∀ (cs : List AV) {d0 : List D} {q : Met} {F : Feet} {S : List Nat} {K : Prog α} {l : List Ac} {ρ : Env} {g : Hp}, Gats g true cs d0 q → sepIds q = true → (∀ x ∈ q, ρ x.1 ≠ none) → Pend false w0 M ρ g (ownL q ++ S) F w' → Sit0 cal (dropVs cs K) l u ρ g →
    Onto cal K (ownL q) S F (fun _ => True) l u w0 M ρ g w'
  | [], d0, q, F, S, K, l, ρ, g, hg, hs, hk, hp, hS => by
    simp only [Gats] at hg
    obtain ⟨rfl, rfl⟩ := hg
    exact Onto.here (by simpa only [dropVs] using hS) hp trivial
  | c :: cs, d0, q, F, S, K, l, ρ, g, hg, hs, hk, hp, hS => by
    simp only [Gats] at hg
    obtain ⟨e0, l0, q1, q2, rfl, rfl, hg1, hg2⟩ := hg
    simp only [dropVs] at hS
    obtain ⟨hs1, hs2, hs3⟩ := sepIds_append hs
    obtain ⟨l1, g1, ρ1, S1, p1, sub1, same1, y1, fin1⟩ := dropV_ok c (S := ownL q2 ++ S) (F := F) hg1 hs1 (fun y hy => hk y (by simp [hy])) (by simpa [ownL_append] using hp) hS
    have hsm : ∀ y ∈ q2, g1 y.1 = g y.1 := fun y hy => same1 y.1 (hk y (by simp [hy])) fun hm => hs3 _ (mem_ownL.1 hm) y hy (.inl rfl) rfl
    obtain ⟨l2, g2, ρ2, S2, p2, sub2, same2, y2, fin2⟩ := dropVs_ok cs (F := F) (S := S) (Gats.congr cs hg2 hsm) hs2 (fun y hy => sub1.ne (hk y (by simp [hy]))) p1 S1
    refine ⟨l2, g2, ρ2, S2, p2, sub1.trans sub2, fun i hi hn => ?_, trivial, fun X h => fin1 X (fin2 X h)⟩
    rw [ownL_append, List.mem_append, not_or] at hn
    rw [same2 i (sub1.ne hi) hn.2, same1 i hi hn.1]
end
theorem orL_head : ∀ ms gs : List Bool, (orL ms gs).headD false = (ms.headD false || gs.headD false)
  | [], gs => by simp [orL]
  | m :: ms, [] => by simp [orL]
  | m :: ms, g :: gs => rfl
theorem orL_tail : ∀ ms gs : List Bool, (orL ms gs).tail = orL ms.tail gs.tail
  | [], gs => by simp [orL]
  | m :: ms, [] => by cases ms <;> simp [orL]
  | m :: ms, g :: gs => rfl
theorem scatArgs_ok : ∀ (ms gs : List Bool) (ns : List (Option Nat)) (cs : List AV) {d0 rs' rs : List D} {j : Nat} {q : Met} {vs : List Value} {F1 F : Feet} {S : List Nat} {K : Prog α} {l : List Ac} {ρ : Env} {g : Hp}, GatA g (orL ms gs) ns cs d0 q → rs.drop j = rs' → alikes (muts ms d0) rs' = true →
    RepDs w' rs' (muts ms vs) F1 → Ros w w' (muts ms d0) (muts ms vs) → RepVs ρ cs vs → sepIds q = true → Old ρ g q w → Pend false w0 M ρ g (ownL q ++ S) (F1 ++ F) w' → Sit0 cal (scatArgs rs ms gs cs j K) l u ρ g →
    Onto cal K (ownL q) S F (fun _ => True) l u w0 M ρ g w'
  | ms, gs, ns, [], d0, rs', rs, j, q, vs, F1, F, S, K, l, ρ, g, hg, hd, ha, hr, hro, hv, hs, ho, hp, hS => by
    simp only [GatA] at hg
    obtain ⟨rfl, rfl⟩ := hg
    simp only [RepVs] at hv
    subst hv
    simp only [muts, RepDs] at ha hr
    cases rs' with
    | cons _ _ => simp [alikes] at ha
    | nil =>
      simp only [RepDs] at hr
      obtain ⟨_, rfl⟩ := hr
      exact Onto.here (by simpa only [scatArgs] using hS) hp trivial
  | ms, gs, ns, c :: cs, d0, rs', rs, j, q, vs, F1, F, S, K, l, ρ, g, hg, hd, ha, hr, hro, hv, hs, ho, hp, hS => by
    simp only [GatA, orL_head, orL_tail] at hg
    obtain ⟨e0, l0, q1, q2, rfl, rfl, hg1, hg2⟩ := hg
    simp only [RepVs] at hv
    obtain ⟨x, us, rfl, hv1, hv2⟩ := hv
    obtain ⟨hs1, hs2, hs3⟩ := sepIds_append hs
    simp only [muts] at ha hr hro
    simp only [scatArgs] at hS
    cases hm : ms.headD false with
    | false =>
      rw [hm] at ha hr hro hS hg1
      simp only [Bool.false_eq_true, if_false] at ha hr hro hS
      cases hgv : gs.headD false with
      | false =>
        rw [hgv] at hg1 hS
        simp only [Bool.false_eq_true, if_false] at hS
        have hq1 := Gat.still _ c hg1
        have := scatArgs_ok ms.tail gs.tail ns.tail cs (j := j) (rs := rs) (F := F) (S := S) hg2 hd ha hr hro hv2 hs2 (fun y hy => ho y (by simp [hy])) (by rw [ownL_append, hq1] at hp; exact hp) hS
        rw [ownL_append, hq1]
        exact this
      | true =>
        rw [hgv] at hg1 hS
        simp only [if_true] at hS
        obtain ⟨l1, g1, ρ1, S1, p1, sub1, same1, y1, fin1⟩ := dropV_ok c (S := ownL q2 ++ S) (F := F1 ++ F) hg1 hs1 (fun y hy => ho.ne y (by simp [hy])) (by simpa [ownL_append] using hp) hS
        have hsm : ∀ y ∈ q2, g1 y.1 = g y.1 := fun y hy => same1 y.1 (ho.ne y (by simp [hy])) fun hm => hs3 _ (mem_ownL.1 hm) y hy (.inl rfl) rfl
        obtain ⟨l2, g2, ρ2, S2, p2, sub2, same2, y2, fin2⟩ := scatArgs_ok ms.tail gs.tail ns.tail cs (j := j) (rs := rs) (F := F) (S := S) (GatA.congr _ _ cs hg2 hsm) hd ha hr hro (hv2.mono sub1 _ _) hs2
          (fun y hy => by obtain ⟨p, h1, h2⟩ := ho y (by simp [hy]); exact ⟨p, sub1 _ _ h1, by rw [hsm y hy]; exact h2.mono sub1⟩) p1 S1
        refine ⟨l2, g2, ρ2, S2, p2, sub1.trans sub2, fun i hi hn => ?_, trivial, fun X h => fin1 X (fin2 X h)⟩
        rw [ownL_append, List.mem_append, not_or] at hn
        rw [same2 i (sub1.ne hi) hn.2, same1 i hi hn.1]
    | true =>
      rw [hm] at ha hr hro hS hg1
      simp only [if_true] at ha hr hro hS
      cases rs' with
      | nil => simp [alikes] at ha
      | cons e es =>
        simp only [alikes, Bool.and_eq_true] at ha
        simp only [RepDs] at hr
        obtain ⟨x', us', G1, G2, he, rfl, hr1, hr2⟩ := hr
        cases he
        simp only [Ros] at hro
        obtain ⟨ro1, ro2⟩ := hro x _ rfl
        have hce : nth rs j = e := by
          unfold nth
          have := congrArg (fun l => l.getD 0 (.bool false)) hd
          simpa using this
        rw [hce] at hS
        obtain ⟨l1, g1, ρ1, S1, p1, sub1, same1, y1, fin1⟩ := scat_ok c (S := ownL q2 ++ S) (F := G2 ++ F) hg1 ha.1 hr1 ro1 hv1 hs1 (fun y hy => ho y (by simp [hy])) (by simpa [ownL_append] using hp) hS
        have hsm : ∀ y ∈ q2, g1 y.1 = g y.1 := fun y hy => same1 y.1 (ho.ne y (by simp [hy])) fun hm => hs3 _ (mem_ownL.1 hm) y hy (.inl rfl) rfl
        have hd' : rs.drop (j + 1) = es := by
          have := congrArg List.tail hd
          simpa using this
        obtain ⟨l2, g2, ρ2, S2, p2, sub2, same2, y2, fin2⟩ := scatArgs_ok ms.tail gs.tail ns.tail cs (j := j + 1) (rs := rs) (F := F) (GatA.congr _ _ cs hg2 hsm) hd' ha.2 hr2 ro2 (hv2.mono sub1 _ _) hs2
          (fun y hy => by obtain ⟨p, h1, h2⟩ := ho y (by simp [hy]); exact ⟨p, sub1 _ _ h1, by rw [hsm y hy]; exact h2.mono sub1⟩) p1 S1
        refine ⟨l2, g2, ρ2, S2, p2, sub1.trans sub2, fun i hi hn => ?_, trivial, fun X h => fin1 X (fin2 X h)⟩
        rw [ownL_append, List.mem_append, not_or] at hn
        rw [same2 i (sub1.ne hi) hn.2, same1 i hi hn.1]

/-! results -/
theorem wrapC_ok {c : CTy} {d : D} {v : Value} {F1 F : Feet} {S : List Nat} {K : AV → Prog α} {l : List Ac} {ρ : Env} {g : Hp} (hk : okC c d = true) (hr : RepD w' d v F1) (hp : Pend false w0 M ρ g S (F1 ++ F) w') (hS : Sit0 cal (wrapC c d K) l u ρ g) :
    ∃ c', Onto cal (K c') [] S F (fun ρ' => RepV ρ' c' v) l u w0 M ρ g w' := by
  have arrCase : ∀ (e : ETy) nil a, d = .arr true nil a → e.like d = a → Sit0 cal (.new (.arr true d.nil (e.like d)) fun id => K (.sl id none)) l u ρ g → ∃ c', Onto cal (K c') [] S F (fun ρ' => RepV ρ' c' v) l u w0 M ρ g w' := by
    intro e nil a hd hl hS
    subst hd
    rw [hl] at hS
    simp only [RepD] at hr
    obtain ⟨p, rfl, hre, rfl⟩ := hr
    have S0 := hS.new; clear hS; obtain ⟨id, l1, rfl, hid, hdd, hS⟩ := S0
    have hp1 := Pend.new (A := (true, foot p (.arr true nil a))) (F := F) (by simpa using hp) (id := id) (p := p) (e := .arr true nil a) hid hre rfl (.inr rfl) (fun _ _ h => h)
    refine ⟨_, l1, _, _, hS p, hp1, sub_updρ hid, fun i hi hn => ?_, ?_, fun X h => Fin.new hid h⟩
    · have h1 : i ≠ id := by rintro rfl; exact hi hid
      exact upd_other _ _ h1
    · simp only [RepV]; exact ⟨p, updρ_same _ _ _, rfl⟩
  cases c with
  | int k =>
    cases d <;> simp only [okC, Bool.false_eq_true] at hk
    simp only [beq_iff_eq] at hk
    subst hk
    simp only [RepD] at hr
    obtain ⟨rfl, rfl⟩ := hr
    exact ⟨_, Onto.here (by simpa only [wrapC] using hS) hp (by simp [RepV, D.toInt])⟩
  | bool =>
    cases d <;> simp only [okC, Bool.false_eq_true] at hk
    simp only [RepD] at hr
    obtain ⟨rfl, rfl⟩ := hr
    exact ⟨_, Onto.here (by simpa only [wrapC] using hS) hp (by simp [RepV, D.toBool])⟩
  | str =>
    cases d <;> simp only [okC, Bool.false_eq_true] at hk
    simp only [RepD] at hr
    obtain ⟨rfl, rfl⟩ := hr
    exact ⟨_, Onto.here (by simpa only [wrapC] using hS) hp (by simp [RepV, D.toStr])⟩
  | sl e =>
    simp only [wrapC] at hS
    cases e with
    | int k =>
      match d, hk with
      | .arr true nil (.ints k' l'), hk =>
        simp only [okC, beq_iff_eq] at hk
        subst hk
        exact arrCase _ nil _ rfl (by simp [ETy.like, ETy.arr, Arr.like, D.ints]) hS
    | bool =>
      match d, hk with
      | .arr true nil (.bools l'), hk => exact arrCase _ nil _ rfl (by simp [ETy.like, ETy.arr, Arr.like, D.bools]) hS
    | str =>
      match d, hk with
      | .arr true nil (.strs l'), hk => exact arrCase _ nil _ rfl (by simp [ETy.like, ETy.arr, Arr.like, D.strs]) hS
    | r3 =>
      match d, hk with
      | .arr true nil (.r3 l'), hk => exact arrCase _ nil _ rfl (by simp [ETy.like, ETy.arr, Arr.like, D.r3]) hS
    | r4 =>
      match d, hk with
      | .arr true nil (.r4 l'), hk => exact arrCase _ nil _ rfl (by simp [ETy.like, ETy.arr, Arr.like, D.r4]) hS
    | other => cases d <;> simp [okC] at hk
    | rows z => cases d <;> simp [okC] at hk
  | ptr => simp only [wrapC] at hS; exact hS.fail
  | fn => simp only [wrapC] at hS; exact hS.fail
  | other => simp only [wrapC] at hS; exact hS.fail
theorem wrapCs_ok : ∀ (cs : List CTy) {d : D} {j : Nat} {ds : List D} {vs : List Value} {F1 F : Feet} {S : List Nat} {K : List AV → Prog α} {l : List Ac} {ρ : Env} {g : Hp}, okCs cs ds = true → (∀ i, d.cell (j + i) = ds.getD i (.bool false)) → RepDs w' ds vs F1 →
    Pend false w0 M ρ g S (F1 ++ F) w' → Sit0 cal (wrapCs cs d j K) l u ρ g → ∃ cs', Onto cal (K cs') [] S F (fun ρ' => RepVs ρ' cs' vs) l u w0 M ρ g w'
  | [], d, j, ds, vs, F1, F, S, K, l, ρ, g, hk, hc, hr, hp, hS => by
    cases ds with
    | cons _ _ => simp [okCs] at hk
    | nil =>
      simp only [RepDs] at hr
      obtain ⟨rfl, rfl⟩ := hr
      exact ⟨[], Onto.here (by simpa only [wrapCs] using hS) hp (by simp [RepVs])⟩
  | c :: cs, d, j, ds, vs, F1, F, S, K, l, ρ, g, hk, hc, hr, hp, hS => by
    cases ds with
    | nil => simp [okCs] at hk
    | cons e ds =>
      simp only [okCs, Bool.and_eq_true] at hk
      simp only [RepDs] at hr
      obtain ⟨x, us, G1, G2, rfl, rfl, hr1, hr2⟩ := hr
      simp only [wrapCs] at hS
      have hce : d.cell j = e := by simpa using hc 0
      rw [hce] at hS
      obtain ⟨c', l1, g1, ρ1, S1, p1, sub1, same1, y1, fin1⟩ := wrapC_ok (F := G2 ++ F) hk.1 hr1 (by simpa using hp) hS
      obtain ⟨cs', l2, g2, ρ2, S2, p2, sub2, same2, y2, fin2⟩ := wrapCs_ok cs (d := d) (j := j + 1) (F := F) hk.2 (fun i => by have := hc (i + 1); rw [show j + 1 + i = j + (i + 1) by omega, this]; simp) hr2 p1 S1
      refine ⟨c' :: cs', l2, g2, ρ2, S2, p2, sub1.trans sub2, fun i hi hn => ?_, RepVs.cons (y1.mono sub2 _ _) y2, fun X h => fin1 X (fin2 X h)⟩
      rw [same2 i (sub1.ne hi) (by simp), same1 i hi (by simp)]
theorem wrapT_ok {P : Program} {t : TypeId} {d : D} {v : Value} {F1 F : Feet} {S : List Nat} {K : AV → Prog α} {l : List Ac} {ρ : Env} {g : Hp} (hk : okT P t d = true) (hr : RepD w' d v F1) (hp : Pend false w0 M ρ g S (F1 ++ F) w') (hS : Sit0 cal (wrapT P t d K) l u ρ g) :
    ∃ c', Onto cal (K c') [] S F (fun ρ' => RepV ρ' c' v) l u w0 M ρ g w' := by
  unfold okT at hk
  unfold wrapT at hS
  split at hS
  · rename_i hagg
    rw [if_pos hagg] at hk
    cases d <;> simp only [Bool.false_eq_true] at hk
    rename_i ds
    simp only [RepD] at hr
    obtain ⟨vs, rfl, hr⟩ := hr
    obtain ⟨cs', l2, g2, ρ2, S2, p2, sub2, same2, y2, fin2⟩ := wrapCs_ok _ (d := .agg ds) (j := 0) hk (fun i => by simp [D.cell]) hr hp hS
    exact ⟨_, l2, g2, ρ2, S2, p2, sub2, same2, by simp only [RepV]; exact ⟨_, rfl, y2⟩, fin2⟩
  · rename_i hagg
    rw [if_neg hagg] at hk
    split at hS
    · rename_i c hc
      rw [hc] at hk
      exact wrapC_ok hk hr hp hS
    · exact hS.fail
theorem wrapTs_ok {P : Program} {rs : List D} : ∀ (ts : List TypeId) {j : Nat} {ds : List D} {vs us : List Value} {F1 : Feet} {S : List Nat} {K : List AV → Prog α} {l : List Ac} {ρ : Env} {g : Hp}, rs.drop j = ds → okTs P ts ds = true → vs.length = ts.length → RepDs w' ds (vs ++ us) F1 →
    Pend false w0 M ρ g S F1 w' → Sit0 cal (wrapTs P rs ts j K) l u ρ g → ∃ cs' F2, Onto cal (K cs') [] S F2 (fun ρ' => RepVs ρ' cs' vs ∧ RepDs w' (ds.drop ts.length) us F2) l u w0 M ρ g w'
  | [], j, ds, vs, us, F1, S, K, l, ρ, g, hd, hk, hl, hr, hp, hS => by
    have : vs = [] := List.eq_nil_of_length_eq_zero hl
    subst this
    exact ⟨[], F1, Onto.here (by simpa only [wrapTs] using hS) hp ⟨by simp [RepVs], by simpa using hr⟩⟩
  | t :: ts, j, ds, vs, us, F1, S, K, l, ρ, g, hd, hk, hl, hr, hp, hS => by
    cases ds with
    | nil => simp [okTs] at hk
    | cons e es =>
      cases vs with
      | nil => simp at hl
      | cons x xs =>
        simp only [okTs, Bool.and_eq_true] at hk
        simp only [List.cons_append, RepDs] at hr
        obtain ⟨x', us', G1, G2, he, rfl, hr1, hr2⟩ := hr
        cases he
        have hce : nth rs j = e := by
          unfold nth
          have := congrArg (fun l => l.getD 0 (.bool false)) hd
          simpa using this
        have hd' : rs.drop (j + 1) = es := by
          have := congrArg List.tail hd
          simpa using this
        simp only [wrapTs] at hS
        rw [hce] at hS
        obtain ⟨c', l1, g1, ρ1, S1, p1, sub1, same1, y1, fin1⟩ := wrapT_ok hk.1 hr1 hp hS
        obtain ⟨cs', F2, l2, g2, ρ2, S2, p2, sub2, same2, ⟨y2, y3⟩, fin2⟩ := wrapTs_ok ts hd' hk.2 (by simpa using hl) hr2 p1 S1
        refine ⟨c' :: cs', F2, l2, g2, ρ2, S2, p2, sub1.trans sub2, fun i hi hn => ?_, ⟨RepVs.cons (y1.mono sub2 _ _) y2, by simpa using y3⟩, fun X h => fin1 X (fin2 X h)⟩
        rw [same2 i (sub1.ne hi) (by simp), same1 i hi (by simp)]
theorem retV_rep {ρ : Env} {cs : List AV} {vs : List Value} (h : RepVs ρ cs vs) : RepV ρ (retV cs) (retVal vs) := by
  cases cs with
  | nil => simp only [RepVs] at h; subst h; simp [retV, retVal, RepV, RepVs]
  | cons c cs =>
    simp only [RepVs] at h
    obtain ⟨v, vs, rfl, h1, h2⟩ := h
    cases cs with
    | nil => simp only [RepVs] at h2; subst h2; simpa [retV, retVal] using h1
    | cons c2 cs =>
      simp only [RepVs] at h2
      obtain ⟨v2, vs, rfl, h3, h4⟩ := h2
      simp only [retV, retVal, RepV]
      exact ⟨_, rfl, by simpa using RepVs.cons h1 (RepVs.cons h3 h4)⟩

/-- what was met, and the world behind a call that turned it -/
theorem Match.mem {ρ : Env} {g : Hp} {q : Met} {F : Feet} (h : Match ρ g q F) : ∀ A ∈ F, A.1 = true → ∃ id p, (id, true) ∈ q ∧ (g id).own = true ∧ ρ id = some p ∧ ∀ b off, A.2 b off → foot p (g id) b off := by
  unfold Match at h
  induction h with
  | nil => intro A hA; cases hA
  | @cons x B q F h1 h2 ih =>
    intro A hA ho
    rcases List.mem_cons.1 hA with rfl | hA
    · obtain ⟨e1, o1, p, hp, _, _, hf⟩ := h1
      obtain ⟨i, b⟩ := x
      simp only at e1 o1 hp hf
      have hb : b = true := by rw [← e1]; exact ho
      subst hb
      exact ⟨i, p, by simp, o1 rfl, hp, hf rfl⟩
    · obtain ⟨id, p, k1, k2⟩ := ih A hA ho
      exact ⟨id, p, by simp [k1], k2⟩
theorem Match.live {ρ : Env} {g : Hp} {q : Met} {F : Feet} (h : Match ρ g q F) : ∀ x ∈ q, ∃ p, ρ x.1 = some p ∧ g x.1 ≠ .dead ∧ (x.2 = true → (g x.1).own = true) := by
  unfold Match at h
  induction h with
  | nil => intro A hA; cases hA
  | @cons y B q F h1 h2 ih =>
    intro x hx
    rcases List.mem_cons.1 hx with rfl | hx
    · obtain ⟨e1, o1, p, hp, hd, hf, _⟩ := h1
      exact ⟨p, hp, hd, o1⟩
    · exact ih x hx
theorem pend_call {ρ : Env} {g : Hp} {q : Met} {F F' : Feet} (I : Inv w0 M ρ g w) (hm : Match ρ g q F) (hs : sepIds q = true) (hF' : Sep F') (hfr : Fr (ownOf F) w w') (hnew : ∀ b off, ownOf F' b off → ownOf F b off ∨ w.heap.size ≤ b) :
    Pend false w0 M ρ g (ownL q) F' w' := by
  have hfoot : ∀ b off, ownOf F b off → ∃ id p, id ∈ ownL q ∧ (g id).own = true ∧ ρ id = some p ∧ foot p (g id) b off := by
    rintro b off ⟨A, hA, ho, hf⟩
    obtain ⟨id, p, h1, h2, h3, h4⟩ := hm.mem A hA ho
    exact ⟨id, p, mem_ownL.2 h1, h2, h3, h4 _ _ hf⟩
  have hk : ∀ id, kills (ownL q) g id ≠ .dead → id ∉ ownL q ∧ kills (ownL q) g id = g id := by
    intro id hid
    unfold kills at hid ⊢
    by_cases h : id ∈ ownL q
    · rw [if_pos h] at hid; exact absurd rfl hid
    · exact ⟨h, by rw [if_neg h]⟩
  have hkf : ∀ id p b off, foot p (kills (ownL q) g id) b off → id ∉ ownL q ∧ kills (ownL q) g id = g id := fun id p b off hf => hk id (by intro h0; rw [h0] at hf; exact hf)
  have hown : ∀ b off, ownOf F b off → M b off ∨ w0.heap.size ≤ b := by
    intro b off h
    obtain ⟨id, p, _, h2, h3, h4⟩ := hfoot b off h
    exact I.own id p h3 h2 b off h4
  have hki : ∀ id p b off, inn p (kills (ownL q) g id) b off → id ∉ ownL q ∧ kills (ownL q) g id = g id := fun id p b off hf => hk id (by intro h0; rw [h0] at hf; exact hf)
  refine ⟨⟨⟨?_, ?_, ?_⟩, I.fr.trans' hfr hown, ?_⟩, ?_, sepIds_nodup hs, hF', ?_, ?_, ?_⟩
  · intro id hid
    obtain ⟨h1, h2⟩ := hk id hid
    rw [h2] at hid ⊢
    obtain ⟨p, hp, hr⟩ := I.ok.rep id hid
    refine ⟨p, hp, hr.frame hfr fun b off hf hn => ?_⟩
    obtain ⟨id', p', k1, k2, k3, k4⟩ := hfoot b off hn
    rcases hf with hf | hf
    · exact I.ok.sep id' id p' p (by rintro rfl; exact h1 k1) k3 hp k2 b off k4 hf
    · exact I.ok.inn id' id p' p k3 hp k2 b off k4 hf
  · intro i j p r hij hp hr ho b off hf hf'
    obtain ⟨_, e1⟩ := hkf i p b off hf
    obtain ⟨_, e2⟩ := hkf j r b off hf'
    rw [e1] at ho hf
    rw [e2] at hf'
    exact I.ok.sep i j p r hij hp hr ho b off hf hf'
  · intro i j p r hp hr ho b off hf hf'
    obtain ⟨_, e1⟩ := hkf i p b off hf
    obtain ⟨_, e2⟩ := hki j r b off hf'
    rw [e1] at ho hf
    rw [e2] at hf'
    exact I.ok.inn i j p r hp hr ho b off hf hf'
  · intro i p hp ho b off hf
    obtain ⟨_, e1⟩ := hkf i p b off hf
    rw [e1] at ho hf
    exact I.own i p hp ho b off hf
  · intro id hid
    obtain ⟨p, hp, _⟩ := hm.live _ (mem_ownL.1 hid)
    simp only at hp
    rw [hp]; simp
  · intro A hA id p hp hor b off ha hf
    have ho : A.1 = true := by
      rcases hor with h | ⟨h, _⟩
      · exact h
      · cases h
    obtain ⟨h1, e1⟩ := hkf id p b off hf
    rw [e1] at hf
    rcases hnew b off ⟨A, hA, ho, ha⟩ with h | h
    · obtain ⟨id', p', k1, k2, k3, k4⟩ := hfoot b off h
      exact I.ok.sep id' id p' p (by rintro rfl; exact h1 k1) k3 hp k2 b off k4 hf
    · obtain ⟨p', hp', hr⟩ := I.ok.rep id (by intro h0; rw [h0] at hf; exact hf)
      rw [hp] at hp'; cases hp'
      have := hr.lt' b off hf
      omega
  · intro A hA ho b off ha
    rcases hnew b off ⟨A, hA, ho, ha⟩ with h | h
    · exact hown b off h
    · exact .inr (Nat.le_trans I.fr.size h)
  · intro A hA ho id p hp b off ha hf
    obtain ⟨h1, e1⟩ := hki id p b off hf
    rw [e1] at hf
    rcases hnew b off ⟨A, hA, ho, ha⟩ with h | h
    · obtain ⟨id', p', k1, k2, k3, k4⟩ := hfoot b off h
      exact I.ok.inn id' id p' p k3 hp k2 b off k4 hf
    · obtain ⟨p', hp', hr⟩ := I.ok.rep id (by intro h0; rw [h0] at hf; exact hf)
      rw [hp] at hp'; cases hp'
      have := hr.ltI b off hf
      omega
theorem callK_ok {P : Program} {A : Ann} {f : Nat} {vs : List AV} {args : Array Value} {v : AV} {K : AV → Prog AV} {l : List Ac} {ρ : Env} {g : Hp} (hcal : ∀ ds rs, cal f ds = some rs → Contract P f (A.mode f) ds rs) (S : Sit cal (callK P A f vs K) l v w0 M ρ g w) (hv : RepVs ρ vs args.toList)
    (hK : ∀ (c : AV) (vv : Value) (l' : List Ac) (ρ' : Env) (g' : Hp) (w' : World), Sit cal (K c) l' v w0 M ρ' g' w' → Sub ρ ρ' → RepV ρ' c vv → Fin w0 M l' g' ρ' w' (fun ρ'' => RepV ρ'' v vv)) :
    ∃ fn, P.funcs[f]? = some fn ∧ fn.body.isSome = true ∧ Calls P f args w fun e w' => ∃ vv, e = .returned vv ∧ Fin w0 M l g ρ w' (fun ρ' => RepV ρ' v vv) := by
  unfold callK at S
  split at S
  · exact S.fail
  · rename_i fn hfn
    have I := S.inv
    obtain ⟨ds, q, l1, S1, hg, hrd⟩ := gargs_ok _ _ _ S.to
    obtain ⟨F, hF, hM⟩ := GatA.rep I.ok _ _ _ hg hv
    have S0 := S1.chk; clear S1; obtain ⟨hs, S1⟩ := S0
    rw [List.nil_append] at hs
    have S0 := S1.call; clear S1; obtain ⟨rs, l2, rfl, hc, S1⟩ := S0
    obtain ⟨fn', hfn', hb, hcalls⟩ := hcal ds rs hc
    rw [hfn] at hfn'; cases hfn'
    refine ⟨fn, hfn, hb, (hcalls w args F hF (hM.sep I.ok hs)).mono fun e w' h => ?_⟩
    obtain ⟨outs, F', he, hlen, hr, hsep, hfr, hnew, hok, hal, hro⟩ := h
    refine ⟨_, he, ?_⟩
    have hp := pend_call I hM hs hsep hfr hnew
    obtain ⟨cs', F2, l3, g3, ρ3, S3, p3, sub3, same3, ⟨y3, z3⟩, fin3⟩ := wrapTs_ok (vs := outs) (us := muts (A.mode f) args.toList) fn.resultTypes.toList (j := 0) (ds := rs) rfl hok (by simpa using hlen) hr hp S1
    have hsm : ∀ x ∈ q, g3 x.1 = g x.1 := fun x hx => by
      obtain ⟨p, hp, _⟩ := hM.live x hx
      exact same3 x.1 (by rw [hp]; simp) (by simp)
    have hold : Old ρ3 g3 q w := fun x hx => by
      obtain ⟨p, hp, hd, _⟩ := hM.live x hx
      obtain ⟨p', hp', hr⟩ := I.ok.rep x.1 hd
      rw [hp] at hp'; cases hp'
      exact ⟨p, sub3 _ _ hp, by rw [hsm x hx]; exact hr.mono sub3⟩
    obtain ⟨l4, g4, ρ4, S4, p4, sub4, same4, _, fin4⟩ := scatArgs_ok (A.mode f) (A.give f) _ vs (d0 := ds) (rs := rs) (j := fn.resultTypes.size) (S := []) (F := []) (K := K (retV cs')) (GatA.congr _ _ _ hg hsm) rfl hal
      (by simpa using z3) hro (hv.mono sub3 _ _) hs hold (by simpa using p3) S3
    refine hrd.fin (Fin.call (fin3 _ (fin4 _ ?_)))
    exact hK _ _ _ _ _ _ (S4.sit (by simpa [kills_nil] using p4.inv)) (sub3.trans sub4) (retV_rep (y3.mono sub4 _ _))

/-! a part of a variable, lent -/
theorem Thawed.sub {x : Addr} {n : Nat} (h : Thawed w x n) (o k : Nat) (hk : o + k ≤ n) : Thawed w (x.add o) k := fun j hj => by
  rw [addr_add_add]; exact h _ (by omega)
theorem CellsL.append {x : Addr} {a b : List Value} (h : CellsL w x a) (k : CellsL w (x.add a.length) b) : CellsL w x (a ++ b) := by
  intro j v hj
  by_cases hl : j < a.length
  · rw [List.getElem?_append_left hl] at hj; exact h j v hj
  · rw [List.getElem?_append_right (by omega)] at hj
    have := k _ v hj
    rw [addr_add_add, show a.length + (j - a.length) = j by omega] at this
    exact this
theorem Thawed.append {x : Addr} {n k : Nat} (h : Thawed w x n) (k' : Thawed w (x.add n) k) : Thawed w x (n + k) := by
  intro j hj
  by_cases hl : j < n
  · exact h j hl
  · have := k' (j - n) (by omega)
    rw [addr_add_add, show n + (j - n) = j by omega] at this
    exact this
theorem boxFoot_part {x : Addr} {o k n : Nat} (h : o + k ≤ n) {b off : Nat} (hf : boxFoot (x.add o) k b off) : boxFoot x n b off := by
  obtain ⟨h1, h2, h3⟩ := hf
  rw [addr_block] at h1
  rw [addr_off] at h2 h3
  exact ⟨h1, by omega, by omega⟩
theorem Inv.join {ρ : Env} {g : Hp} (I : Inv w0 M ρ g w) {id i2 i3 : Nat} {c1 c2 c3 : List AV} {p p2 p3 : Plc} {x : Addr} (h12 : id ≠ i2) (h13 : id ≠ i3) (h23 : i2 ≠ i3) (g1 : g id = .box true c1) (g2 : g i2 = .box true c2) (g3 : g i3 = .box true c3)
    (r1 : ρ id = some p) (r2 : ρ i2 = some p2) (r3 : ρ i3 = some p3) (b1 : p.base = some x) (b2 : p2.base = some (x.add c1.length)) (b3 : p3.base = some (x.add (c1.length + c2.length))) :
    Inv w0 M ρ (upd (upd (upd g i2 .dead) i3 .dead) id (.box true (c1 ++ (c2 ++ c3)))) w := by
  obtain ⟨q1, e1, R1⟩ := I.ok.rep id (by rw [g1]; simp)
  obtain ⟨q2, e2, R2⟩ := I.ok.rep i2 (by rw [g2]; simp)
  obtain ⟨q3, e3, R3⟩ := I.ok.rep i3 (by rw [g3]; simp)
  rw [r1] at e1; cases e1
  rw [r2] at e2; cases e2
  rw [r3] at e3; cases e3
  rw [g1] at R1; rw [g2] at R2; rw [g3] at R3
  obtain ⟨m1, x1, v1, n1, s1, t1, u1, f1⟩ := R1
  obtain ⟨m2, x2, v2, n2, s2, t2, u2, f2⟩ := R2
  obtain ⟨m3, x3, v3, n3, s3, t3, u3, f3⟩ := R3
  rw [b1] at n1; cases n1
  rw [b2] at n2; cases n2
  rw [b3] at n3; cases n3
  have l1 := t1.length; have l2 := t2.length; have l3 := t3.length
  have O1 : ∀ b off, foot p (g id) b off ↔ boxFoot x c1.length b off := fun b off => by rw [g1]; exact foot_box b1
  have O2 : ∀ b off, foot p2 (g i2) b off ↔ boxFoot (x.add c1.length) c2.length b off := fun b off => by rw [g2]; exact foot_box b2
  have O3 : ∀ b off, foot p3 (g i3) b off ↔ boxFoot (x.add (c1.length + c2.length)) c3.length b off := fun b off => by rw [g3]; exact foot_box b3
  have hfoot : ∀ b off, foot p (.box true (c1 ++ (c2 ++ c3))) b off → foot p (g id) b off ∨ foot p2 (g i2) b off ∨ foot p3 (g i3) b off := fun b off h => by
    rw [foot_box b1] at h
    rw [O1, O2, O3]
    obtain ⟨k1, k2, k3⟩ := h
    simp only [List.length_append] at k3
    simp only [boxFoot, addr_block, addr_off]
    by_cases a1 : off < x.off + c1.length
    · exact .inl ⟨k1, k2, a1⟩
    · by_cases a2 : off < x.off + (c1.length + c2.length)
      · exact .inr (.inl ⟨k1, by omega, by omega⟩)
      · exact .inr (.inr ⟨k1, by omega, by omega⟩)
  have hd : ∀ i, i ≠ id → (upd (upd (upd g i2 .dead) i3 .dead) id (.box true (c1 ++ (c2 ++ c3)))) i = if i = i2 ∨ i = i3 then .dead else g i := fun i hi => by
    rw [upd_other _ _ hi]
    by_cases a3 : i = i3
    · subst a3; simp
    · rw [upd_other _ _ a3]
      by_cases a2 : i = i2
      · subst a2; simp
      · rw [upd_other _ _ a2, if_neg (by simp [a2, a3])]
  have hinn : ∀ j r b off, ρ j = some r → inn r ((upd (upd (upd g i2 .dead) i3 .dead) id (.box true (c1 ++ (c2 ++ c3)))) j) b off → inn r (g j) b off := fun j r b off hr hf => by
    by_cases e : j = id
    · subst e; rw [upd_same] at hf; exact hf.elim
    · rw [hd j e] at hf
      split at hf
      · exact hf.elim
      · exact hf
  refine ⟨⟨fun i hi => ?_, fun i j q r hij hq hr ho b off hf hf' => ?_, fun i j q r hq hr ho b off hf hf' => ?_⟩, I.fr, fun i q hq ho b off hf => ?_⟩
  · by_cases e : i = id
    · subst e
      rw [upd_same]
      refine ⟨p, r1, m1, x, v1 ++ (v2 ++ v3), b1, s1, t1.append (t2.append t3), ?_, fun _ => ?_⟩
      · refine CellsL.append u1 (CellsL.append (by rw [l1]; exact u2) ?_)
        rw [addr_add_add, l1, l2]; exact u3
      · rw [List.length_append, List.length_append]
        refine Thawed.append (f1 rfl) (Thawed.append (by rw [l1]; exact f2 rfl) ?_)
        rw [addr_add_add, l1, l2]; exact f3 rfl
    · rw [hd i e] at hi ⊢
      by_cases a : i = i2 ∨ i = i3
      · rw [if_pos a] at hi; exact absurd rfl hi
      · rw [if_neg a] at hi ⊢; exact I.ok.rep i hi
  · by_cases e : i = id
    · subst e
      rw [upd_same] at ho hf
      rw [r1] at hq; cases hq
      have hj := Ne.symm hij
      rw [hd j hj] at hf'
      by_cases a : j = i2 ∨ j = i3
      · rw [if_pos a] at hf'; exact hf'
      · rw [if_neg a] at hf'
        rcases hfoot b off hf with h | h | h
        · exact I.ok.sep i j p r hij r1 hr (by rw [g1]; rfl) b off h hf'
        · exact I.ok.sep i2 j p2 r (fun e => a (.inl e.symm)) r2 hr (by rw [g2]; rfl) b off h hf'
        · exact I.ok.sep i3 j p3 r (fun e => a (.inr e.symm)) r3 hr (by rw [g3]; rfl) b off h hf'
    · rw [hd i e] at ho hf
      by_cases a : i = i2 ∨ i = i3
      · rw [if_pos a] at hf; exact hf
      · rw [if_neg a] at ho hf
        by_cases ej : j = id
        · subst ej
          rw [upd_same] at hf'
          rw [r1] at hr; cases hr
          rcases hfoot b off hf' with h | h | h
          · exact I.ok.sep i j q p hij hq r1 ho b off hf h
          · exact I.ok.sep i i2 q p2 (fun e => a (.inl e)) hq r2 ho b off hf h
          · exact I.ok.sep i i3 q p3 (fun e => a (.inr e)) hq r3 ho b off hf h
        · rw [hd j ej] at hf'
          by_cases aj : j = i2 ∨ j = i3
          · rw [if_pos aj] at hf'; exact hf'
          · rw [if_neg aj] at hf'; exact I.ok.sep i j q r hij hq hr ho b off hf hf'
  · have hf2 := hinn j r b off hr hf'
    by_cases e : i = id
    · subst e
      rw [upd_same] at ho hf
      rw [r1] at hq; cases hq
      rcases hfoot b off hf with h | h | h
      · exact I.ok.inn i j p r r1 hr (by rw [g1]; rfl) b off h hf2
      · exact I.ok.inn i2 j p2 r r2 hr (by rw [g2]; rfl) b off h hf2
      · exact I.ok.inn i3 j p3 r r3 hr (by rw [g3]; rfl) b off h hf2
    · rw [hd i e] at ho hf
      by_cases a : i = i2 ∨ i = i3
      · rw [if_pos a] at hf; exact hf
      · rw [if_neg a] at ho hf
        exact I.ok.inn i j q r hq hr ho b off hf hf2
  · by_cases e : i = id
    · subst e
      rw [upd_same] at ho hf
      rw [r1] at hq; cases hq
      rcases hfoot b off hf with h | h | h
      · exact I.own i p r1 (by rw [g1]; rfl) b off h
      · exact I.own i2 p2 r2 (by rw [g2]; rfl) b off h
      · exact I.own i3 p3 r3 (by rw [g3]; rfl) b off h
    · rw [hd i e] at ho hf
      by_cases a : i = i2 ∨ i = i3
      · rw [if_pos a] at hf; exact hf.elim
      · rw [if_neg a] at ho hf; exact I.own i q hq ho b off hf
theorem lend_ok {P : Program} {A : Ann} {f : Nat} (hcal : ∀ ds rs, cal f ds = some rs → Contract P f (A.mode f) ds rs) {args : Array Value} {v : AV} :
    ∀ (todo : List AV) (ms : List Bool) (ns : List (Option Nat)) (done : List AV) (K : AV → Prog AV) (l : List Ac) (ρ : Env) (g : Hp), Sit cal (lendGo P A f todo ms ns done K) l v w0 M ρ g w → RepVs ρ (done ++ todo) args.toList →
    (∀ (c : AV) (vv : Value) (l' : List Ac) (ρ' : Env) (g' : Hp) (w' : World), Sit cal (K c) l' v w0 M ρ' g' w' → Sub ρ ρ' → RepV ρ' c vv → Fin w0 M l' g' ρ' w' (fun ρ'' => RepV ρ'' v vv)) →
    ∃ fn, P.funcs[f]? = some fn ∧ fn.body.isSome = true ∧ Calls P f args w fun e w' => ∃ vv, e = .returned vv ∧ Fin w0 M l g ρ w' (fun ρ' => RepV ρ' v vv)
  | [], ms, ns, done, K, l, ρ, g, S, hv, hK => by
    simp only [lendGo] at S
    exact callK_ok hcal S (by simpa using hv) hK
  | a :: rest, ms, ns, done, K, l, ρ, g, S, hv, hK => by
    have hv' : RepVs ρ ((done ++ [a]) ++ rest) args.toList := by simpa using hv
    simp only [lendGo] at S
    split at S
    · rename_i id o n hm hn
      have S0 := S.rd; clear S; obtain ⟨l1, rfl, S⟩ := S0
      have fin0 : ∀ {l1 : List Ac}, (∃ fn, P.funcs[f]? = some fn ∧ fn.body.isSome = true ∧ Calls P f args w fun e w' => ∃ vv, e = .returned vv ∧ Fin w0 M l1 g ρ w' (fun ρ' => RepV ρ' v vv)) →
          ∃ fn, P.funcs[f]? = some fn ∧ fn.body.isSome = true ∧ Calls P f args w fun e w' => ∃ vv, e = .returned vv ∧ Fin w0 M (.rd id (g id) :: l1) g ρ w' (fun ρ' => RepV ρ' v vv) := by
        rintro l1 ⟨fn, h1, h2, h3⟩
        exact ⟨fn, h1, h2, h3.mono fun e w' ⟨vv, k1, k2⟩ => ⟨vv, k1, k2.rd⟩⟩
      apply fin0
      split at S
      · rename_i cs hg
        cases hc : (Nat.beq o 0 && Nat.ble cs.length n) with
        | true =>
          rw [hc] at S
          exact lend_ok hcal rest _ _ _ _ _ _ _ S hv' hK
        | false =>
          rw [hc] at S
          simp only [cond_false] at S
          have S0 := S.chk; clear S; obtain ⟨hle, S⟩ := S0
          have hle := Nat.le_of_ble_eq_true hle
          have I := S.inv
          obtain ⟨p, hp, hr⟩ := I.ok.rep id (by rw [hg]; simp)
          rw [hg] at hr
          obtain ⟨k1, x, vs, k2, k3, k4, k5, k6⟩ := hr
          have hlen := k4.length
          have k6 := k6 rfl
          have S0 := S.wr; clear S; obtain ⟨l2, rfl, hd1, S⟩ := S0
          have own : (g id).own = true := by rw [hg]; rfl
          have F0 : ∀ b off, foot p (g id) b off ↔ boxFoot x cs.length b off := fun b off => by rw [hg]; exact foot_box k2
          have lt : (cs.take o).length = o := by rw [List.length_take]; omega
          have lm : ((cs.drop o).take n).length = n := by rw [List.length_take, List.length_drop]; omega
          have ld : (cs.drop (o + n)).length = cs.length - (o + n) := List.length_drop ..
          have x0 : x.add 0 = x := addr_add_zero x
          have I1 := I.turn (id := id) (p := p) (e := .box true (cs.take o)) hp own (Fr.refl (fun _ _ => False) w) (fun _ _ h => h.elim)
            ⟨k1, x, vs.take o, k2, k3, k4.take o, by have := k5.sub 0 o; rwa [x0, List.drop_zero] at this, fun _ => by have := k6.sub 0 o (by omega); rw [x0] at this; rw [show (vs.take o).length = o by rw [List.length_take]; omega]; exact this⟩
            (fun b off h => by rw [F0]; rw [foot_box k2, lt] at h; exact boxFoot_part (o := 0) (k := o) (n := cs.length) (by omega) (by rw [x0]; exact h))
          have S := S w I1
          have S0 := S.new; clear S; obtain ⟨i2, l3, rfl, hn2, hd2, S⟩ := S0
          have n2 : id ≠ i2 := by rintro rfl; rw [hp] at hn2; cases hn2
          have I2 := I1.put (ρ' := updρ ρ i2 ⟨some (x.add o), 1, 1, 0, []⟩) (id := i2) (p := ⟨some (x.add o), 1, 1, 0, []⟩) (e := .box true ((cs.drop o).take n)) (sub_updρ hn2) (fun i hi => updρ_other _ _ hi) (updρ_same _ _ _) hd2
            ⟨rfl, x.add o, (vs.drop o).take n, rfl, spot_add x o k3, ((k4.drop o).take n).mono (sub_updρ hn2) _ _, k5.sub o n, fun _ => by rw [show ((vs.drop o).take n).length = n by rw [List.length_take, List.length_drop]; omega]; exact k6.sub o n (by omega)⟩
            (fun j q hj hq _ b off h h' => by
              rw [foot_box (x := x.add o) rfl, lm] at h
              by_cases ej : j = id
              · subst ej
                rw [hp] at hq; cases hq
                rw [upd_same, foot_box k2, lt] at h'
                obtain ⟨_, a2, _⟩ := h; obtain ⟨_, _, a3⟩ := h'
                rw [addr_off] at a2; omega
              · rw [upd_other _ _ ej] at h'
                exact I.ok.sep id j p q (Ne.symm ej) hp hq own b off ((F0 _ _).2 (boxFoot_part (by omega) h)) h')
            (fun _ b off h => I.own id p hp own b off ((F0 _ _).2 (boxFoot_part (o := o) (k := n) (by omega) (by rw [foot_box (x := x.add o) rfl, lm] at h; exact h))))
            (fun _ j q hj hq b off h h' => by
              rw [foot_box (x := x.add o) rfl, lm] at h
              by_cases ej : j = id
              · subst ej; rw [upd_same] at h'; exact h'
              · rw [upd_other _ _ ej] at h'
                exact I.ok.inn id j p q hp hq own b off ((F0 _ _).2 (boxFoot_part (by omega) h)) h')
          have S := S _ w I2
          have S0 := S.new; clear S; obtain ⟨i3, l4, rfl, hn3, hd3, S⟩ := S0
          have n3 : i2 ≠ i3 := by rintro rfl; rw [updρ_same] at hn3; cases hn3
          have n13 : id ≠ i3 := by rintro rfl; rw [updρ_other _ _ n2, hp] at hn3; cases hn3
          have hn3' : ρ i3 = none := by rw [updρ_other _ _ (Ne.symm n3)] at hn3; exact hn3
          have I3 := I2.put (ρ' := updρ (updρ ρ i2 ⟨some (x.add o), 1, 1, 0, []⟩) i3 ⟨some (x.add (o + n)), 1, 1, 0, []⟩) (id := i3) (p := ⟨some (x.add (o + n)), 1, 1, 0, []⟩) (e := .box true (cs.drop (o + n))) (sub_updρ hn3) (fun i hi => updρ_other _ _ hi) (updρ_same _ _ _) hd3
            ⟨rfl, x.add (o + n), vs.drop (o + n), rfl, spot_add x _ k3, ((k4.drop (o + n)).mono (sub_updρ hn2) _ _).mono (sub_updρ hn3) _ _, by have := k5.sub (o + n) (vs.length - (o + n)); rwa [List.take_of_length_le (by simp)] at this, fun _ => by rw [List.length_drop]; exact k6.sub (o + n) _ (by omega)⟩
            (fun j q hj hq _ b off h h' => by
              rw [foot_box (x := x.add (o + n)) rfl, ld] at h
              by_cases e2 : j = i2
              · subst e2
                rw [updρ_same] at hq; cases hq
                rw [upd_same, foot_box (x := x.add o) rfl, lm] at h'
                obtain ⟨_, a2, _⟩ := h; obtain ⟨_, _, a3⟩ := h'
                rw [addr_off] at a2 a3; omega
              · rw [updρ_other _ _ e2] at hq
                rw [upd_other _ _ e2] at h'
                by_cases ej : j = id
                · subst ej
                  rw [hp] at hq; cases hq
                  rw [upd_same, foot_box k2, lt] at h'
                  obtain ⟨_, a2, _⟩ := h; obtain ⟨_, _, a3⟩ := h'
                  rw [addr_off] at a2; omega
                · rw [upd_other _ _ ej] at h'
                  exact I.ok.sep id j p q (Ne.symm ej) hp hq own b off ((F0 _ _).2 (boxFoot_part (o := o + n) (k := cs.length - (o + n)) (by omega) h)) h')
            (fun _ b off h => I.own id p hp own b off ((F0 _ _).2 (boxFoot_part (o := o + n) (k := cs.length - (o + n)) (by omega) (by rw [foot_box (x := x.add (o + n)) rfl, ld] at h; exact h))))
            (fun _ j q hj hq b off h h' => by
              rw [foot_box (x := x.add (o + n)) rfl, ld] at h
              by_cases e2 : j = i2
              · subst e2; rw [upd_same] at h'; exact h'
              · rw [updρ_other _ _ e2] at hq
                rw [upd_other _ _ e2] at h'
                by_cases ej : j = id
                · subst ej; rw [upd_same] at h'; exact h'
                · rw [upd_other _ _ ej] at h'
                  exact I.ok.inn id j p q hp hq own b off ((F0 _ _).2 (boxFoot_part (o := o + n) (k := cs.length - (o + n)) (by omega) h)) h')
          have S := S _ w I3
          have sub : Sub ρ (updρ (updρ ρ i2 ⟨some (x.add o), 1, 1, 0, []⟩) i3 ⟨some (x.add (o + n)), 1, 1, 0, []⟩) := (sub_updρ hn2).trans (sub_updρ hn3)
          have q2 : updρ (updρ ρ i2 ⟨some (x.add o), 1, 1, 0, []⟩) i3 ⟨some (x.add (o + n)), 1, 1, 0, []⟩ i2 = some ⟨some (x.add o), 1, 1, 0, []⟩ := by rw [updρ_other _ _ n3, updρ_same]
          have hargs : RepVs (updρ (updρ ρ i2 ⟨some (x.add o), 1, 1, 0, []⟩) i3 ⟨some (x.add (o + n)), 1, 1, 0, []⟩) ((done ++ [.ptr i2 0 0]) ++ rest) args.toList := by
            have h0 := hv'.mono sub _ _
            have sp := h0.split
            have sp2 := sp.1.split
            have key : RepVs (updρ (updρ ρ i2 ⟨some (x.add o), 1, 1, 0, []⟩) i3 ⟨some (x.add (o + n)), 1, 1, 0, []⟩) [.ptr i2 0 0] ((args.toList.take (done ++ [AV.ptr id 0 o]).length).drop done.length) := by
              have h1 := sp2.2
              simp only [RepVs] at h1 ⊢
              obtain ⟨u, us, e1, r1, e2⟩ := h1
              refine ⟨u, us, e1, ?_, e2⟩
              simp only [RepV] at r1 ⊢
              obtain ⟨pp, aa, m1, m2, m3, m4⟩ := r1
              rw [sub _ _ hp] at m1; cases m1
              rw [k2] at m2; cases m2
              exact ⟨_, x.add o, q2, rfl, by simp, by rw [m4]; simp [addr_add_zero]⟩
            have := (sp2.1.append key).append sp.2
            rw [List.take_append_drop, List.take_append_drop] at this
            exact this
          have res := lend_ok hcal rest _ _ _ _ _ _ _ S hargs (fun c vv l' ρ' g' w' S' sub' hc => by
            unfold joinP at S'
            have S0 := S'.rd; clear S'; obtain ⟨l5, rfl, S'⟩ := S0
            have S0 := S'.rd; clear S'; obtain ⟨l6, rfl, S'⟩ := S0
            have S0 := S'.rd; clear S'; obtain ⟨l7, rfl, S'⟩ := S0
            split at S'
            · rename_i c1 c2 c3 e1 e2 e3
              have S0 := S'.chk; clear S'; obtain ⟨hcl, S'⟩ := S0
              rw [Bool.and_eq_true] at hcl
              have hc1 := Nat.eq_of_beq_eq_true hcl.1
              have hc2 := Nat.eq_of_beq_eq_true hcl.2
              have I' := S'.inv
              have r1 : ρ' id = some p := sub' _ _ (sub _ _ hp)
              have r2 : ρ' i2 = some ⟨some (x.add o), 1, 1, 0, []⟩ := sub' _ _ q2
              have r3 : ρ' i3 = some ⟨some (x.add (o + n)), 1, 1, 0, []⟩ := sub' _ _ (updρ_same _ _ _)
              have J := I'.join n2 n13 n3 e1 e2 e3 r1 r2 r3 k2 (by rw [hc1]) (by rw [hc1, hc2])
              have S0 := S'.wr; clear S'; obtain ⟨l8, rfl, _, S'⟩ := S0
              have S' := S' w' (I'.kill i2)
              have S0 := S'.wr; clear S'; obtain ⟨l9, rfl, _, S'⟩ := S0
              have S' := S' w' ((I'.kill i2).kill i3)
              have S0 := S'.wr; clear S'; obtain ⟨l10, rfl, _, S'⟩ := S0
              have S' := S' w' J
              exact ((((((hK c vv _ ρ' _ w' S' (sub.trans sub') hc).wr).wr).wr).rd).rd).rd
            · exact S'.fail)
          obtain ⟨fn, h1, h2, h3⟩ := res
          exact ⟨fn, h1, h2, h3.mono fun e w' ⟨vv, m1, m2⟩ => ⟨vv, m1, Fin.wr (Fin.new hn2 (Fin.new hn3 m2))⟩⟩
      · rename_i o0 n0 i1 i2 i3 hg
        split at S
        · rename_i o' j hf
          cases hc : Nat.beq o o' with
          | true =>
            rw [hc] at S
            simp only [cond_true] at S
            have ho := Nat.eq_of_beq_eq_true hc
            subst ho
            obtain ⟨p, hp, hr⟩ := S.inv.ok.rep id (by rw [hg]; simp)
            rw [hg] at hr
            refine lend_ok hcal rest _ _ _ _ _ _ _ S ?_ hK
            have sp := hv'.split
            have sp2 := sp.1.split
            have key : RepVs ρ [.ptr j 0 0] ((args.toList.take (done ++ [AV.ptr id 0 o]).length).drop done.length) := by
              have h1 := sp2.2
              simp only [RepVs] at h1 ⊢
              obtain ⟨u, us, e1, r1, e2⟩ := h1
              refine ⟨u, us, e1, ?_, e2⟩
              simp only [RepV] at r1 ⊢
              obtain ⟨pp, aa, m1, m2, m3, m4⟩ := r1
              rw [hp] at m1; cases m1
              obtain ⟨_, q, hq, hqb, hql⟩ := parts_at hr hf m2
              exact ⟨q, aa.add o, hq, hqb, by omega, by rw [m4]; simp [addr_add_zero]⟩
            have := (sp2.1.append key).append sp.2
            rw [List.take_append_drop, List.take_append_drop] at this
            exact this
          | false =>
            rw [hc] at S
            exact lend_ok hcal rest _ _ _ _ _ _ _ S hv' hK
        · exact lend_ok hcal rest _ _ _ _ _ _ _ S hv' hK
      · exact lend_ok hcal rest _ _ _ _ _ _ _ S hv' hK
    · exact lend_ok hcal rest _ _ _ _ _ _ _ S hv' hK
theorem callP_ok {P : Program} {A : Ann} {f : Nat} {vs : List AV} {args : Array Value} {v : AV} {l : List Ac} {ρ : Env} {g : Hp} (hcal : ∀ ds rs, cal f ds = some rs → Contract P f (A.mode f) ds rs) (S : Sit cal (callP P A f vs) l v w0 M ρ g w) (hv : RepVs ρ vs args.toList) :
    ∃ fn, P.funcs[f]? = some fn ∧ fn.body.isSome = true ∧ Calls P f args w fun e w' => ∃ vv, e = .returned vv ∧ Fin w0 M l g ρ w' (fun ρ' => RepV ρ' v vv) := by
  unfold callP at S
  split at S
  · exact S.fail
  · exact lend_ok hcal _ _ _ _ _ _ _ _ S (by simpa using hv) (fun c vv l' ρ' g' w' S' _ hc => by
      obtain ⟨rfl, rfl⟩ := S'.ret
      exact Fin.here S'.inv hc)
end
end Go.Ev
