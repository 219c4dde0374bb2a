/- What the program's functions compute, and plain facts of it (part 3). No condition beyond those that each theorem states. -/
import Derived.Test.YtoldpdhhfmlckaaGreatQC2
set_option linter.unusedVariables false
set_option linter.unusedSimpArgs false
section
namespace Go.Proofs.YtoldpdhhfmlckaaGreat
open Go.Ev
abbrev S2 := List Int × List Int
structure Ld where
  mi : Int
  mo : Int
  ti : Int
  ou : Int
structure Pl where
  bi : Int
  bs : Int
  bo : Int
  rain : Int
  loss : Int
  dec : Int
  high : Int
  low : Int
  every : Int
def Ld.add (a b : Ld) : Ld := ⟨a.mi + b.mi, a.mo + b.mo, a.ti + b.ti, a.ou + b.ou⟩
structure Led (s s' : S2) (l : Ld) : Prop where
  m : isum s'.1 = isum s.1 + l.mi - l.mo
  t : isum s'.2 = isum s.2 + l.ti - l.ou
  mi : 0 ≤ l.mi ∧ l.mi ≤ 10000000
  mo : 0 ≤ l.mo ∧ l.mo ≤ 10000000
  ti : 0 ≤ l.ti ∧ l.ti ≤ 10000000000
  ou : 0 ≤ l.ou ∧ l.ou ≤ 10000000000
theorem qoy : ∀ (l : List Int) (i : Nat) (x : Int), i < l.length → isum (l.set i x) = isum l - l.getD i 0 + x
  | [], i, x, h => by simp at h
  | y :: l, 0, x, h => by simp only [List.set_cons_zero, isum, List.getD_cons_zero]; omega
  | y :: l, i + 1, x, h => by
    have := qoy l i x (by simpa using h)
    simp only [List.set_cons_succ, isum, List.getD_cons_succ, this]; omega
theorem qy0 (f g : Nat → Int) : ∀ n, qyz (fun j => f j + g j) n = qyz f n + qyz g n
  | 0 => rfl
  | n + 1 => by have := qy0 f g n; simp only [qyz]; omega
theorem qy4 (f g : Nat → Int) : ∀ n, qyz (fun j => f j - g j) n = qyz f n - qyz g n
  | 0 => rfl
  | n + 1 => by have := qy4 f g n; simp only [qyz]; omega
theorem qy3 {f : Nat → Int} : ∀ n, (∀ j, j < n → 0 ≤ f j) → 0 ≤ qyz f n
  | 0, h => Int.le_refl _
  | n + 1, h => by have := qy3 n fun j hj => h j (by omega); have := h n (by omega); simp only [qyz]; omega
theorem qy1 {f g : Nat → Int} : ∀ n, (∀ j, j < n → f j ≤ g j) → qyz f n ≤ qyz g n
  | 0, h => Int.le_refl _
  | n + 1, h => by have := qy1 n fun j hj => h j (by omega); have := h n (by omega); simp only [qyz]; omega
theorem StF.tle {r : Int} {l : List Cell} {m t b : List Int} (F : StF r l m t b) : 0 ≤ isum t ∧ isum t ≤ 10000000000 := by
  have e : isum t ≤ 1000 * isum m := by
    rw [qoz t, qoz m, F.tl, F.ml]
    have : ∀ n, qyz (fun j => t.getD j 0) n ≤ 1000 * qyz (fun j => m.getD j 0) n := by
      intro n
      induction n with
      | zero => simp [qyz]
      | succ n ih => have := F.at n; simp only [qyz]; omega
    exact this _
  have := F.tsum; have := F.msum
  omega
theorem StF.mk' {r : Int} {l : List Cell} {m t b m' t' : List Int} (F : StF r l m t b) (hm : m'.length = l.length) (ht : t'.length = l.length) (h : ∀ i, i < l.length → 0 ≤ m'.getD i 0 ∧ 0 ≤ t'.getD i 0 ∧ t'.getD i 0 ≤ 1000 * m'.getD i 0) (hs : isum m' ≤ 10000000) : StF r l m' t' b := by
  refine ⟨F.mesh, F.bal, hm, ht, F.bl, ?_, F.bed, hs⟩
  refine qtn _ _ (by omega) fun i hi => ?_
  have a := h i (by omega)
  have nn : ∀ x ∈ m', 0 ≤ x := by
    intro x hx
    obtain ⟨j, hj, rfl⟩ := List.getElem_of_mem hx
    have := (h j (by omega)).1
    rwa [List.getD_eq_getElem?_getD, List.getElem?_eq_getElem hj, Option.getD_some] at this
  have := qns m' nn _ (qoa hi 0)
  exact ⟨⟨a.1, by omega⟩, a.2⟩
def boX (o : Int) (m : List Int) : Int := m.getD (m.length - 1) 0 * o / 1000
def boY (o : Int) (m t : List Int) : Int := qx2 (t.getD (m.length - 1) 0) (boX o m) (m.getD (m.length - 1) 0)
def bo1 (o : Int) (s : S2) : S2 := (s.1.set (s.1.length - 1) (s.1.getD (s.1.length - 1) 0 - boX o s.1), s.2.set (s.1.length - 1) (s.2.getD (s.1.length - 1) 0 - boY o s.1 s.2))
def bo2 (a c : Int) (s : S2) : S2 := (s.1.set 0 (s.1.getD 0 0 + a), s.2.set 0 (s.2.getD 0 0 + a * c))
def boS (a c o : Int) (s : S2) : S2 × Ld := if isum (bo1 o s).1 + a ≤ 10000000 then (bo2 a c (bo1 o s), ⟨a, boX o s.1, a * c, boY o s.1 s.2⟩) else (bo1 o s, ⟨0, boX o s.1, 0, boY o s.1 s.2⟩)
section
variable {r : Int} {l : List Cell} {m t b : List Int}
theorem qul {x y p : Int} (hx : 0 ≤ x ∧ x ≤ 10000000) (hy : 0 ≤ y ∧ y ≤ 1000 * x) (hp : 0 ≤ p ∧ p ≤ x) : (0 ≤ qx2 y p x ∧ qx2 y p x ≤ y) ∧ y - qx2 y p x ≤ 1000 * (x - p) := by
  by_cases h : 1 ≤ x
  · have := qx7 h hp.1 hp.2 hy.1 hy.2
    rw [qx3 h hx.2 hp.1 hp.2 hy.1 hy.2]
    omega
  · have e : qx2 y p x = 0 := by
      unfold qx2
      have : inR x 1 10000000 = false := by rw [← Bool.not_eq_true, qoo]; omega
      rw [this]; rfl
    rw [e]; omega
theorem qa5 (F : StF r l m t b) {o : Int} (ho : 0 ≤ o ∧ o ≤ 250) : 0 ≤ boX o m ∧ boX o m ≤ m.getD (m.length - 1) 0 := by
  have a := F.at (m.length - 1)
  unfold boX
  have h1 : 0 ≤ m.getD (m.length - 1) 0 * o := Int.mul_nonneg a.1 ho.1
  have h2 : m.getD (m.length - 1) 0 * o ≤ m.getD (m.length - 1) 0 * 250 := Int.mul_le_mul_of_nonneg_left ho.2 a.1
  omega
theorem qa6 (F : StF r l m t b) {o : Int} (ho : 0 ≤ o ∧ o ≤ 250) : (0 ≤ boY o m t ∧ boY o m t ≤ t.getD (m.length - 1) 0) ∧ t.getD (m.length - 1) 0 - boY o m t ≤ 1000 * (m.getD (m.length - 1) 0 - boX o m) := by
  have a := F.at (m.length - 1)
  exact qul ⟨a.1, a.2.1⟩ a.2.2 (qa5 F ho)
theorem qxw {x : List Int} {i j : Nat} {v : Int} (h : i < x.length) : (x.set i v).getD j 0 = if i = j then v else x.getD j 0 := by
  rw [qxx]
  by_cases e : i = j
  · rw [if_pos ⟨e, h⟩, if_pos e]
  · rw [if_neg (fun c => e c.1), if_neg e]
theorem qa3 (F : StF r l m t b) {o : Int} (ho : 0 ≤ o ∧ o ≤ 250) : StF r l (bo1 o (m, t)).1 (bo1 o (m, t)).2 b ∧ isum (bo1 o (m, t)).1 = isum m - boX o m ∧ isum (bo1 o (m, t)).2 = isum t - boY o m t := by
  have L := F.len; have ml := F.ml; have tl := F.tl
  have x := qa5 F ho; have y := qa6 F ho
  have e1 : isum (bo1 o (m, t)).1 = isum m - boX o m := by
    show isum (m.set (m.length - 1) (m.getD (m.length - 1) 0 - boX o m)) = _
    rw [qoy _ _ _ (by omega)]; omega
  have e2 : isum (bo1 o (m, t)).2 = isum t - boY o m t := by
    show isum (t.set (m.length - 1) (t.getD (m.length - 1) 0 - boY o m t)) = _
    rw [qoy _ _ _ (by omega)]; omega
  refine ⟨F.mk' (by show (m.set _ _).length = _; rw [List.length_set]; exact ml) (by show (t.set _ _).length = _; rw [List.length_set]; exact tl) (fun i hi => ?_) (by rw [e1]; have := F.msum; omega), e1, e2⟩
  have a := F.at i
  show 0 ≤ (m.set (m.length - 1) (m.getD (m.length - 1) 0 - boX o m)).getD i 0 ∧ 0 ≤ (t.set (m.length - 1) (t.getD (m.length - 1) 0 - boY o m t)).getD i 0 ∧ (t.set (m.length - 1) (t.getD (m.length - 1) 0 - boY o m t)).getD i 0 ≤ 1000 * (m.set (m.length - 1) (m.getD (m.length - 1) 0 - boX o m)).getD i 0
  rw [qxw (by omega), qxw (by omega)]
  by_cases g : m.length - 1 = i
  · rw [if_pos g, if_pos g]; omega
  · rw [if_neg g, if_neg g]; omega
theorem qop {a c : Int} (ha : 0 ≤ a ∧ a ≤ 10000) (hc : 0 ≤ c ∧ c ≤ 1000) : 0 ≤ a * c ∧ a * c ≤ 1000 * a := by
  have h1 := Int.mul_nonneg ha.1 hc.1
  have h2 : a * c ≤ a * 1000 := Int.mul_le_mul_of_nonneg_left hc.2 ha.1
  omega
theorem qa4 (F : StF r l m t b) {a c o : Int} (ha : 0 ≤ a ∧ a ≤ 10000) (hc : 0 ≤ c ∧ c ≤ 1000) (ho : 0 ≤ o ∧ o ≤ 250) : StF r l (boS a c o (m, t)).1.1 (boS a c o (m, t)).1.2 b ∧ Led (m, t) (boS a c o (m, t)).1 (boS a c o (m, t)).2 := by
  obtain ⟨G, e1, e2⟩ := qa3 F ho
  have L := F.len; have ml := F.ml; have tl := F.tl
  have x := qa5 F ho; have y := (qa6 F ho).1; have p := qop ha hc
  have fa := F.at (m.length - 1)
  unfold boS
  by_cases g : isum (bo1 o (m, t)).1 + a ≤ 10000000
  · rw [if_pos g]
    have gl := G.ml; have gt := G.tl
    have s1 : isum (bo2 a c (bo1 o (m, t))).1 = isum (bo1 o (m, t)).1 + a := by
      show isum ((bo1 o (m, t)).1.set 0 ((bo1 o (m, t)).1.getD 0 0 + a)) = _
      rw [qoy _ _ _ (by omega)]; omega
    have s2 : isum (bo2 a c (bo1 o (m, t))).2 = isum (bo1 o (m, t)).2 + a * c := by
      show isum ((bo1 o (m, t)).2.set 0 ((bo1 o (m, t)).2.getD 0 0 + a * c)) = _
      rw [qoy _ _ _ (by omega)]; omega
    refine ⟨G.mk' (by show (List.set _ _ _).length = _; rw [List.length_set]; exact gl) (by show (List.set _ _ _).length = _; rw [List.length_set]; exact gt) (fun i hi => ?_) (by show isum (bo2 a c (bo1 o (m, t))).1 ≤ _; rw [s1]; exact g), ⟨?_, ?_, ⟨ha.1, by show a ≤ _; omega⟩, ⟨x.1, by show boX o m ≤ _; omega⟩, ⟨p.1, by show a * c ≤ _; omega⟩, ⟨y.1, by show boY o m t ≤ _; omega⟩⟩⟩
    · have q := G.at i
      show 0 ≤ ((bo1 o (m, t)).1.set 0 ((bo1 o (m, t)).1.getD 0 0 + a)).getD i 0 ∧ 0 ≤ ((bo1 o (m, t)).2.set 0 ((bo1 o (m, t)).2.getD 0 0 + a * c)).getD i 0 ∧ ((bo1 o (m, t)).2.set 0 ((bo1 o (m, t)).2.getD 0 0 + a * c)).getD i 0 ≤ 1000 * ((bo1 o (m, t)).1.set 0 ((bo1 o (m, t)).1.getD 0 0 + a)).getD i 0
      rw [qxw (by omega), qxw (by omega)]
      by_cases h : 0 = i
      · subst h; rw [if_pos rfl, if_pos rfl]; omega
      · rw [if_neg h, if_neg h]; omega
    · show isum (bo2 a c (bo1 o (m, t))).1 = isum m + a - boX o m; omega
    · show isum (bo2 a c (bo1 o (m, t))).2 = isum t + a * c - boY o m t; omega
  · rw [if_neg g]
    refine ⟨G, ⟨?_, ?_, ⟨Int.le_refl _, by show (0 : Int) ≤ _; omega⟩, ⟨x.1, by show boX o m ≤ _; omega⟩, ⟨Int.le_refl _, by show (0 : Int) ≤ _; omega⟩, ⟨y.1, by show boY o m t ≤ _; omega⟩⟩⟩
    · show isum (bo1 o (m, t)).1 = isum m + 0 - boX o m; omega
    · show isum (bo1 o (m, t)).2 = isum t + 0 - boY o m t; omega
end
def part (a : Int) (l : List Cell) (j : Nat) : Int := a * qz7 (qq8 l j) / 16
theorem qup {a : Int} (ha : 0 ≤ a ∧ a ≤ 10000) (l : List Cell) (j : Nat) : 0 ≤ part a l j ∧ part a l j ≤ a := by
  have w := qz9 (qq8 l j)
  unfold part
  have h1 := Int.mul_nonneg ha.1 w.1
  have h2 : a * qz7 (qq8 l j) ≤ a * 16 := Int.mul_le_mul_of_nonneg_left w.2 ha.1
  omega
def raS (a : Int) (l : List Cell) (s : S2) : S2 × Ld := if isum s.1 + qyz (part a l) l.length ≤ 10000000 then ((tab l.length (fun j => s.1.getD j 0 + part a l j), s.2), ⟨qyz (part a l) l.length, 0, 0, 0⟩) else (s, ⟨0, 0, 0, 0⟩)
def soX (a : Int) (l : List Cell) (m : List Int) (j : Nat) : Int := min (m.getD j 0) (part a l j)
def soY (a : Int) (l : List Cell) (m t : List Int) (j : Nat) : Int := qx2 (t.getD j 0) (soX a l m j) (m.getD j 0)
def soS (a : Int) (l : List Cell) (s : S2) : S2 × Ld := ((tab l.length (fun j => s.1.getD j 0 - soX a l s.1 j), tab l.length (fun j => s.2.getD j 0 - soY a l s.1 s.2 j)), ⟨0, qyz (soX a l s.1) l.length, 0, qyz (soY a l s.1 s.2) l.length⟩)
def deX (a : Int) (t : List Int) (j : Nat) : Int := t.getD j 0 * a / 1000
def deS (a : Int) (l : List Cell) (s : S2) : S2 × Ld := ((s.1, tab l.length (fun j => s.2.getD j 0 - deX a s.2 j)), ⟨0, 0, 0, qyz (deX a s.2) l.length⟩)
section
variable {r : Int} {l : List Cell} {m t b : List Int}
theorem quq {a : Int} (ha : 0 ≤ a ∧ a ≤ 10000) (l : List Cell) : ∀ n : Nat, 0 ≤ qyz (part a l) n ∧ qyz (part a l) n ≤ 10000 * n
  | 0 => by simp [qyz]
  | n + 1 => by have := quq ha l n; have := qup ha l n; simp only [qyz]; omega
theorem qu1 (F : StF r l m t b) {a : Int} (ha : 0 ≤ a ∧ a ≤ 10000) : StF r l (raS a l (m, t)).1.1 (raS a l (m, t)).1.2 b ∧ Led (m, t) (raS a l (m, t)).1 (raS a l (m, t)).2 := by
  have L := F.len; have ml := F.ml; have tl := F.tl
  have p := quq ha l l.length
  unfold raS
  by_cases g : isum m + qyz (part a l) l.length ≤ 10000000
  · rw [if_pos g]
    have e1 : isum (tab l.length (fun j => m.getD j 0 + part a l j)) = isum m + qyz (part a l) l.length := by
      rw [qo0, qy0, qoz m, ml]
    refine ⟨F.mk' (qza _ _) tl (fun i hi => ?_) (by show isum (tab l.length (fun j => m.getD j 0 + part a l j)) ≤ 10000000; omega), ⟨?_, ?_, ⟨p.1, by show qyz _ _ ≤ _; have := F.msum; omega⟩, ⟨Int.le_refl _, by show (0 : Int) ≤ _; omega⟩, ⟨Int.le_refl _, by show (0 : Int) ≤ _; omega⟩, ⟨Int.le_refl _, by show (0 : Int) ≤ _; omega⟩⟩⟩
    · have a1 := F.at i; have a2 := qup ha l i
      show 0 ≤ (tab l.length (fun j => m.getD j 0 + part a l j)).getD i 0 ∧ 0 ≤ t.getD i 0 ∧ t.getD i 0 ≤ 1000 * (tab l.length (fun j => m.getD j 0 + part a l j)).getD i 0
      rw [qy9 hi]; omega
    · show isum (tab l.length (fun j => m.getD j 0 + part a l j)) = isum m + qyz (part a l) l.length - 0; omega
    · show isum t = isum t + 0 - 0; omega
  · rw [if_neg g]
    refine ⟨F, ⟨?_, ?_, ⟨Int.le_refl _, by show (0 : Int) ≤ _; omega⟩, ⟨Int.le_refl _, by show (0 : Int) ≤ _; omega⟩, ⟨Int.le_refl _, by show (0 : Int) ≤ _; omega⟩, ⟨Int.le_refl _, by show (0 : Int) ≤ _; omega⟩⟩⟩
    · show isum m = isum m + 0 - 0; omega
    · show isum t = isum t + 0 - 0; omega
theorem qyc (F : StF r l m t b) {a : Int} (ha : 0 ≤ a ∧ a ≤ 10000) (j : Nat) : 0 ≤ soX a l m j ∧ soX a l m j ≤ m.getD j 0 := by
  have a1 := F.at j; have a2 := qup ha l j
  unfold soX; omega
theorem qyd (F : StF r l m t b) {a : Int} (ha : 0 ≤ a ∧ a ≤ 10000) (j : Nat) : (0 ≤ soY a l m t j ∧ soY a l m t j ≤ t.getD j 0) ∧ t.getD j 0 - soY a l m t j ≤ 1000 * (m.getD j 0 - soX a l m j) := by
  have a1 := F.at j
  exact qul ⟨a1.1, a1.2.1⟩ a1.2.2 (qyc F ha j)
theorem qye (F : StF r l m t b) {a : Int} (ha : 0 ≤ a ∧ a ≤ 10000) (n : Nat) : (0 ≤ qyz (soX a l m) n ∧ qyz (soX a l m) n ≤ qyz (fun j => m.getD j 0) n) ∧ 0 ≤ qyz (soY a l m t) n ∧ qyz (soY a l m t) n ≤ qyz (fun j => t.getD j 0) n :=
  ⟨⟨qy3 n fun j _ => (qyc F ha j).1, qy1 n fun j _ => (qyc F ha j).2⟩, qy3 n fun j _ => (qyd F ha j).1.1, qy1 n fun j _ => (qyd F ha j).1.2⟩
theorem qyb (F : StF r l m t b) {a : Int} (ha : 0 ≤ a ∧ a ≤ 10000) : StF r l (soS a l (m, t)).1.1 (soS a l (m, t)).1.2 b ∧ Led (m, t) (soS a l (m, t)).1 (soS a l (m, t)).2 := by
  have L := F.len; have ml := F.ml; have tl := F.tl
  have p := qye F ha l.length
  have ms := F.msum; have ts := F.tle
  have e1 : isum (tab l.length (fun j => m.getD j 0 - soX a l m j)) = isum m - qyz (soX a l m) l.length := by rw [qo0, qy4, qoz m, ml]
  have e2 : isum (tab l.length (fun j => t.getD j 0 - soY a l m t j)) = isum t - qyz (soY a l m t) l.length := by rw [qo0, qy4, qoz t, tl]
  have q1 := qoz m; have q2 := qoz t
  rw [ml] at q1; rw [tl] at q2
  refine ⟨F.mk' (qza _ _) (qza _ _) (fun i hi => ?_) (by show isum (tab l.length (fun j => m.getD j 0 - soX a l m j)) ≤ 10000000; omega), ⟨?_, ?_, ⟨Int.le_refl _, by show (0 : Int) ≤ _; omega⟩, ⟨p.1.1, by show qyz (soX a l m) _ ≤ _; omega⟩, ⟨Int.le_refl _, by show (0 : Int) ≤ _; omega⟩, ⟨p.2.1, by show qyz (soY a l m t) _ ≤ _; omega⟩⟩⟩
  · have a1 := F.at i; have a2 := qyc F ha i; have a3 := qyd F ha i
    show 0 ≤ (tab l.length (fun j => m.getD j 0 - soX a l m j)).getD i 0 ∧ 0 ≤ (tab l.length (fun j => t.getD j 0 - soY a l m t j)).getD i 0 ∧ (tab l.length (fun j => t.getD j 0 - soY a l m t j)).getD i 0 ≤ 1000 * (tab l.length (fun j => m.getD j 0 - soX a l m j)).getD i 0
    rw [qy9 hi, qy9 hi]; omega
  · show isum (tab l.length (fun j => m.getD j 0 - soX a l m j)) = isum m + 0 - qyz (soX a l m) l.length; omega
  · show isum (tab l.length (fun j => t.getD j 0 - soY a l m t j)) = isum t + 0 - qyz (soY a l m t) l.length; omega
theorem qhx (F : StF r l m t b) {a : Int} (ha : 0 ≤ a ∧ a ≤ 1000) (j : Nat) : 0 ≤ deX a t j ∧ deX a t j ≤ t.getD j 0 := by
  have a1 := F.at j
  unfold deX
  have h1 := Int.mul_nonneg a1.2.2.1 ha.1
  have h2 : t.getD j 0 * a ≤ t.getD j 0 * 1000 := Int.mul_le_mul_of_nonneg_left ha.2 a1.2.2.1
  omega
theorem qhw (F : StF r l m t b) {a : Int} (ha : 0 ≤ a ∧ a ≤ 1000) : StF r l (deS a l (m, t)).1.1 (deS a l (m, t)).1.2 b ∧ Led (m, t) (deS a l (m, t)).1 (deS a l (m, t)).2 := by
  have L := F.len; have ml := F.ml; have tl := F.tl
  have p1 := qy3 l.length fun j _ => (qhx F ha j).1
  have p2 := qy1 l.length fun j _ => (qhx F ha j).2
  have ts := F.tle
  have e2 : isum (tab l.length (fun j => t.getD j 0 - deX a t j)) = isum t - qyz (deX a t) l.length := by rw [qo0, qy4, qoz t, tl]
  have q2 := qoz t
  rw [tl] at q2
  refine ⟨F.mk' ml (qza _ _) (fun i hi => ?_) F.sum, ⟨?_, ?_, ⟨Int.le_refl _, by show (0 : Int) ≤ _; omega⟩, ⟨Int.le_refl _, by show (0 : Int) ≤ _; omega⟩, ⟨Int.le_refl _, by show (0 : Int) ≤ _; omega⟩, ⟨p1, by show qyz (deX a t) _ ≤ _; omega⟩⟩⟩
  · have a1 := F.at i; have a2 := qhx F ha i
    show 0 ≤ m.getD i 0 ∧ 0 ≤ (tab l.length (fun j => t.getD j 0 - deX a t j)).getD i 0 ∧ (tab l.length (fun j => t.getD j 0 - deX a t j)).getD i 0 ≤ 1000 * m.getD i 0
    rw [qy9 hi]; omega
  · show isum m = isum m + 0 - 0; omega
  · show isum (tab l.length (fun j => t.getD j 0 - deX a t j)) = isum t + 0 - qyz (deX a t) l.length; omega
end
def tick (l : List Cell) (b : List Int) (i : Nat) (s : S2) : S2 := (tab l.length (stM (i : Int) l s.1 b), tab l.length (stT (i : Int) l s.1 s.2 b))
def qzk (l : List Cell) (b : List Int) : Nat → Nat → S2 → S2
  | 0, i, s => s
  | n + 1, i, s => qzk l b n (i + 1) (tick l b i s)
theorem qzl {r : Int} {l : List Cell} {b : List Int} : ∀ (n i : Nat) (s : S2), StF r l s.1 s.2 b → StF r l (qzk l b n i s).1 (qzk l b n i s).2 b ∧ isum (qzk l b n i s).1 = isum s.1 ∧ isum (qzk l b n i s).2 = isum s.2
  | 0, i, s, F => ⟨F, rfl, rfl⟩
  | n + 1, i, s, F => by
    have h := qzl n (i + 1) (tick l b i s) (qyu F i)
    exact ⟨h.1, h.2.1.trans (qyv F i), h.2.2.trans (qyw F i)⟩
end Go.Proofs.YtoldpdhhfmlckaaGreat
end
section
namespace Go.Proofs.YtoldpdhhfmlckaaGreat
open Go.Ev
structure StV (r : Int) (s : S3) (b : List Int) (M T : Int) : Prop where
  u : StU r s b
  m : isum s.2.1 = M
  t : isum s.2.2 = T
theorem rf_V {r : Int} {s : S3} {b : List Int} {M T : Int} (V : StV r s b M T) {i : Nat} (hi : i < s.1.length) (hl : qq8 s.1 i < 4) : StV r (rfS s i) b M T := by
  have ml := V.u.ml; have tl := V.u.tl
  exact ⟨rf_U V.u hi hl, by show isum (rfM s.2.1 i) = M; rw [qvn (by omega) (V.u.at i).1]; exact V.m, by show isum (rfT s.2.2 s.2.1 i) = T; rw [qvp (by omega)]; exact V.t⟩
theorem cm_V {r : Int} {s : S3} {b : List Int} {M T : Int} (V : StV r s b M T) {i : Nat} (hi : i + 1 < s.1.length) (hs : sib (s.1.getD i zz3) (s.1.getD (i + 1) zz3) = true) : StV r (cmS s i) b M T := by
  have ml := V.u.ml; have tl := V.u.tl
  exact ⟨cm_U V.u hi hs, by show isum (cmM s.2.1 i) = M; rw [qhh (by omega)]; exact V.m, by show isum (cmM s.2.2 i) = T; rw [qhh (by omega)]; exact V.t⟩
theorem qrg {r : Int} {b : List Int} {M T : Int} : ∀ (n : Nat) (s : S3), StV r s b M T → 129 ≤ n + s.1.length → StV r (lvS n s) b M T
  | 0, s, V, hn => V
  | n + 1, s, V, hn => by
    unfold lvS
    by_cases g : unb s.1 < 0
    · rw [if_pos g]; exact V
    · rw [if_neg g]
      obtain ⟨j, e, h1, h2⟩ := qzv (by omega : 0 ≤ unb s.1)
      have c := qhj V.u.mesh h1 h2
      rw [e, Int.toNat_natCast]
      exact qrg n _ (rf_V V c.1 c.2) (by show 129 ≤ n + (qyh s.1 _).length; rw [qyi c.1]; omega)
theorem qyg {r : Int} {b : List Int} {M T : Int} (w : List Int) (l0 : List Cell) (hw : ∀ j, w.getD j 0 = 1 → qq8 l0 j < 4) : ∀ (n : Nat) (s : S3), StV r s b M T → n ≤ s.1.length → (∀ j, j < n → s.1.getD j zz3 = l0.getD j zz3) → StV r (spS w n s) b M T
  | 0, s, V, hn, he => V
  | n + 1, s, V, hn, he => by
    unfold spS
    by_cases g : w.getD n 0 = 1
    · rw [if_pos g]
      have hl : qq8 s.1 n < 4 := by have := hw n g; unfold qq8 at *; rw [he n (by omega)]; exact this
      exact qyg w l0 hw n _ (rf_V V (by omega) hl) (by show n ≤ (qyh s.1 n).length; rw [qyi (by omega)]; omega) fun j hj => by
        show (qyh s.1 n).getD j zz3 = _
        rw [qyj (by omega) hj]; exact he j (by omega)
    · rw [if_neg g]
      exact qyg w l0 hw n s V (by omega) fun j hj => he j (by omega)
theorem qt2 {r : Int} {b : List Int} {M T : Int} (P : Cell → Bool) : ∀ (n i : Nat) (s : S3), StV r s b M T → StV r (mgS P n i s) b M T
  | 0, i, s, V => V
  | n + 1, i, s, V => by
    unfold mgS
    by_cases g : i + 1 < s.1.length
    · rw [if_pos g]
      by_cases h : (P (s.1.getD i zz3) && (P (s.1.getD (i + 1) zz3) && mayC s.1 i)) = true
      · rw [if_pos h]
        simp only [Bool.and_eq_true, mayC] at h
        exact qt2 P n (i + 1) _ (cm_V V g h.2.2.1)
      · rw [if_neg h]; exact qt2 P n (i + 1) s V
    · rw [if_neg g]; exact V
def ada (hi lo : Int) (b : List Int) (s : S3) : S3 := adS (tab s.1.length (wsh s.1 s.2.1 b hi lo)) s
theorem qat {r : Int} {s : S3} {b : List Int} (F : StF r s.1 s.2.1 s.2.2 b) (hi lo : Int) : StF r (ada hi lo b s).1 (ada hi lo b s).2.1 (ada hi lo b s).2.2 b ∧ isum (ada hi lo b s).2.1 = isum s.2.1 ∧ isum (ada hi lo b s).2.2 = isum s.2.2 := by
  have V := qyg (M := isum s.2.1) (T := isum s.2.2) (tab s.1.length (wsh s.1 s.2.1 b hi lo)) s.1 q0h s.1.length s ⟨F.toU, rfl, rfl⟩ (Nat.le_refl _) (fun j hj => rfl)
  have W := qrg 128 _ V (by have := V.u.len; omega)
  have X := qt2 (Pw (tab s.1.length (wsh s.1 s.2.1 b hi lo)) s.1) 128 0 _ W
  exact ⟨ad_U F hi lo, X.m, X.t⟩
def flow (p : Pl) (l : List Cell) (b : List Int) (s : S2) : S2 × Ld :=
  let s1 := boS p.bi p.bs p.bo s
  let s2 := raS p.rain l s1.1
  let s3 := soS p.loss l s2.1
  let s4 := deS p.dec l s3.1
  (qzk l b 16 0 s4.1, ((s1.2.add s2.2).add s3.2).add s4.2)
def mac (p : Pl) (b : List Int) (k : Int) (s : S3) : S3 × Ld :=
  let x := flow p s.1 b s.2
  (if 0 < p.every ∧ (k + 1) % p.every = 0 then ada p.high p.low b (s.1, x.1) else (s.1, x.1), x.2)
structure PlF (p : Pl) : Prop where
  bi : 0 ≤ p.bi ∧ p.bi ≤ 10000
  bs : 0 ≤ p.bs ∧ p.bs ≤ 1000
  bo : 0 ≤ p.bo ∧ p.bo ≤ 250
  rain : 0 ≤ p.rain ∧ p.rain ≤ 10000
  loss : 0 ≤ p.loss ∧ p.loss ≤ 10000
  dec : 0 ≤ p.dec ∧ p.dec ≤ 1000
  high : 0 ≤ p.high ∧ p.high ≤ 1000000
  low : 0 ≤ p.low ∧ p.low ≤ 1000000
  every : 0 ≤ p.every ∧ p.every ≤ 100
structure Led4 (s s' : S2) (l : Ld) : Prop where
  m : isum s'.1 = isum s.1 + l.mi - l.mo
  t : isum s'.2 = isum s.2 + l.ti - l.ou
  mi : 0 ≤ l.mi ∧ l.mi ≤ 40000000
  mo : 0 ≤ l.mo ∧ l.mo ≤ 40000000
  ti : 0 ≤ l.ti ∧ l.ti ≤ 40000000000
  ou : 0 ≤ l.ou ∧ l.ou ≤ 40000000000
theorem Led4.comb {s s1 s2 s3 s4 s5 : S2} {l1 l2 l3 l4 : Ld} (h1 : Led s s1 l1) (h2 : Led s1 s2 l2) (h3 : Led s2 s3 l3) (h4 : Led s3 s4 l4) (e1 : isum s5.1 = isum s4.1) (e2 : isum s5.2 = isum s4.2) : Led4 s s5 (((l1.add l2).add l3).add l4) := by
  have a1 := h1.m; have a2 := h2.m; have a3 := h3.m; have a4 := h4.m
  have b1 := h1.t; have b2 := h2.t; have b3 := h3.t; have b4 := h4.t
  have c1 := h1.mi; have c2 := h2.mi; have c3 := h3.mi; have c4 := h4.mi
  have d1 := h1.mo; have d2 := h2.mo; have d3 := h3.mo; have d4 := h4.mo
  have f1 := h1.ti; have f2 := h2.ti; have f3 := h3.ti; have f4 := h4.ti
  have g1 := h1.ou; have g2 := h2.ou; have g3 := h3.ou; have g4 := h4.ou
  refine ⟨?_, ?_, ?_, ?_, ?_, ?_⟩
  · show isum s5.1 = isum s.1 + (l1.mi + l2.mi + l3.mi + l4.mi) - (l1.mo + l2.mo + l3.mo + l4.mo); omega
  · show isum s5.2 = isum s.2 + (l1.ti + l2.ti + l3.ti + l4.ti) - (l1.ou + l2.ou + l3.ou + l4.ou); omega
  · show 0 ≤ l1.mi + l2.mi + l3.mi + l4.mi ∧ l1.mi + l2.mi + l3.mi + l4.mi ≤ 40000000; omega
  · show 0 ≤ l1.mo + l2.mo + l3.mo + l4.mo ∧ l1.mo + l2.mo + l3.mo + l4.mo ≤ 40000000; omega
  · show 0 ≤ l1.ti + l2.ti + l3.ti + l4.ti ∧ l1.ti + l2.ti + l3.ti + l4.ti ≤ 40000000000; omega
  · show 0 ≤ l1.ou + l2.ou + l3.ou + l4.ou ∧ l1.ou + l2.ou + l3.ou + l4.ou ≤ 40000000000; omega
theorem qn5 {r : Int} {l : List Cell} {b : List Int} {s : S2} (F : StF r l s.1 s.2 b) {p : Pl} (P : PlF p) : StF r l (flow p l b s).1.1 (flow p l b s).1.2 b ∧ Led4 s (flow p l b s).1 (flow p l b s).2 := by
  have h1 := qa4 F P.bi P.bs P.bo
  have h2 := qu1 h1.1 P.rain
  have h3 := qyb h2.1 P.loss
  have h4 := qhw h3.1 P.dec
  have h5 := qzl 16 0 _ h4.1
  exact ⟨h5.1, Led4.comb h1.2 h2.2 h3.2 h4.2 h5.2.1 h5.2.2⟩
theorem qtd {r : Int} {b : List Int} {s : S3} (F : StF r s.1 s.2.1 s.2.2 b) {p : Pl} (P : PlF p) (k : Int) : StF r (mac p b k s).1.1 (mac p b k s).1.2.1 (mac p b k s).1.2.2 b ∧ Led4 s.2 (mac p b k s).1.2 (mac p b k s).2 := by
  have h := qn5 (s := s.2) F P
  unfold mac
  by_cases g : 0 < p.every ∧ (k + 1) % p.every = 0
  · simp only [if_pos g]
    have a := qat (s := (s.1, (flow p s.1 b s.2).1)) h.1 p.high p.low
    exact ⟨a.1, ⟨a.2.1.trans h.2.m, a.2.2.trans h.2.t, h.2.mi, h.2.mo, h.2.ti, h.2.ou⟩⟩
  · simp only [if_neg g]
    exact h
end Go.Proofs.YtoldpdhhfmlckaaGreat
end
section
namespace Go.Proofs.YtoldpdhhfmlckaaGreat
open Go.Ev
theorem qjr (k : Nat) (a0 : Int) (a1z : Bool) (a1 : List (Int × Int × Int)) (a2z : Bool) (a2 : List Int) (a3z : Bool) (a3 : List Int) (a4z : Bool) (a4 : List Int) (b c d0 d1 d2 d3 : Int) : go (k + 1) impl_State_remove [(.ptr true [(.int .i64 (a0)), (.arr true (a1z) (.r3 (a1))), (.arr true (a2z) (.ints .i64 (a2))), (.arr true (a3z) (.ints .i64 (a3))), (.arr true (a4z) (.ints .i64 (a4)))]), (.int .i64 (b)), (.int .i64 (c)), (.ptr true [(.int .i64 (d0)), (.int .i64 (d1)), (.int .i64 (d2)), (.int .i64 (d3))])] =
 cond (decide ((0 : Int) ≤ b) && decide (b < nI (List.length a3)))
 (cond (decide ((0 : Int) ≤ b) && decide (b < nI (List.length a2)))
 ((go k impl_ShareOut [(.int .i64 (List.getD a3 (Int.toNat b) (0 : Int))), (.int .i64 (c)), (.int .i64 (List.getD a2 (Int.toNat b) (0 : Int)))]).bind fun r0 =>
 cond (decide ((0 : Int) ≤ b) && decide (b < nI (List.length a2)))
 (cond (decide ((0 : Int) ≤ b) && decide (b < nI (List.length a2)))
 (cond (decide ((0 : Int) ≤ b) && decide (b < nI (List.length a3)))
 (cond (decide ((0 : Int) ≤ b) && decide (b < nI (List.length a3)))
 (some [(.ptr true [(.int .i64 (a0)), (.arr true (a1z) (.r3 (a1))), (.arr true (a2z) (.ints .i64 (List.set a2 (Int.toNat b) (IntKind.wrap .i64 (List.getD a2 (Int.toNat b) (0 : Int) - c))))), (.arr true (a3z) (.ints .i64 (List.set a3 (Int.toNat b) (IntKind.wrap .i64 (List.getD a3 (Int.toNat b) (0 : Int) - D.toInt (nth r0 0)))))), (.arr true (a4z) (.ints .i64 (a4)))]), (.ptr true [(.int .i64 (d0)), (.int .i64 (IntKind.wrap .i64 (d1 + c))), (.int .i64 (d2)), (.int .i64 (IntKind.wrap .i64 (d3 + D.toInt (nth r0 0))))])])
 (none))
 (none))
 (none))
 (none))
 (none))
 (none) := by kernel_rfl
theorem qje (k : Nat) (a0 : Int) (a1z : Bool) (a1 : List (Int × Int × Int)) (a2z : Bool) (a2 : List Int) (a3z : Bool) (a3 : List Int) (a4z : Bool) (a4 : List Int) (b0 b1 b2 : Int) : go (k + 1) impl_State_border [(.ptr true [(.int .i64 (a0)), (.arr true (a1z) (.r3 (a1))), (.arr true (a2z) (.ints .i64 (a2))), (.arr true (a3z) (.ints .i64 (a3))), (.arr true (a4z) (.ints .i64 (a4)))]), (.agg [(.int .i64 (b0)), (.int .i64 (b1)), (.int .i64 (b2))])] =
 cond (decide ((0 : Int) ≤ IntKind.wrap .i64 (nI (List.length a2) - (1 : Int))) && decide (IntKind.wrap .i64 (nI (List.length a2) - (1 : Int)) < nI (List.length a2)))
 ((go k impl_State_remove [(.ptr true [(.int .i64 (a0)), (.arr true (a1z) (.r3 (a1))), (.arr true (a2z) (.ints .i64 (a2))), (.arr true (a3z) (.ints .i64 (a3))), (.arr true (a4z) (.ints .i64 (a4)))]), (.int .i64 (IntKind.wrap .i64 (nI (List.length a2) - (1 : Int)))), (.int .i64 (IntKind.wrap .i64 (Int.tdiv (IntKind.wrap .i64 (List.getD a2 (Int.toNat (IntKind.wrap .i64 (nI (List.length a2) - (1 : Int)))) (0 : Int) * b2)) (1000 : Int)))), (.ptr true [(.int .i64 (0 : Int)), (.int .i64 (0 : Int)), (.int .i64 (0 : Int)), (.int .i64 (0 : Int))])]).bind fun r0 =>
 (go k impl_sum [(.arr false (D.nil (D.cell 2 (nth r0 0))) (.ints .i64 (D.ints (D.cell 2 (nth r0 0)))))]).bind fun r1 =>
 cond (decide (IntKind.wrap .i64 (D.toInt (nth r1 0) + b0) ≤ (10000000 : Int)))
 (cond (decide ((0 : Int) ≤ (0 : Int)) && decide ((0 : Int) < nI (List.length (D.ints (D.cell 2 (nth r0 0))))))
 (cond (decide ((0 : Int) ≤ (0 : Int)) && decide ((0 : Int) < nI (List.length (D.ints (D.cell 2 (nth r0 0))))))
 (cond (decide ((0 : Int) ≤ (0 : Int)) && decide ((0 : Int) < nI (List.length (D.ints (D.cell 3 (nth r0 0))))))
 (cond (decide ((0 : Int) ≤ (0 : Int)) && decide ((0 : Int) < nI (List.length (D.ints (D.cell 3 (nth r0 0))))))
 (some [(.agg [(.int .i64 (b0)), (.int .i64 (D.toInt (D.cell 1 (nth r0 1)))), (.int .i64 (IntKind.wrap .i64 (b0 * b1))), (.int .i64 (D.toInt (D.cell 3 (nth r0 1))))]), (.ptr true [(.int .i64 (D.toInt (D.cell 0 (nth r0 0)))), (.arr true (D.nil (D.cell 1 (nth r0 0))) (.r3 (D.r3 (D.cell 1 (nth r0 0))))), (.arr true (D.nil (D.cell 2 (nth r0 0))) (.ints .i64 (List.set (D.ints (D.cell 2 (nth r0 0))) (Int.toNat (0 : Int)) (IntKind.wrap .i64 (List.getD (D.ints (D.cell 2 (nth r0 0))) (Int.toNat (0 : Int)) (0 : Int) + b0))))), (.arr true (D.nil (D.cell 3 (nth r0 0))) (.ints .i64 (List.set (D.ints (D.cell 3 (nth r0 0))) (Int.toNat (0 : Int)) (IntKind.wrap .i64 (List.getD (D.ints (D.cell 3 (nth r0 0))) (Int.toNat (0 : Int)) (0 : Int) + IntKind.wrap .i64 (b0 * b1)))))), (.arr true (D.nil (D.cell 4 (nth r0 0))) (.ints .i64 (D.ints (D.cell 4 (nth r0 0)))))])])
 (none))
 (none))
 (none))
 (none))
 (some [(.agg [(.int .i64 (D.toInt (D.cell 0 (nth r0 1)))), (.int .i64 (D.toInt (D.cell 1 (nth r0 1)))), (.int .i64 (D.toInt (D.cell 2 (nth r0 1)))), (.int .i64 (D.toInt (D.cell 3 (nth r0 1))))]), (.ptr true [(.int .i64 (D.toInt (D.cell 0 (nth r0 0)))), (.arr true (D.nil (D.cell 1 (nth r0 0))) (.r3 (D.r3 (D.cell 1 (nth r0 0))))), (.arr true (D.nil (D.cell 2 (nth r0 0))) (.ints .i64 (D.ints (D.cell 2 (nth r0 0))))), (.arr true (D.nil (D.cell 3 (nth r0 0))) (.ints .i64 (D.ints (D.cell 3 (nth r0 0))))), (.arr true (D.nil (D.cell 4 (nth r0 0))) (.ints .i64 (D.ints (D.cell 4 (nth r0 0)))))])]))
 (none) := by kernel_rfl
theorem qjo (k : Nat) (a0 : Int) (a1z : Bool) (a1 : List (Int × Int × Int)) (a2z : Bool) (a2 : List Int) (a3z : Bool) (a3 : List Int) (a4z : Bool) (a4 : List Int) (b c : Int) : go (k + 1) impl_State_partOf [(.agg [(.int .i64 (a0)), (.arr false (a1z) (.r3 (a1))), (.arr false (a2z) (.ints .i64 (a2))), (.arr false (a3z) (.ints .i64 (a3))), (.arr false (a4z) (.ints .i64 (a4)))]), (.int .i64 (b)), (.int .i64 (c))] =
 cond (decide ((0 : Int) ≤ c) && decide (c < nI (List.length a1)))
 ((go k impl_WidthOf [(.int .i64 (Prod.fst (Prod.snd (List.getD a1 (Int.toNat c) zz3))))]).bind fun r0 =>
 some [(.int .i64 (IntKind.wrap .i64 (Int.tdiv (IntKind.wrap .i64 (b * D.toInt (nth r0 0))) (16 : Int))))])
 (none) := by kernel_rfl
def qwg (x0 x1 x2 x3 : Int) (z4 : Bool) (l5 : List (Int × Int × Int)) (z6 : Bool) (l7 : List Int) (z8 : Bool) (l9 : List Int) (z10 : Bool) (l11 : List Int) (x12 x13 x14 x15 x16 : Int) : St := ⟨fill 60 [(0, (.ptr 4 (0) (0))), (1, (.int .i64 (x0))), (4, (.ptr 5 (0) (0))), (5, (.int .i64 (x1))), (38, (.int .i64 (x2))), (39, (.int .i64 (x3)))], [(.ptr 4 (0) (0))], [(.arr true (z4) (.r3 (l5))), (.arr true (z6) (.ints .i64 (l7))), (.arr true (z8) (.ints .i64 (l9))), (.arr true (z10) (.ints .i64 (l11))), (.box true [(.int .i64 (x12)), (.sl 0 none), (.sl 1 none), (.sl 2 none), (.sl 3 none)]), (.box true [(.int .i64 (x13)), (.int .i64 (x14)), (.int .i64 (x15)), (.int .i64 (x16))])]⟩
def qwh (x0 x1 x2 x3 : Int) (z4 : Bool) (l5 : List (Int × Int × Int)) (z6 : Bool) (l7 : List Int) (z8 : Bool) (l9 : List Int) (z10 : Bool) (l11 : List Int) (x12 x13 x14 x15 x16 : Int) : St := ⟨fill 60 [(0, (.ptr 4 (0) (0))), (1, (.int .i64 (x0))), (4, (.ptr 5 (0) (0))), (5, (.int .i64 (x1))), (12, (.int .i64 (x2))), (13, (.int .i64 (x3)))], [(.ptr 4 (0) (0))], [(.arr true (z4) (.r3 (l5))), (.arr true (z6) (.ints .i64 (l7))), (.arr true (z8) (.ints .i64 (l9))), (.arr true (z10) (.ints .i64 (l11))), (.box true [(.int .i64 (x12)), (.sl 0 none), (.sl 1 none), (.sl 2 none), (.sl 3 none)]), (.box true [(.int .i64 (x13)), (.int .i64 (x14)), (.int .i64 (x15)), (.int .i64 (x16))])]⟩
theorem qjp (k : Nat) (a0 : Int) (a1z : Bool) (a1 : List (Int × Int × Int)) (a2z : Bool) (a2 : List Int) (a3z : Bool) (a3 : List Int) (a4z : Bool) (a4 : List Int) (b : Int) : go (k + 1) impl_State_rain [(.ptr true [(.int .i64 (a0)), (.arr true (a1z) (.r3 (a1))), (.arr true (a2z) (.ints .i64 (a2))), (.arr true (a3z) (.ints .i64 (a3))), (.arr true (a4z) (.ints .i64 (a4)))]), (.int .i64 (b))] =
 lp k impl_State_rain [(.ptr true [(.int .i64 (a0)), (.arr true (a1z) (.r3 (a1))), (.arr true (a2z) (.ints .i64 (a2))), (.arr true (a3z) (.ints .i64 (a3))), (.arr true (a4z) (.ints .i64 (a4)))])] [] 3 k (qwh b (0 : Int) (nI (List.length a2)) (0 : Int) a1z a1 a2z a2 a3z a3 a4z a4 a0 (0 : Int) (0 : Int) (0 : Int) (0 : Int)) := by kernel_rfl
theorem qpo (k n : Nat) (fu : List (Nat × Nat)) (a0 : Int) (a1z : Bool) (a1 : List (Int × Int × Int)) (a2z : Bool) (a2 : List Int) (a3z : Bool) (a3 : List Int) (a4z : Bool) (a4 : List Int) (x0 x1 x2 x3 : Int) (z4 : Bool) (l5 : List (Int × Int × Int)) (z6 : Bool) (l7 : List Int) (z8 : Bool) (l9 : List Int) (z10 : Bool) (l11 : List Int) (x12 x13 x14 x15 x16 : Int) : lp k impl_State_rain [(.ptr true [(.int .i64 (a0)), (.arr true (a1z) (.r3 (a1))), (.arr true (a2z) (.ints .i64 (a2))), (.arr true (a3z) (.ints .i64 (a3))), (.arr true (a4z) (.ints .i64 (a4)))])] fu 10 (n + 1) (qwg x0 x1 x2 x3 z4 l5 z6 l7 z8 l9 z10 l11 x12 x13 x14 x15 x16) =
 cond (decide (x3 < x2))
 (cond (decide ((0 : Int) ≤ x3) && decide (x3 < nI (List.length l7)))
 ((go k impl_State_partOf [(.agg [(.int .i64 (x12)), (.arr false (z4) (.r3 (l5))), (.arr false (z6) (.ints .i64 (l7))), (.arr false (z8) (.ints .i64 (l9))), (.arr false (z10) (.ints .i64 (l11)))]), (.int .i64 (x0)), (.int .i64 (x3))]).bind fun r0 =>
 cond (decide ((0 : Int) ≤ x3) && decide (x3 < nI (List.length l7)))
 (lp k impl_State_rain [(.ptr true [(.int .i64 (a0)), (.arr true (a1z) (.r3 (a1))), (.arr true (a2z) (.ints .i64 (a2))), (.arr true (a3z) (.ints .i64 (a3))), (.arr true (a4z) (.ints .i64 (a4)))])] fu 10 n (qwg x0 x1 x2 (IntKind.wrap .i64 (x3 + (1 : Int))) z4 l5 z6 (List.set l7 (Int.toNat x3) (IntKind.wrap .i64 (List.getD l7 (Int.toNat x3) (0 : Int) + D.toInt (nth r0 0)))) z8 l9 z10 l11 x12 x13 x14 x15 x16))
 (none))
 (none))
 (some [(.agg [(.int .i64 (x1)), (.int .i64 (0 : Int)), (.int .i64 (0 : Int)), (.int .i64 (0 : Int))]), (.ptr true [(.int .i64 (x12)), (.arr true (z4) (.r3 (l5))), (.arr true (z6) (.ints .i64 (l7))), (.arr true (z8) (.ints .i64 (l9))), (.arr true (z10) (.ints .i64 (l11)))])]) := by kernel_rfl
theorem qpp (k n : Nat) (fu : List (Nat × Nat)) (a0 : Int) (a1z : Bool) (a1 : List (Int × Int × Int)) (a2z : Bool) (a2 : List Int) (a3z : Bool) (a3 : List Int) (a4z : Bool) (a4 : List Int) (x0 x1 x2 x3 : Int) (z4 : Bool) (l5 : List (Int × Int × Int)) (z6 : Bool) (l7 : List Int) (z8 : Bool) (l9 : List Int) (z10 : Bool) (l11 : List Int) (x12 x13 x14 x15 x16 : Int) : lp k impl_State_rain [(.ptr true [(.int .i64 (a0)), (.arr true (a1z) (.r3 (a1))), (.arr true (a2z) (.ints .i64 (a2))), (.arr true (a3z) (.ints .i64 (a3))), (.arr true (a4z) (.ints .i64 (a4)))])] fu 3 (n + 1) (qwh x0 x1 x2 x3 z4 l5 z6 l7 z8 l9 z10 l11 x12 x13 x14 x15 x16) =
 cond (decide (x3 < x2))
 ((go k impl_State_partOf [(.agg [(.int .i64 (x12)), (.arr false (z4) (.r3 (l5))), (.arr false (z6) (.ints .i64 (l7))), (.arr false (z8) (.ints .i64 (l9))), (.arr false (z10) (.ints .i64 (l11)))]), (.int .i64 (x0)), (.int .i64 (x3))]).bind fun r0 =>
 lp k impl_State_rain [(.ptr true [(.int .i64 (a0)), (.arr true (a1z) (.r3 (a1))), (.arr true (a2z) (.ints .i64 (a2))), (.arr true (a3z) (.ints .i64 (a3))), (.arr true (a4z) (.ints .i64 (a4)))])] fu 3 n (qwh x0 (IntKind.wrap .i64 (x1 + D.toInt (nth r0 0))) x2 (IntKind.wrap .i64 (x3 + (1 : Int))) z4 l5 z6 l7 z8 l9 z10 l11 x12 x13 x14 x15 x16))
 ((go k impl_sum [(.arr false (z6) (.ints .i64 (l7)))]).bind fun r1 =>
 cond (decide ((10000000 : Int) < IntKind.wrap .i64 (D.toInt (nth r1 0) + x1)))
 (some [(.agg [(.int .i64 (0 : Int)), (.int .i64 (0 : Int)), (.int .i64 (0 : Int)), (.int .i64 (0 : Int))]), (.ptr true [(.int .i64 (x12)), (.arr true (z4) (.r3 (l5))), (.arr true (z6) (.ints .i64 (l7))), (.arr true (z8) (.ints .i64 (l9))), (.arr true (z10) (.ints .i64 (l11)))])])
 (lp k impl_State_rain [(.ptr true [(.int .i64 (a0)), (.arr true (a1z) (.r3 (a1))), (.arr true (a2z) (.ints .i64 (a2))), (.arr true (a3z) (.ints .i64 (a3))), (.arr true (a4z) (.ints .i64 (a4)))])] fu 10 k (qwg x0 x1 (nI (List.length l7)) (0 : Int) z4 l5 z6 l7 z8 l9 z10 l11 x12 x13 x14 x15 x16))) := by kernel_rfl
def qwi (x0 x1 x2 : Int) (z3 : Bool) (l4 : List (Int × Int × Int)) (z5 : Bool) (l6 : List Int) (z7 : Bool) (l8 : List Int) (z9 : Bool) (l10 : List Int) (x11 x12 x13 x14 x15 x16 x17 x18 x19 : Int) : St := ⟨fill 32 [(0, (.ptr 4 (0) (0))), (1, (.int .i64 (x0))), (4, (.ptr 5 (0) (0))), (5, (.ptr 6 (0) (0))), (12, (.sl 1 none)), (13, (.int .i64 (x1))), (14, (.int .i64 (x2)))], [(.ptr 4 (0) (0))], [(.arr true (z3) (.r3 (l4))), (.arr true (z5) (.ints .i64 (l6))), (.arr true (z7) (.ints .i64 (l8))), (.arr true (z9) (.ints .i64 (l10))), (.box true [(.int .i64 (x11)), (.sl 0 none), (.sl 1 none), (.sl 2 none), (.sl 3 none)]), (.box true [(.int .i64 (x12)), (.int .i64 (x13)), (.int .i64 (x14)), (.int .i64 (x15))]), (.box true [(.int .i64 (x16)), (.int .i64 (x17)), (.int .i64 (x18)), (.int .i64 (x19))])]⟩
theorem qju (k : Nat) (a0 : Int) (a1z : Bool) (a1 : List (Int × Int × Int)) (a2z : Bool) (a2 : List Int) (a3z : Bool) (a3 : List Int) (a4z : Bool) (a4 : List Int) (b : Int) : go (k + 1) impl_State_soak [(.ptr true [(.int .i64 (a0)), (.arr true (a1z) (.r3 (a1))), (.arr true (a2z) (.ints .i64 (a2))), (.arr true (a3z) (.ints .i64 (a3))), (.arr true (a4z) (.ints .i64 (a4)))]), (.int .i64 (b))] =
 lp k impl_State_soak [(.ptr true [(.int .i64 (a0)), (.arr true (a1z) (.r3 (a1))), (.arr true (a2z) (.ints .i64 (a2))), (.arr true (a3z) (.ints .i64 (a3))), (.arr true (a4z) (.ints .i64 (a4)))])] [] 3 k (qwi b (nI (List.length a2)) (0 : Int) a1z a1 a2z a2 a3z a3 a4z a4 a0 (0 : Int) (0 : Int) (0 : Int) (0 : Int) (0 : Int) (0 : Int) (0 : Int) (0 : Int)) := by kernel_rfl
theorem qpq (k n : Nat) (fu : List (Nat × Nat)) (a0 : Int) (a1z : Bool) (a1 : List (Int × Int × Int)) (a2z : Bool) (a2 : List Int) (a3z : Bool) (a3 : List Int) (a4z : Bool) (a4 : List Int) (x0 x1 x2 : Int) (z3 : Bool) (l4 : List (Int × Int × Int)) (z5 : Bool) (l6 : List Int) (z7 : Bool) (l8 : List Int) (z9 : Bool) (l10 : List Int) (x11 x12 x13 x14 x15 x16 x17 x18 x19 : Int) : lp k impl_State_soak [(.ptr true [(.int .i64 (a0)), (.arr true (a1z) (.r3 (a1))), (.arr true (a2z) (.ints .i64 (a2))), (.arr true (a3z) (.ints .i64 (a3))), (.arr true (a4z) (.ints .i64 (a4)))])] fu 3 (n + 1) (qwi x0 x1 x2 z3 l4 z5 l6 z7 l8 z9 l10 x11 x12 x13 x14 x15 x16 x17 x18 x19) =
 cond (decide (x2 < x1))
 (cond (decide ((0 : Int) ≤ x2) && decide (x2 < nI (List.length l6)))
 ((go k impl_State_partOf [(.agg [(.int .i64 (x11)), (.arr false (z3) (.r3 (l4))), (.arr false (z5) (.ints .i64 (l6))), (.arr false (z7) (.ints .i64 (l8))), (.arr false (z9) (.ints .i64 (l10)))]), (.int .i64 (x0)), (.int .i64 (x2))]).bind fun r0 =>
 cond (decide ((0 : Int) ≤ x2) && decide (x2 < nI (List.length l8)))
 (cond (decide ((0 : Int) ≤ x2) && decide (x2 < nI (List.length l6)))
 ((go k impl_ShareOut [(.int .i64 (List.getD l8 (Int.toNat x2) (0 : Int))), (.int .i64 (if D.toInt (nth r0 0) < List.getD l6 (Int.toNat x2) (0 : Int) then D.toInt (nth r0 0) else List.getD l6 (Int.toNat x2) (0 : Int))), (.int .i64 (List.getD l6 (Int.toNat x2) (0 : Int)))]).bind fun r1 =>
 cond (decide ((0 : Int) ≤ x2) && decide (x2 < nI (List.length l6)))
 (cond (decide ((0 : Int) ≤ x2) && decide (x2 < nI (List.length l6)))
 (cond (decide ((0 : Int) ≤ x2) && decide (x2 < nI (List.length l8)))
 (cond (decide ((0 : Int) ≤ x2) && decide (x2 < nI (List.length l8)))
 (lp k impl_State_soak [(.ptr true [(.int .i64 (a0)), (.arr true (a1z) (.r3 (a1))), (.arr true (a2z) (.ints .i64 (a2))), (.arr true (a3z) (.ints .i64 (a3))), (.arr true (a4z) (.ints .i64 (a4)))])] fu 3 n (qwi x0 x1 (IntKind.wrap .i64 (x2 + (1 : Int))) z3 l4 z5 (List.set l6 (Int.toNat x2) (IntKind.wrap .i64 (List.getD l6 (Int.toNat x2) (0 : Int) - if D.toInt (nth r0 0) < List.getD l6 (Int.toNat x2) (0 : Int) then D.toInt (nth r0 0) else List.getD l6 (Int.toNat x2) (0 : Int)))) z7 (List.set l8 (Int.toNat x2) (IntKind.wrap .i64 (List.getD l8 (Int.toNat x2) (0 : Int) - D.toInt (nth r1 0)))) z9 l10 x11 x12 x13 x14 x15 x16 (IntKind.wrap .i64 (x17 + if D.toInt (nth r0 0) < List.getD l6 (Int.toNat x2) (0 : Int) then D.toInt (nth r0 0) else List.getD l6 (Int.toNat x2) (0 : Int))) x18 (IntKind.wrap .i64 (x19 + D.toInt (nth r1 0)))))
 (none))
 (none))
 (none))
 (none))
 (none))
 (none))
 (none))
 (some [(.agg [(.int .i64 (x16)), (.int .i64 (x17)), (.int .i64 (x18)), (.int .i64 (x19))]), (.ptr true [(.int .i64 (x11)), (.arr true (z3) (.r3 (l4))), (.arr true (z5) (.ints .i64 (l6))), (.arr true (z7) (.ints .i64 (l8))), (.arr true (z9) (.ints .i64 (l10)))])]) := by kernel_rfl
def qv9 (x0 x1 x2 : Int) (z3 : Bool) (l4 : List (Int × Int × Int)) (z5 : Bool) (l6 : List Int) (z7 : Bool) (l8 : List Int) (z9 : Bool) (l10 : List Int) (x11 x12 x13 x14 x15 x16 x17 x18 x19 : Int) : St := ⟨fill 41 [(0, (.ptr 4 (0) (0))), (1, (.int .i64 (x0))), (4, (.ptr 5 (0) (0))), (5, (.ptr 6 (0) (0))), (13, (.sl 2 none)), (14, (.int .i64 (x1))), (15, (.int .i64 (x2)))], [(.ptr 4 (0) (0))], [(.arr true (z3) (.r3 (l4))), (.arr true (z5) (.ints .i64 (l6))), (.arr true (z7) (.ints .i64 (l8))), (.arr true (z9) (.ints .i64 (l10))), (.box true [(.int .i64 (x11)), (.sl 0 none), (.sl 1 none), (.sl 2 none), (.sl 3 none)]), (.box true [(.int .i64 (x12)), (.int .i64 (x13)), (.int .i64 (x14)), (.int .i64 (x15))]), (.box true [(.int .i64 (x16)), (.int .i64 (x17)), (.int .i64 (x18)), (.int .i64 (x19))])]⟩
theorem qjg (k : Nat) (a0 : Int) (a1z : Bool) (a1 : List (Int × Int × Int)) (a2z : Bool) (a2 : List Int) (a3z : Bool) (a3 : List Int) (a4z : Bool) (a4 : List Int) (b : Int) : go (k + 1) impl_State_decay [(.ptr true [(.int .i64 (a0)), (.arr true (a1z) (.r3 (a1))), (.arr true (a2z) (.ints .i64 (a2))), (.arr true (a3z) (.ints .i64 (a3))), (.arr true (a4z) (.ints .i64 (a4)))]), (.int .i64 (b))] =
 lp k impl_State_decay [(.ptr true [(.int .i64 (a0)), (.arr true (a1z) (.r3 (a1))), (.arr true (a2z) (.ints .i64 (a2))), (.arr true (a3z) (.ints .i64 (a3))), (.arr true (a4z) (.ints .i64 (a4)))])] [] 3 k (qv9 b (nI (List.length a3)) (0 : Int) a1z a1 a2z a2 a3z a3 a4z a4 a0 (0 : Int) (0 : Int) (0 : Int) (0 : Int) (0 : Int) (0 : Int) (0 : Int) (0 : Int)) := by kernel_rfl
theorem qph (k n : Nat) (fu : List (Nat × Nat)) (a0 : Int) (a1z : Bool) (a1 : List (Int × Int × Int)) (a2z : Bool) (a2 : List Int) (a3z : Bool) (a3 : List Int) (a4z : Bool) (a4 : List Int) (x0 x1 x2 : Int) (z3 : Bool) (l4 : List (Int × Int × Int)) (z5 : Bool) (l6 : List Int) (z7 : Bool) (l8 : List Int) (z9 : Bool) (l10 : List Int) (x11 x12 x13 x14 x15 x16 x17 x18 x19 : Int) : lp k impl_State_decay [(.ptr true [(.int .i64 (a0)), (.arr true (a1z) (.r3 (a1))), (.arr true (a2z) (.ints .i64 (a2))), (.arr true (a3z) (.ints .i64 (a3))), (.arr true (a4z) (.ints .i64 (a4)))])] fu 3 (n + 1) (qv9 x0 x1 x2 z3 l4 z5 l6 z7 l8 z9 l10 x11 x12 x13 x14 x15 x16 x17 x18 x19) =
 cond (decide (x2 < x1))
 (cond (decide ((0 : Int) ≤ x2) && decide (x2 < nI (List.length l8)))
 (cond (decide ((0 : Int) ≤ x2) && decide (x2 < nI (List.length l8)))
 (cond (decide ((0 : Int) ≤ x2) && decide (x2 < nI (List.length l8)))
 (lp k impl_State_decay [(.ptr true [(.int .i64 (a0)), (.arr true (a1z) (.r3 (a1))), (.arr true (a2z) (.ints .i64 (a2))), (.arr true (a3z) (.ints .i64 (a3))), (.arr true (a4z) (.ints .i64 (a4)))])] fu 3 n (qv9 x0 x1 (IntKind.wrap .i64 (x2 + (1 : Int))) z3 l4 z5 l6 z7 (List.set l8 (Int.toNat x2) (IntKind.wrap .i64 (List.getD l8 (Int.toNat x2) (0 : Int) - IntKind.wrap .i64 (Int.tdiv (IntKind.wrap .i64 (List.getD l8 (Int.toNat x2) (0 : Int) * x0)) (1000 : Int))))) z9 l10 x11 x12 x13 x14 x15 x16 x17 x18 (IntKind.wrap .i64 (x19 + IntKind.wrap .i64 (Int.tdiv (IntKind.wrap .i64 (List.getD l8 (Int.toNat x2) (0 : Int) * x0)) (1000 : Int))))))
 (none))
 (none))
 (none))
 (some [(.agg [(.int .i64 (x16)), (.int .i64 (x17)), (.int .i64 (x18)), (.int .i64 (x19))]), (.ptr true [(.int .i64 (x11)), (.arr true (z3) (.r3 (l4))), (.arr true (z5) (.ints .i64 (l6))), (.arr true (z7) (.ints .i64 (l8))), (.arr true (z9) (.ints .i64 (l10)))])]) := by kernel_rfl
def qwc (x0 : Int) (z1 : Bool) (l2 : List (Int × Int × Int)) (z3 : Bool) (l4 : List Int) (z5 : Bool) (l6 : List Int) (z7 : Bool) (l8 : List Int) (x9 : Int) : St := ⟨fill 15 [(0, (.ptr 4 (0) (0))), (3, (.int .i64 (x0)))], [(.ptr 4 (0) (0))], [(.arr true (z1) (.r3 (l2))), (.arr true (z3) (.ints .i64 (l4))), (.arr true (z5) (.ints .i64 (l6))), (.arr true (z7) (.ints .i64 (l8))), (.box true [(.int .i64 (x9)), (.sl 0 none), (.sl 1 none), (.sl 2 none), (.sl 3 none)])]⟩
theorem qjl (k : Nat) (a0 : Int) (a1z : Bool) (a1 : List (Int × Int × Int)) (a2z : Bool) (a2 : List Int) (a3z : Bool) (a3 : List Int) (a4z : Bool) (a4 : List Int) : go (k + 1) impl_State_macro [(.ptr true [(.int .i64 (a0)), (.arr true (a1z) (.r3 (a1))), (.arr true (a2z) (.ints .i64 (a2))), (.arr true (a3z) (.ints .i64 (a3))), (.arr true (a4z) (.ints .i64 (a4)))])] =
 lp k impl_State_macro [(.ptr true [(.int .i64 (a0)), (.arr true (a1z) (.r3 (a1))), (.arr true (a2z) (.ints .i64 (a2))), (.arr true (a3z) (.ints .i64 (a3))), (.arr true (a4z) (.ints .i64 (a4)))])] [] 1 k (qwc (0 : Int) a1z a1 a2z a2 a3z a3 a4z a4 a0) := by kernel_rfl
theorem qpk (k n : Nat) (fu : List (Nat × Nat)) (a0 : Int) (a1z : Bool) (a1 : List (Int × Int × Int)) (a2z : Bool) (a2 : List Int) (a3z : Bool) (a3 : List Int) (a4z : Bool) (a4 : List Int) (x0 : Int) (z1 : Bool) (l2 : List (Int × Int × Int)) (z3 : Bool) (l4 : List Int) (z5 : Bool) (l6 : List Int) (z7 : Bool) (l8 : List Int) (x9 : Int) : lp k impl_State_macro [(.ptr true [(.int .i64 (a0)), (.arr true (a1z) (.r3 (a1))), (.arr true (a2z) (.ints .i64 (a2))), (.arr true (a3z) (.ints .i64 (a3))), (.arr true (a4z) (.ints .i64 (a4)))])] fu 1 (n + 1) (qwc x0 z1 l2 z3 l4 z5 l6 z7 l8 x9) =
 cond (decide (x0 < (16 : Int)))
 ((go k impl_Mesh_active [(.agg [(.int .i64 (x9)), (.arr false (z1) (.r3 (l2)))]), (.int .i64 (x0))]).bind fun r0 =>
 (go k impl_State_move [(.ptr true [(.int .i64 (x9)), (.arr true (z1) (.r3 (l2))), (.arr true (z3) (.ints .i64 (l4))), (.arr true (z5) (.ints .i64 (l6))), (.arr true (z7) (.ints .i64 (l8)))]), (.arr false (D.nil (nth r0 0)) (.ints .i64 (D.ints (nth r0 0))))]).bind fun r1 =>
 lp k impl_State_macro [(.ptr true [(.int .i64 (a0)), (.arr true (a1z) (.r3 (a1))), (.arr true (a2z) (.ints .i64 (a2))), (.arr true (a3z) (.ints .i64 (a3))), (.arr true (a4z) (.ints .i64 (a4)))])] fu 1 n (qwc (IntKind.wrap .i64 (x0 + (1 : Int))) (D.nil (D.cell 1 (nth r1 0))) (D.r3 (D.cell 1 (nth r1 0))) (D.nil (D.cell 2 (nth r1 0))) (D.ints (D.cell 2 (nth r1 0))) (D.nil (D.cell 3 (nth r1 0))) (D.ints (D.cell 3 (nth r1 0))) (D.nil (D.cell 4 (nth r1 0))) (D.ints (D.cell 4 (nth r1 0))) (D.toInt (D.cell 0 (nth r1 0)))))
 (some [(.ptr true [(.int .i64 (x9)), (.arr true (z1) (.r3 (l2))), (.arr true (z3) (.ints .i64 (l4))), (.arr true (z5) (.ints .i64 (l6))), (.arr true (z7) (.ints .i64 (l8)))])]) := by kernel_rfl
theorem qjs (k : Nat) (a0 : Int) (a1z : Bool) (a1 : List (Int × Int × Int)) (a2z : Bool) (a2 : List Int) (a3z : Bool) (a3 : List Int) (a4z : Bool) (a4 : List Int) (b0 b1 b2 b3 b4 b5 b6 b7 b8 c : Int) : go (k + 1) impl_State_runMacro [(.ptr true [(.int .i64 (a0)), (.arr true (a1z) (.r3 (a1))), (.arr true (a2z) (.ints .i64 (a2))), (.arr true (a3z) (.ints .i64 (a3))), (.arr true (a4z) (.ints .i64 (a4)))]), (.agg [(.int .i64 (b0)), (.int .i64 (b1)), (.int .i64 (b2)), (.int .i64 (b3)), (.int .i64 (b4)), (.int .i64 (b5)), (.int .i64 (b6)), (.int .i64 (b7)), (.int .i64 (b8))]), (.int .i64 (c))] =
 (go k impl_State_border [(.ptr true [(.int .i64 (a0)), (.arr true (a1z) (.r3 (a1))), (.arr true (a2z) (.ints .i64 (a2))), (.arr true (a3z) (.ints .i64 (a3))), (.arr true (a4z) (.ints .i64 (a4)))]), (.agg [(.int .i64 (b0)), (.int .i64 (b1)), (.int .i64 (b2))])]).bind fun r0 =>
 (go k impl_State_rain [(.ptr true [(.int .i64 (D.toInt (D.cell 0 (nth r0 1)))), (.arr true (D.nil (D.cell 1 (nth r0 1))) (.r3 (D.r3 (D.cell 1 (nth r0 1))))), (.arr true (D.nil (D.cell 2 (nth r0 1))) (.ints .i64 (D.ints (D.cell 2 (nth r0 1))))), (.arr true (D.nil (D.cell 3 (nth r0 1))) (.ints .i64 (D.ints (D.cell 3 (nth r0 1))))), (.arr true (D.nil (D.cell 4 (nth r0 1))) (.ints .i64 (D.ints (D.cell 4 (nth r0 1)))))]), (.int .i64 (b3))]).bind fun r1 =>
 (go k impl_LedgerAdd [(.agg [(.int .i64 (D.toInt (D.cell 0 (nth r0 0)))), (.int .i64 (D.toInt (D.cell 1 (nth r0 0)))), (.int .i64 (D.toInt (D.cell 2 (nth r0 0)))), (.int .i64 (D.toInt (D.cell 3 (nth r0 0))))]), (.agg [(.int .i64 (D.toInt (D.cell 0 (nth r1 0)))), (.int .i64 (D.toInt (D.cell 1 (nth r1 0)))), (.int .i64 (D.toInt (D.cell 2 (nth r1 0)))), (.int .i64 (D.toInt (D.cell 3 (nth r1 0))))])]).bind fun r2 =>
 (go k impl_State_soak [(.ptr true [(.int .i64 (D.toInt (D.cell 0 (nth r1 1)))), (.arr true (D.nil (D.cell 1 (nth r1 1))) (.r3 (D.r3 (D.cell 1 (nth r1 1))))), (.arr true (D.nil (D.cell 2 (nth r1 1))) (.ints .i64 (D.ints (D.cell 2 (nth r1 1))))), (.arr true (D.nil (D.cell 3 (nth r1 1))) (.ints .i64 (D.ints (D.cell 3 (nth r1 1))))), (.arr true (D.nil (D.cell 4 (nth r1 1))) (.ints .i64 (D.ints (D.cell 4 (nth r1 1)))))]), (.int .i64 (b4))]).bind fun r3 =>
 (go k impl_LedgerAdd [(.agg [(.int .i64 (D.toInt (D.cell 0 (nth r2 0)))), (.int .i64 (D.toInt (D.cell 1 (nth r2 0)))), (.int .i64 (D.toInt (D.cell 2 (nth r2 0)))), (.int .i64 (D.toInt (D.cell 3 (nth r2 0))))]), (.agg [(.int .i64 (D.toInt (D.cell 0 (nth r3 0)))), (.int .i64 (D.toInt (D.cell 1 (nth r3 0)))), (.int .i64 (D.toInt (D.cell 2 (nth r3 0)))), (.int .i64 (D.toInt (D.cell 3 (nth r3 0))))])]).bind fun r4 =>
 (go k impl_State_decay [(.ptr true [(.int .i64 (D.toInt (D.cell 0 (nth r3 1)))), (.arr true (D.nil (D.cell 1 (nth r3 1))) (.r3 (D.r3 (D.cell 1 (nth r3 1))))), (.arr true (D.nil (D.cell 2 (nth r3 1))) (.ints .i64 (D.ints (D.cell 2 (nth r3 1))))), (.arr true (D.nil (D.cell 3 (nth r3 1))) (.ints .i64 (D.ints (D.cell 3 (nth r3 1))))), (.arr true (D.nil (D.cell 4 (nth r3 1))) (.ints .i64 (D.ints (D.cell 4 (nth r3 1)))))]), (.int .i64 (b5))]).bind fun r5 =>
 (go k impl_LedgerAdd [(.agg [(.int .i64 (D.toInt (D.cell 0 (nth r4 0)))), (.int .i64 (D.toInt (D.cell 1 (nth r4 0)))), (.int .i64 (D.toInt (D.cell 2 (nth r4 0)))), (.int .i64 (D.toInt (D.cell 3 (nth r4 0))))]), (.agg [(.int .i64 (D.toInt (D.cell 0 (nth r5 0)))), (.int .i64 (D.toInt (D.cell 1 (nth r5 0)))), (.int .i64 (D.toInt (D.cell 2 (nth r5 0)))), (.int .i64 (D.toInt (D.cell 3 (nth r5 0))))])]).bind fun r6 =>
 (go k impl_State_macro [(.ptr true [(.int .i64 (D.toInt (D.cell 0 (nth r5 1)))), (.arr true (D.nil (D.cell 1 (nth r5 1))) (.r3 (D.r3 (D.cell 1 (nth r5 1))))), (.arr true (D.nil (D.cell 2 (nth r5 1))) (.ints .i64 (D.ints (D.cell 2 (nth r5 1))))), (.arr true (D.nil (D.cell 3 (nth r5 1))) (.ints .i64 (D.ints (D.cell 3 (nth r5 1))))), (.arr true (D.nil (D.cell 4 (nth r5 1))) (.ints .i64 (D.ints (D.cell 4 (nth r5 1)))))])]).bind fun r7 =>
 cond (decide ((0 : Int) < b8))
 (cond (!decide (b8 = (0 : Int)))
 (cond (decide (Int.tmod (IntKind.wrap .i64 (c + (1 : Int))) b8 = (0 : Int)))
 ((go k impl_State_adapt [(.ptr true [(.int .i64 (D.toInt (D.cell 0 (nth r7 0)))), (.arr true (D.nil (D.cell 1 (nth r7 0))) (.r3 (D.r3 (D.cell 1 (nth r7 0))))), (.arr true (D.nil (D.cell 2 (nth r7 0))) (.ints .i64 (D.ints (D.cell 2 (nth r7 0))))), (.arr true (D.nil (D.cell 3 (nth r7 0))) (.ints .i64 (D.ints (D.cell 3 (nth r7 0))))), (.arr true (D.nil (D.cell 4 (nth r7 0))) (.ints .i64 (D.ints (D.cell 4 (nth r7 0)))))]), (.int .i64 (b6)), (.int .i64 (b7))]).bind fun r8 =>
 some [(.agg [(.int .i64 (D.toInt (D.cell 0 (nth r6 0)))), (.int .i64 (D.toInt (D.cell 1 (nth r6 0)))), (.int .i64 (D.toInt (D.cell 2 (nth r6 0)))), (.int .i64 (D.toInt (D.cell 3 (nth r6 0))))]), (.ptr true [(.int .i64 (D.toInt (D.cell 0 (nth r8 0)))), (.arr true (D.nil (D.cell 1 (nth r8 0))) (.r3 (D.r3 (D.cell 1 (nth r8 0))))), (.arr true (D.nil (D.cell 2 (nth r8 0))) (.ints .i64 (D.ints (D.cell 2 (nth r8 0))))), (.arr true (D.nil (D.cell 3 (nth r8 0))) (.ints .i64 (D.ints (D.cell 3 (nth r8 0))))), (.arr true (D.nil (D.cell 4 (nth r8 0))) (.ints .i64 (D.ints (D.cell 4 (nth r8 0)))))])])
 (some [(.agg [(.int .i64 (D.toInt (D.cell 0 (nth r6 0)))), (.int .i64 (D.toInt (D.cell 1 (nth r6 0)))), (.int .i64 (D.toInt (D.cell 2 (nth r6 0)))), (.int .i64 (D.toInt (D.cell 3 (nth r6 0))))]), (.ptr true [(.int .i64 (D.toInt (D.cell 0 (nth r7 0)))), (.arr true (D.nil (D.cell 1 (nth r7 0))) (.r3 (D.r3 (D.cell 1 (nth r7 0))))), (.arr true (D.nil (D.cell 2 (nth r7 0))) (.ints .i64 (D.ints (D.cell 2 (nth r7 0))))), (.arr true (D.nil (D.cell 3 (nth r7 0))) (.ints .i64 (D.ints (D.cell 3 (nth r7 0))))), (.arr true (D.nil (D.cell 4 (nth r7 0))) (.ints .i64 (D.ints (D.cell 4 (nth r7 0)))))])]))
 (none))
 (some [(.agg [(.int .i64 (D.toInt (D.cell 0 (nth r6 0)))), (.int .i64 (D.toInt (D.cell 1 (nth r6 0)))), (.int .i64 (D.toInt (D.cell 2 (nth r6 0)))), (.int .i64 (D.toInt (D.cell 3 (nth r6 0))))]), (.ptr true [(.int .i64 (D.toInt (D.cell 0 (nth r7 0)))), (.arr true (D.nil (D.cell 1 (nth r7 0))) (.r3 (D.r3 (D.cell 1 (nth r7 0))))), (.arr true (D.nil (D.cell 2 (nth r7 0))) (.ints .i64 (D.ints (D.cell 2 (nth r7 0))))), (.arr true (D.nil (D.cell 3 (nth r7 0))) (.ints .i64 (D.ints (D.cell 3 (nth r7 0))))), (.arr true (D.nil (D.cell 4 (nth r7 0))) (.ints .i64 (D.ints (D.cell 4 (nth r7 0)))))])]) := by kernel_rfl
theorem qiq (k : Nat) (a0 a1 a2 a3 b0 b1 b2 b3 : Int) : go (k + 1) impl_LedgerAdd [(.agg [(.int .i64 (a0)), (.int .i64 (a1)), (.int .i64 (a2)), (.int .i64 (a3))]), (.agg [(.int .i64 (b0)), (.int .i64 (b1)), (.int .i64 (b2)), (.int .i64 (b3))])] =
 some [(.agg [(.int .i64 (IntKind.wrap .i64 (a0 + b0))), (.int .i64 (IntKind.wrap .i64 (a1 + b1))), (.int .i64 (IntKind.wrap .i64 (a2 + b2))), (.int .i64 (IntKind.wrap .i64 (a3 + b3)))])] := by kernel_rfl
theorem qnd (k : Nat) (a0 : Int) (a1z : Bool) (a1 : List (Int × Int × Int)) (a2z : Bool) (a2 : List Int) (a3z : Bool) (a3 : List Int) (a4z : Bool) (a4 : List Int) (b0 b1 b2 : Int) : go (k + 1) spec_l13Apply [(.agg [(.int .i64 (a0)), (.arr false (a1z) (.r3 (a1))), (.arr false (a2z) (.ints .i64 (a2))), (.arr false (a3z) (.ints .i64 (a3))), (.arr false (a4z) (.ints .i64 (a4)))]), (.agg [(.int .i64 (b0)), (.int .i64 (b1)), (.int .i64 (b2))])] =
 (go k spec_l07Copy [(.agg [(.int .i64 (a0)), (.arr false (a1z) (.r3 (a1))), (.arr false (a2z) (.ints .i64 (a2))), (.arr false (a3z) (.ints .i64 (a3))), (.arr false (a4z) (.ints .i64 (a4)))])]).bind fun r0 =>
 cond (decide ((0 : Int) ≤ IntKind.wrap .i64 (nI (List.length a2) - (1 : Int))) && decide (IntKind.wrap .i64 (nI (List.length a2) - (1 : Int)) < nI (List.length a2)))
 (cond (decide ((0 : Int) ≤ IntKind.wrap .i64 (nI (List.length a2) - (1 : Int))) && decide (IntKind.wrap .i64 (nI (List.length a2) - (1 : Int)) < nI (List.length a3)))
 (cond (decide ((0 : Int) ≤ IntKind.wrap .i64 (nI (List.length a2) - (1 : Int))) && decide (IntKind.wrap .i64 (nI (List.length a2) - (1 : Int)) < nI (List.length a2)))
 ((go k spec_ShareOut [(.int .i64 (List.getD a3 (Int.toNat (IntKind.wrap .i64 (nI (List.length a2) - (1 : Int)))) (0 : Int))), (.int .i64 (IntKind.wrap .i64 (Int.tdiv (IntKind.wrap .i64 (List.getD a2 (Int.toNat (IntKind.wrap .i64 (nI (List.length a2) - (1 : Int)))) (0 : Int) * b2)) (1000 : Int)))), (.int .i64 (List.getD a2 (Int.toNat (IntKind.wrap .i64 (nI (List.length a2) - (1 : Int)))) (0 : Int)))]).bind fun r1 =>
 cond (decide ((0 : Int) ≤ IntKind.wrap .i64 (nI (List.length a2) - (1 : Int))) && decide (IntKind.wrap .i64 (nI (List.length a2) - (1 : Int)) < nI (List.length (D.ints (D.cell 2 (nth r0 0))))))
 (cond (decide ((0 : Int) ≤ IntKind.wrap .i64 (nI (List.length a2) - (1 : Int))) && decide (IntKind.wrap .i64 (nI (List.length a2) - (1 : Int)) < nI (List.length (D.ints (D.cell 2 (nth r0 0))))))
 (cond (decide ((0 : Int) ≤ IntKind.wrap .i64 (nI (List.length a2) - (1 : Int))) && decide (IntKind.wrap .i64 (nI (List.length a2) - (1 : Int)) < nI (List.length (D.ints (D.cell 3 (nth r0 0))))))
 (cond (decide ((0 : Int) ≤ IntKind.wrap .i64 (nI (List.length a2) - (1 : Int))) && decide (IntKind.wrap .i64 (nI (List.length a2) - (1 : Int)) < nI (List.length (D.ints (D.cell 3 (nth r0 0))))))
 ((go k spec_l07Sum [(.arr false (D.nil (D.cell 2 (nth r0 0))) (.ints .i64 (List.set (D.ints (D.cell 2 (nth r0 0))) (Int.toNat (IntKind.wrap .i64 (nI (List.length a2) - (1 : Int)))) (IntKind.wrap .i64 (List.getD (D.ints (D.cell 2 (nth r0 0))) (Int.toNat (IntKind.wrap .i64 (nI (List.length a2) - (1 : Int)))) (0 : Int) - IntKind.wrap .i64 (Int.tdiv (IntKind.wrap .i64 (List.getD a2 (Int.toNat (IntKind.wrap .i64 (nI (List.length a2) - (1 : Int)))) (0 : Int) * b2)) (1000 : Int)))))))]).bind fun r2 =>
 cond (decide (IntKind.wrap .i64 (D.toInt (nth r2 0) + b0) ≤ (10000000 : Int)))
 (cond (decide ((0 : Int) ≤ (0 : Int)) && decide ((0 : Int) < nI (List.length (List.set (D.ints (D.cell 2 (nth r0 0))) (Int.toNat (IntKind.wrap .i64 (nI (List.length a2) - (1 : Int)))) (IntKind.wrap .i64 (List.getD (D.ints (D.cell 2 (nth r0 0))) (Int.toNat (IntKind.wrap .i64 (nI (List.length a2) - (1 : Int)))) (0 : Int) - IntKind.wrap .i64 (Int.tdiv (IntKind.wrap .i64 (List.getD a2 (Int.toNat (IntKind.wrap .i64 (nI (List.length a2) - (1 : Int)))) (0 : Int) * b2)) (1000 : Int))))))))
 (cond (decide ((0 : Int) ≤ (0 : Int)) && decide ((0 : Int) < nI (List.length (List.set (D.ints (D.cell 2 (nth r0 0))) (Int.toNat (IntKind.wrap .i64 (nI (List.length a2) - (1 : Int)))) (IntKind.wrap .i64 (List.getD (D.ints (D.cell 2 (nth r0 0))) (Int.toNat (IntKind.wrap .i64 (nI (List.length a2) - (1 : Int)))) (0 : Int) - IntKind.wrap .i64 (Int.tdiv (IntKind.wrap .i64 (List.getD a2 (Int.toNat (IntKind.wrap .i64 (nI (List.length a2) - (1 : Int)))) (0 : Int) * b2)) (1000 : Int))))))))
 (cond (decide ((0 : Int) ≤ (0 : Int)) && decide ((0 : Int) < nI (List.length (List.set (D.ints (D.cell 3 (nth r0 0))) (Int.toNat (IntKind.wrap .i64 (nI (List.length a2) - (1 : Int)))) (IntKind.wrap .i64 (List.getD (D.ints (D.cell 3 (nth r0 0))) (Int.toNat (IntKind.wrap .i64 (nI (List.length a2) - (1 : Int)))) (0 : Int) - D.toInt (nth r1 0)))))))
 (cond (decide ((0 : Int) ≤ (0 : Int)) && decide ((0 : Int) < nI (List.length (List.set (D.ints (D.cell 3 (nth r0 0))) (Int.toNat (IntKind.wrap .i64 (nI (List.length a2) - (1 : Int)))) (IntKind.wrap .i64 (List.getD (D.ints (D.cell 3 (nth r0 0))) (Int.toNat (IntKind.wrap .i64 (nI (List.length a2) - (1 : Int)))) (0 : Int) - D.toInt (nth r1 0)))))))
 (some [(.agg [(.int .i64 (D.toInt (D.cell 0 (nth r0 0)))), (.arr true (D.nil (D.cell 1 (nth r0 0))) (.r3 (D.r3 (D.cell 1 (nth r0 0))))), (.arr true (D.nil (D.cell 2 (nth r0 0))) (.ints .i64 (List.set (List.set (D.ints (D.cell 2 (nth r0 0))) (Int.toNat (IntKind.wrap .i64 (nI (List.length a2) - (1 : Int)))) (IntKind.wrap .i64 (List.getD (D.ints (D.cell 2 (nth r0 0))) (Int.toNat (IntKind.wrap .i64 (nI (List.length a2) - (1 : Int)))) (0 : Int) - IntKind.wrap .i64 (Int.tdiv (IntKind.wrap .i64 (List.getD a2 (Int.toNat (IntKind.wrap .i64 (nI (List.length a2) - (1 : Int)))) (0 : Int) * b2)) (1000 : Int))))) (Int.toNat (0 : Int)) (IntKind.wrap .i64 (List.getD (List.set (D.ints (D.cell 2 (nth r0 0))) (Int.toNat (IntKind.wrap .i64 (nI (List.length a2) - (1 : Int)))) (IntKind.wrap .i64 (List.getD (D.ints (D.cell 2 (nth r0 0))) (Int.toNat (IntKind.wrap .i64 (nI (List.length a2) - (1 : Int)))) (0 : Int) - IntKind.wrap .i64 (Int.tdiv (IntKind.wrap .i64 (List.getD a2 (Int.toNat (IntKind.wrap .i64 (nI (List.length a2) - (1 : Int)))) (0 : Int) * b2)) (1000 : Int))))) (Int.toNat (0 : Int)) (0 : Int) + b0))))), (.arr true (D.nil (D.cell 3 (nth r0 0))) (.ints .i64 (List.set (List.set (D.ints (D.cell 3 (nth r0 0))) (Int.toNat (IntKind.wrap .i64 (nI (List.length a2) - (1 : Int)))) (IntKind.wrap .i64 (List.getD (D.ints (D.cell 3 (nth r0 0))) (Int.toNat (IntKind.wrap .i64 (nI (List.length a2) - (1 : Int)))) (0 : Int) - D.toInt (nth r1 0)))) (Int.toNat (0 : Int)) (IntKind.wrap .i64 (List.getD (List.set (D.ints (D.cell 3 (nth r0 0))) (Int.toNat (IntKind.wrap .i64 (nI (List.length a2) - (1 : Int)))) (IntKind.wrap .i64 (List.getD (D.ints (D.cell 3 (nth r0 0))) (Int.toNat (IntKind.wrap .i64 (nI (List.length a2) - (1 : Int)))) (0 : Int) - D.toInt (nth r1 0)))) (Int.toNat (0 : Int)) (0 : Int) + IntKind.wrap .i64 (b0 * b1)))))), (.arr true (D.nil (D.cell 4 (nth r0 0))) (.ints .i64 (D.ints (D.cell 4 (nth r0 0)))))]), (.agg [(.int .i64 (b0)), (.int .i64 (IntKind.wrap .i64 (Int.tdiv (IntKind.wrap .i64 (List.getD a2 (Int.toNat (IntKind.wrap .i64 (nI (List.length a2) - (1 : Int)))) (0 : Int) * b2)) (1000 : Int)))), (.int .i64 (IntKind.wrap .i64 (b0 * b1))), (.int .i64 (D.toInt (nth r1 0)))])])
 (none))
 (none))
 (none))
 (none))
 (some [(.agg [(.int .i64 (D.toInt (D.cell 0 (nth r0 0)))), (.arr true (D.nil (D.cell 1 (nth r0 0))) (.r3 (D.r3 (D.cell 1 (nth r0 0))))), (.arr true (D.nil (D.cell 2 (nth r0 0))) (.ints .i64 (List.set (D.ints (D.cell 2 (nth r0 0))) (Int.toNat (IntKind.wrap .i64 (nI (List.length a2) - (1 : Int)))) (IntKind.wrap .i64 (List.getD (D.ints (D.cell 2 (nth r0 0))) (Int.toNat (IntKind.wrap .i64 (nI (List.length a2) - (1 : Int)))) (0 : Int) - IntKind.wrap .i64 (Int.tdiv (IntKind.wrap .i64 (List.getD a2 (Int.toNat (IntKind.wrap .i64 (nI (List.length a2) - (1 : Int)))) (0 : Int) * b2)) (1000 : Int))))))), (.arr true (D.nil (D.cell 3 (nth r0 0))) (.ints .i64 (List.set (D.ints (D.cell 3 (nth r0 0))) (Int.toNat (IntKind.wrap .i64 (nI (List.length a2) - (1 : Int)))) (IntKind.wrap .i64 (List.getD (D.ints (D.cell 3 (nth r0 0))) (Int.toNat (IntKind.wrap .i64 (nI (List.length a2) - (1 : Int)))) (0 : Int) - D.toInt (nth r1 0)))))), (.arr true (D.nil (D.cell 4 (nth r0 0))) (.ints .i64 (D.ints (D.cell 4 (nth r0 0)))))]), (.agg [(.int .i64 (0 : Int)), (.int .i64 (IntKind.wrap .i64 (Int.tdiv (IntKind.wrap .i64 (List.getD a2 (Int.toNat (IntKind.wrap .i64 (nI (List.length a2) - (1 : Int)))) (0 : Int) * b2)) (1000 : Int)))), (.int .i64 (0 : Int)), (.int .i64 (D.toInt (nth r1 0)))])]))
 (none))
 (none))
 (none))
 (none))
 (none))
 (none))
 (none) := by kernel_rfl
theorem qne (k : Nat) (a b : Int) : go (k + 1) spec_l14Part [(.int .i64 (a)), (.int .i64 (b))] =
 (go k spec_WidthOf [(.int .i64 (b))]).bind fun r0 =>
 some [(.int .i64 (IntKind.wrap .i64 (Int.tdiv (IntKind.wrap .i64 (a * D.toInt (nth r0 0))) (16 : Int))))] := by kernel_rfl
def qxl (x0 x1 x2 : Int) (z3 : Bool) (l4 : List (Int × Int × Int)) (z5 : Bool) (l6 : List Int) (z7 : Bool) (l8 : List Int) (z9 : Bool) (l10 : List Int) (x11 : Int) (z12 : Bool) (l13 : List (Int × Int × Int)) (z14 : Bool) (l15 : List Int) (z16 : Bool) (l17 : List Int) (z18 : Bool) (l19 : List Int) (x20 x21 x22 x23 x24 : Int) (z25 : Bool) (l26 : List (Int × Int × Int)) (z27 : Bool) (l28 : List Int) (z29 : Bool) (l30 : List Int) (z31 : Bool) (l32 : List Int) (x33 : Int) : St := ⟨fill 52 [(1, (.int .i64 (x0))), (2, (.ptr 4 (0) (0))), (4, (.ptr 9 (0) (0))), (5, (.ptr 10 (0) (0))), (6, (.ptr 15 (0) (0))), (7, (.int .i64 (x1))), (8, (.int .i64 (x2)))], [], [(.arr false (z3) (.r3 (l4))), (.arr false (z5) (.ints .i64 (l6))), (.arr false (z7) (.ints .i64 (l8))), (.arr false (z9) (.ints .i64 (l10))), (.box true [(.int .i64 (x11)), (.sl 0 none), (.sl 1 none), (.sl 2 none), (.sl 3 none)]), (.arr true (z12) (.r3 (l13))), (.arr true (z14) (.ints .i64 (l15))), (.arr true (z16) (.ints .i64 (l17))), (.arr true (z18) (.ints .i64 (l19))), (.box true [(.int .i64 (x20)), (.sl 5 none), (.sl 6 none), (.sl 7 none), (.sl 8 none)]), (.box true [(.int .i64 (x21)), (.int .i64 (x22)), (.int .i64 (x23)), (.int .i64 (x24))]), (.arr true (z25) (.r3 (l26))), (.arr true (z27) (.ints .i64 (l28))), (.arr true (z29) (.ints .i64 (l30))), (.arr true (z31) (.ints .i64 (l32))), (.box true [(.int .i64 (x33)), (.sl 11 none), (.sl 12 none), (.sl 13 none), (.sl 14 none)])]⟩
theorem qnf (k : Nat) (a0 : Int) (a1z : Bool) (a1 : List (Int × Int × Int)) (a2z : Bool) (a2 : List Int) (a3z : Bool) (a3 : List Int) (a4z : Bool) (a4 : List Int) (b : Int) : go (k + 1) spec_l14Rain [(.agg [(.int .i64 (a0)), (.arr false (a1z) (.r3 (a1))), (.arr false (a2z) (.ints .i64 (a2))), (.arr false (a3z) (.ints .i64 (a3))), (.arr false (a4z) (.ints .i64 (a4)))]), (.int .i64 (b))] =
 (go k spec_l07Copy [(.agg [(.int .i64 (a0)), (.arr false (a1z) (.r3 (a1))), (.arr false (a2z) (.ints .i64 (a2))), (.arr false (a3z) (.ints .i64 (a3))), (.arr false (a4z) (.ints .i64 (a4)))])]).bind fun r0 =>
 lp k spec_l14Rain [] [] 4 k (qxl b (0 : Int) (0 : Int) a1z a1 a2z a2 a3z a3 a4z a4 a0 true ([]) true ([]) true ([]) true ([]) (0 : Int) (0 : Int) (0 : Int) (0 : Int) (0 : Int) (D.nil (D.cell 1 (nth r0 0))) (D.r3 (D.cell 1 (nth r0 0))) (D.nil (D.cell 2 (nth r0 0))) (D.ints (D.cell 2 (nth r0 0))) (D.nil (D.cell 3 (nth r0 0))) (D.ints (D.cell 3 (nth r0 0))) (D.nil (D.cell 4 (nth r0 0))) (D.ints (D.cell 4 (nth r0 0))) (D.toInt (D.cell 0 (nth r0 0)))) := by kernel_rfl
theorem qqt (k n : Nat) (fu : List (Nat × Nat)) (x0 x1 x2 : Int) (z3 : Bool) (l4 : List (Int × Int × Int)) (z5 : Bool) (l6 : List Int) (z7 : Bool) (l8 : List Int) (z9 : Bool) (l10 : List Int) (x11 : Int) (z12 : Bool) (l13 : List (Int × Int × Int)) (z14 : Bool) (l15 : List Int) (z16 : Bool) (l17 : List Int) (z18 : Bool) (l19 : List Int) (x20 x21 x22 x23 x24 : Int) (z25 : Bool) (l26 : List (Int × Int × Int)) (z27 : Bool) (l28 : List Int) (z29 : Bool) (l30 : List Int) (z31 : Bool) (l32 : List Int) (x33 : Int) : lp k spec_l14Rain [] fu 4 (n + 1) (qxl x0 x1 x2 z3 l4 z5 l6 z7 l8 z9 l10 x11 z12 l13 z14 l15 z16 l17 z18 l19 x20 x21 x22 x23 x24 z25 l26 z27 l28 z29 l30 z31 l32 x33) =
 cond (decide (x2 < nI (List.length l6)))
 (cond (decide ((0 : Int) ≤ x2) && decide (x2 < nI (List.length l4)))
 ((go k spec_l14Part [(.int .i64 (x0)), (.int .i64 (Prod.fst (Prod.snd (List.getD l4 (Int.toNat x2) zz3))))]).bind fun r0 =>
 cond (decide ((0 : Int) ≤ x2) && decide (x2 < nI (List.length l28)))
 (cond (decide ((0 : Int) ≤ x2) && decide (x2 < nI (List.length l28)))
 (lp k spec_l14Rain [] fu 4 n (qxl x0 (IntKind.wrap .i64 (x1 + D.toInt (nth r0 0))) (IntKind.wrap .i64 (x2 + (1 : Int))) z3 l4 z5 l6 z7 l8 z9 l10 x11 z12 l13 z14 l15 z16 l17 z18 l19 x20 x21 x22 x23 x24 z25 l26 z27 (List.set l28 (Int.toNat x2) (IntKind.wrap .i64 (List.getD l28 (Int.toNat x2) (0 : Int) + D.toInt (nth r0 0)))) z29 l30 z31 l32 x33))
 (none))
 (none))
 (none))
 ((go k spec_l07Sum [(.arr false (z27) (.ints .i64 (l28)))]).bind fun r1 =>
 cond (decide ((10000000 : Int) < D.toInt (nth r1 0)))
 ((go k spec_l07Copy [(.agg [(.int .i64 (x11)), (.arr false (z3) (.r3 (l4))), (.arr false (z5) (.ints .i64 (l6))), (.arr false (z7) (.ints .i64 (l8))), (.arr false (z9) (.ints .i64 (l10)))])]).bind fun r2 =>
 some [(.agg [(.int .i64 (D.toInt (D.cell 0 (nth r2 0)))), (.arr true (D.nil (D.cell 1 (nth r2 0))) (.r3 (D.r3 (D.cell 1 (nth r2 0))))), (.arr true (D.nil (D.cell 2 (nth r2 0))) (.ints .i64 (D.ints (D.cell 2 (nth r2 0))))), (.arr true (D.nil (D.cell 3 (nth r2 0))) (.ints .i64 (D.ints (D.cell 3 (nth r2 0))))), (.arr true (D.nil (D.cell 4 (nth r2 0))) (.ints .i64 (D.ints (D.cell 4 (nth r2 0)))))]), (.agg [(.int .i64 (0 : Int)), (.int .i64 (0 : Int)), (.int .i64 (0 : Int)), (.int .i64 (0 : Int))])])
 (some [(.agg [(.int .i64 (x33)), (.arr true (z25) (.r3 (l26))), (.arr true (z27) (.ints .i64 (l28))), (.arr true (z29) (.ints .i64 (l30))), (.arr true (z31) (.ints .i64 (l32)))]), (.agg [(.int .i64 (x1)), (.int .i64 (0 : Int)), (.int .i64 (0 : Int)), (.int .i64 (0 : Int))])])) := by kernel_rfl
def qxm (x0 x1 : Int) (z2 : Bool) (l3 : List (Int × Int × Int)) (z4 : Bool) (l5 : List Int) (z6 : Bool) (l7 : List Int) (z8 : Bool) (l9 : List Int) (x10 : Int) (z11 : Bool) (l12 : List (Int × Int × Int)) (z13 : Bool) (l14 : List Int) (z15 : Bool) (l16 : List Int) (z17 : Bool) (l18 : List Int) (x19 x20 x21 x22 x23 : Int) (z24 : Bool) (l25 : List (Int × Int × Int)) (z26 : Bool) (l27 : List Int) (z28 : Bool) (l29 : List Int) (z30 : Bool) (l31 : List Int) (x32 x33 x34 x35 x36 : Int) : St := ⟨fill 82 [(1, (.int .i64 (x0))), (2, (.ptr 4 (0) (0))), (4, (.ptr 9 (0) (0))), (5, (.ptr 10 (0) (0))), (6, (.ptr 15 (0) (0))), (7, (.ptr 16 (0) (0))), (8, (.int .i64 (x1)))], [], [(.arr false (z2) (.r3 (l3))), (.arr false (z4) (.ints .i64 (l5))), (.arr false (z6) (.ints .i64 (l7))), (.arr false (z8) (.ints .i64 (l9))), (.box true [(.int .i64 (x10)), (.sl 0 none), (.sl 1 none), (.sl 2 none), (.sl 3 none)]), (.arr true (z11) (.r3 (l12))), (.arr true (z13) (.ints .i64 (l14))), (.arr true (z15) (.ints .i64 (l16))), (.arr true (z17) (.ints .i64 (l18))), (.box true [(.int .i64 (x19)), (.sl 5 none), (.sl 6 none), (.sl 7 none), (.sl 8 none)]), (.box true [(.int .i64 (x20)), (.int .i64 (x21)), (.int .i64 (x22)), (.int .i64 (x23))]), (.arr true (z24) (.r3 (l25))), (.arr true (z26) (.ints .i64 (l27))), (.arr true (z28) (.ints .i64 (l29))), (.arr true (z30) (.ints .i64 (l31))), (.box true [(.int .i64 (x32)), (.sl 11 none), (.sl 12 none), (.sl 13 none), (.sl 14 none)]), (.box true [(.int .i64 (x33)), (.int .i64 (x34)), (.int .i64 (x35)), (.int .i64 (x36))])]⟩
theorem qng (k : Nat) (a0 : Int) (a1z : Bool) (a1 : List (Int × Int × Int)) (a2z : Bool) (a2 : List Int) (a3z : Bool) (a3 : List Int) (a4z : Bool) (a4 : List Int) (b : Int) : go (k + 1) spec_l14Soak [(.agg [(.int .i64 (a0)), (.arr false (a1z) (.r3 (a1))), (.arr false (a2z) (.ints .i64 (a2))), (.arr false (a3z) (.ints .i64 (a3))), (.arr false (a4z) (.ints .i64 (a4)))]), (.int .i64 (b))] =
 (go k spec_l07Copy [(.agg [(.int .i64 (a0)), (.arr false (a1z) (.r3 (a1))), (.arr false (a2z) (.ints .i64 (a2))), (.arr false (a3z) (.ints .i64 (a3))), (.arr false (a4z) (.ints .i64 (a4)))])]).bind fun r0 =>
 lp k spec_l14Soak [] [] 4 k (qxm b (0 : Int) a1z a1 a2z a2 a3z a3 a4z a4 a0 true ([]) true ([]) true ([]) true ([]) (0 : Int) (0 : Int) (0 : Int) (0 : Int) (0 : Int) (D.nil (D.cell 1 (nth r0 0))) (D.r3 (D.cell 1 (nth r0 0))) (D.nil (D.cell 2 (nth r0 0))) (D.ints (D.cell 2 (nth r0 0))) (D.nil (D.cell 3 (nth r0 0))) (D.ints (D.cell 3 (nth r0 0))) (D.nil (D.cell 4 (nth r0 0))) (D.ints (D.cell 4 (nth r0 0))) (D.toInt (D.cell 0 (nth r0 0))) (0 : Int) (0 : Int) (0 : Int) (0 : Int)) := by kernel_rfl
theorem qqu (k n : Nat) (fu : List (Nat × Nat)) (x0 x1 : Int) (z2 : Bool) (l3 : List (Int × Int × Int)) (z4 : Bool) (l5 : List Int) (z6 : Bool) (l7 : List Int) (z8 : Bool) (l9 : List Int) (x10 : Int) (z11 : Bool) (l12 : List (Int × Int × Int)) (z13 : Bool) (l14 : List Int) (z15 : Bool) (l16 : List Int) (z17 : Bool) (l18 : List Int) (x19 x20 x21 x22 x23 : Int) (z24 : Bool) (l25 : List (Int × Int × Int)) (z26 : Bool) (l27 : List Int) (z28 : Bool) (l29 : List Int) (z30 : Bool) (l31 : List Int) (x32 x33 x34 x35 x36 : Int) : lp k spec_l14Soak [] fu 4 (n + 1) (qxm x0 x1 z2 l3 z4 l5 z6 l7 z8 l9 x10 z11 l12 z13 l14 z15 l16 z17 l18 x19 x20 x21 x22 x23 z24 l25 z26 l27 z28 l29 z30 l31 x32 x33 x34 x35 x36) =
 cond (decide (x1 < nI (List.length l5)))
 (cond (decide ((0 : Int) ≤ x1) && decide (x1 < nI (List.length l3)))
 ((go k spec_l14Part [(.int .i64 (x0)), (.int .i64 (Prod.fst (Prod.snd (List.getD l3 (Int.toNat x1) zz3))))]).bind fun r0 =>
 cond (decide ((0 : Int) ≤ x1) && decide (x1 < nI (List.length l5)))
 (cond (decide ((0 : Int) ≤ x1) && decide (x1 < nI (List.length l7)))
 (cond (decide ((0 : Int) ≤ x1) && decide (x1 < nI (List.length l5)))
 ((go k spec_ShareOut [(.int .i64 (List.getD l7 (Int.toNat x1) (0 : Int))), (.int .i64 (if List.getD l5 (Int.toNat x1) (0 : Int) < D.toInt (nth r0 0) then List.getD l5 (Int.toNat x1) (0 : Int) else D.toInt (nth r0 0))), (.int .i64 (List.getD l5 (Int.toNat x1) (0 : Int)))]).bind fun r1 =>
 cond (decide ((0 : Int) ≤ x1) && decide (x1 < nI (List.length l27)))
 (cond (decide ((0 : Int) ≤ x1) && decide (x1 < nI (List.length l27)))
 (cond (decide ((0 : Int) ≤ x1) && decide (x1 < nI (List.length l29)))
 (cond (decide ((0 : Int) ≤ x1) && decide (x1 < nI (List.length l29)))
 (lp k spec_l14Soak [] fu 4 n (qxm x0 (IntKind.wrap .i64 (x1 + (1 : Int))) z2 l3 z4 l5 z6 l7 z8 l9 x10 z11 l12 z13 l14 z15 l16 z17 l18 x19 x20 x21 x22 x23 z24 l25 z26 (List.set l27 (Int.toNat x1) (IntKind.wrap .i64 (List.getD l27 (Int.toNat x1) (0 : Int) - if List.getD l5 (Int.toNat x1) (0 : Int) < D.toInt (nth r0 0) then List.getD l5 (Int.toNat x1) (0 : Int) else D.toInt (nth r0 0)))) z28 (List.set l29 (Int.toNat x1) (IntKind.wrap .i64 (List.getD l29 (Int.toNat x1) (0 : Int) - D.toInt (nth r1 0)))) z30 l31 x32 x33 (IntKind.wrap .i64 (x34 + if List.getD l5 (Int.toNat x1) (0 : Int) < D.toInt (nth r0 0) then List.getD l5 (Int.toNat x1) (0 : Int) else D.toInt (nth r0 0))) x35 (IntKind.wrap .i64 (x36 + D.toInt (nth r1 0)))))
 (none))
 (none))
 (none))
 (none))
 (none))
 (none))
 (none))
 (none))
 (some [(.agg [(.int .i64 (x32)), (.arr true (z24) (.r3 (l25))), (.arr true (z26) (.ints .i64 (l27))), (.arr true (z28) (.ints .i64 (l29))), (.arr true (z30) (.ints .i64 (l31)))]), (.agg [(.int .i64 (x33)), (.int .i64 (x34)), (.int .i64 (x35)), (.int .i64 (x36))])]) := by kernel_rfl
def qxn (x0 x1 : Int) (z2 : Bool) (l3 : List (Int × Int × Int)) (z4 : Bool) (l5 : List Int) (z6 : Bool) (l7 : List Int) (z8 : Bool) (l9 : List Int) (x10 : Int) (z11 : Bool) (l12 : List (Int × Int × Int)) (z13 : Bool) (l14 : List Int) (z15 : Bool) (l16 : List Int) (z17 : Bool) (l18 : List Int) (x19 x20 x21 x22 x23 : Int) (z24 : Bool) (l25 : List (Int × Int × Int)) (z26 : Bool) (l27 : List Int) (z28 : Bool) (l29 : List Int) (z30 : Bool) (l31 : List Int) (x32 x33 x34 x35 x36 : Int) : St := ⟨fill 46 [(1, (.int .i64 (x0))), (2, (.ptr 4 (0) (0))), (4, (.ptr 9 (0) (0))), (5, (.ptr 10 (0) (0))), (6, (.ptr 15 (0) (0))), (7, (.ptr 16 (0) (0))), (8, (.int .i64 (x1)))], [], [(.arr false (z2) (.r3 (l3))), (.arr false (z4) (.ints .i64 (l5))), (.arr false (z6) (.ints .i64 (l7))), (.arr false (z8) (.ints .i64 (l9))), (.box true [(.int .i64 (x10)), (.sl 0 none), (.sl 1 none), (.sl 2 none), (.sl 3 none)]), (.arr true (z11) (.r3 (l12))), (.arr true (z13) (.ints .i64 (l14))), (.arr true (z15) (.ints .i64 (l16))), (.arr true (z17) (.ints .i64 (l18))), (.box true [(.int .i64 (x19)), (.sl 5 none), (.sl 6 none), (.sl 7 none), (.sl 8 none)]), (.box true [(.int .i64 (x20)), (.int .i64 (x21)), (.int .i64 (x22)), (.int .i64 (x23))]), (.arr true (z24) (.r3 (l25))), (.arr true (z26) (.ints .i64 (l27))), (.arr true (z28) (.ints .i64 (l29))), (.arr true (z30) (.ints .i64 (l31))), (.box true [(.int .i64 (x32)), (.sl 11 none), (.sl 12 none), (.sl 13 none), (.sl 14 none)]), (.box true [(.int .i64 (x33)), (.int .i64 (x34)), (.int .i64 (x35)), (.int .i64 (x36))])]⟩
theorem qnh (k : Nat) (a0 : Int) (a1z : Bool) (a1 : List (Int × Int × Int)) (a2z : Bool) (a2 : List Int) (a3z : Bool) (a3 : List Int) (a4z : Bool) (a4 : List Int) (b : Int) : go (k + 1) spec_l15Decay [(.agg [(.int .i64 (a0)), (.arr false (a1z) (.r3 (a1))), (.arr false (a2z) (.ints .i64 (a2))), (.arr false (a3z) (.ints .i64 (a3))), (.arr false (a4z) (.ints .i64 (a4)))]), (.int .i64 (b))] =
 (go k spec_l07Copy [(.agg [(.int .i64 (a0)), (.arr false (a1z) (.r3 (a1))), (.arr false (a2z) (.ints .i64 (a2))), (.arr false (a3z) (.ints .i64 (a3))), (.arr false (a4z) (.ints .i64 (a4)))])]).bind fun r0 =>
 lp k spec_l15Decay [] [] 4 k (qxn b (0 : Int) a1z a1 a2z a2 a3z a3 a4z a4 a0 true ([]) true ([]) true ([]) true ([]) (0 : Int) (0 : Int) (0 : Int) (0 : Int) (0 : Int) (D.nil (D.cell 1 (nth r0 0))) (D.r3 (D.cell 1 (nth r0 0))) (D.nil (D.cell 2 (nth r0 0))) (D.ints (D.cell 2 (nth r0 0))) (D.nil (D.cell 3 (nth r0 0))) (D.ints (D.cell 3 (nth r0 0))) (D.nil (D.cell 4 (nth r0 0))) (D.ints (D.cell 4 (nth r0 0))) (D.toInt (D.cell 0 (nth r0 0))) (0 : Int) (0 : Int) (0 : Int) (0 : Int)) := by kernel_rfl
theorem qqv (k n : Nat) (fu : List (Nat × Nat)) (x0 x1 : Int) (z2 : Bool) (l3 : List (Int × Int × Int)) (z4 : Bool) (l5 : List Int) (z6 : Bool) (l7 : List Int) (z8 : Bool) (l9 : List Int) (x10 : Int) (z11 : Bool) (l12 : List (Int × Int × Int)) (z13 : Bool) (l14 : List Int) (z15 : Bool) (l16 : List Int) (z17 : Bool) (l18 : List Int) (x19 x20 x21 x22 x23 : Int) (z24 : Bool) (l25 : List (Int × Int × Int)) (z26 : Bool) (l27 : List Int) (z28 : Bool) (l29 : List Int) (z30 : Bool) (l31 : List Int) (x32 x33 x34 x35 x36 : Int) : lp k spec_l15Decay [] fu 4 (n + 1) (qxn x0 x1 z2 l3 z4 l5 z6 l7 z8 l9 x10 z11 l12 z13 l14 z15 l16 z17 l18 x19 x20 x21 x22 x23 z24 l25 z26 l27 z28 l29 z30 l31 x32 x33 x34 x35 x36) =
 cond (decide (x1 < nI (List.length l7)))
 (cond (decide ((0 : Int) ≤ x1) && decide (x1 < nI (List.length l7)))
 (cond (decide ((0 : Int) ≤ x1) && decide (x1 < nI (List.length l29)))
 (cond (decide ((0 : Int) ≤ x1) && decide (x1 < nI (List.length l29)))
 (lp k spec_l15Decay [] fu 4 n (qxn x0 (IntKind.wrap .i64 (x1 + (1 : Int))) z2 l3 z4 l5 z6 l7 z8 l9 x10 z11 l12 z13 l14 z15 l16 z17 l18 x19 x20 x21 x22 x23 z24 l25 z26 l27 z28 (List.set l29 (Int.toNat x1) (IntKind.wrap .i64 (List.getD l29 (Int.toNat x1) (0 : Int) - IntKind.wrap .i64 (Int.tdiv (IntKind.wrap .i64 (List.getD l7 (Int.toNat x1) (0 : Int) * x0)) (1000 : Int))))) z30 l31 x32 x33 x34 x35 (IntKind.wrap .i64 (x36 + IntKind.wrap .i64 (Int.tdiv (IntKind.wrap .i64 (List.getD l7 (Int.toNat x1) (0 : Int) * x0)) (1000 : Int))))))
 (none))
 (none))
 (none))
 (some [(.agg [(.int .i64 (x32)), (.arr true (z24) (.r3 (l25))), (.arr true (z26) (.ints .i64 (l27))), (.arr true (z28) (.ints .i64 (l29))), (.arr true (z30) (.ints .i64 (l31)))]), (.agg [(.int .i64 (x33)), (.int .i64 (x34)), (.int .i64 (x35)), (.int .i64 (x36))])]) := by kernel_rfl
def qxs (x0 x1 x2 x3 x4 x5 x6 x7 x8 x9 x10 : Int) (z11 : Bool) (l12 : List (Int × Int × Int)) (z13 : Bool) (l14 : List Int) (z15 : Bool) (l16 : List Int) (z17 : Bool) (l18 : List Int) (x19 x20 x21 x22 x23 : Int) (z24 : Bool) (l25 : List (Int × Int × Int)) (z26 : Bool) (l27 : List Int) (z28 : Bool) (l29 : List Int) (z30 : Bool) (l31 : List Int) (x32 x33 x34 x35 x36 : Int) : St := ⟨fill 79 [(2, (.int .i64 (x0))), (4, (.ptr 0 (0) (0))), (6, (.ptr 5 (0) (0))), (7, (.ptr 6 (0) (0))), (8, (.ptr 11 (0) (0))), (9, (.ptr 12 (0) (0))), (16, (.int .i64 (x1)))], [], [(.box true [(.int .i64 (x2)), (.int .i64 (x3)), (.int .i64 (x4)), (.int .i64 (x5)), (.int .i64 (x6)), (.int .i64 (x7)), (.int .i64 (x8)), (.int .i64 (x9)), (.int .i64 (x10))]), (.arr true (z11) (.r3 (l12))), (.arr true (z13) (.ints .i64 (l14))), (.arr true (z15) (.ints .i64 (l16))), (.arr true (z17) (.ints .i64 (l18))), (.box true [(.int .i64 (x19)), (.sl 1 none), (.sl 2 none), (.sl 3 none), (.sl 4 none)]), (.box true [(.int .i64 (x20)), (.int .i64 (x21)), (.int .i64 (x22)), (.int .i64 (x23))]), (.arr true (z24) (.r3 (l25))), (.arr true (z26) (.ints .i64 (l27))), (.arr true (z28) (.ints .i64 (l29))), (.arr true (z30) (.ints .i64 (l31))), (.box true [(.int .i64 (x32)), (.sl 7 none), (.sl 8 none), (.sl 9 none), (.sl 10 none)]), (.box true [(.int .i64 (x33)), (.int .i64 (x34)), (.int .i64 (x35)), (.int .i64 (x36))])]⟩
theorem qnm (k : Nat) (a0 : Int) (a1z : Bool) (a1 : List (Int × Int × Int)) (a2z : Bool) (a2 : List Int) (a3z : Bool) (a3 : List Int) (a4z : Bool) (a4 : List Int) (b0 b1 b2 b3 b4 b5 b6 b7 b8 c : Int) : go (k + 1) spec_l18Macro [(.agg [(.int .i64 (a0)), (.arr false (a1z) (.r3 (a1))), (.arr false (a2z) (.ints .i64 (a2))), (.arr false (a3z) (.ints .i64 (a3))), (.arr false (a4z) (.ints .i64 (a4)))]), (.agg [(.int .i64 (b0)), (.int .i64 (b1)), (.int .i64 (b2)), (.int .i64 (b3)), (.int .i64 (b4)), (.int .i64 (b5)), (.int .i64 (b6)), (.int .i64 (b7)), (.int .i64 (b8))]), (.int .i64 (c))] =
 (go k spec_l13Apply [(.agg [(.int .i64 (a0)), (.arr false (a1z) (.r3 (a1))), (.arr false (a2z) (.ints .i64 (a2))), (.arr false (a3z) (.ints .i64 (a3))), (.arr false (a4z) (.ints .i64 (a4)))]), (.agg [(.int .i64 (b0)), (.int .i64 (b1)), (.int .i64 (b2))])]).bind fun r0 =>
 (go k spec_l14Rain [(.agg [(.int .i64 (D.toInt (D.cell 0 (nth r0 0)))), (.arr false (D.nil (D.cell 1 (nth r0 0))) (.r3 (D.r3 (D.cell 1 (nth r0 0))))), (.arr false (D.nil (D.cell 2 (nth r0 0))) (.ints .i64 (D.ints (D.cell 2 (nth r0 0))))), (.arr false (D.nil (D.cell 3 (nth r0 0))) (.ints .i64 (D.ints (D.cell 3 (nth r0 0))))), (.arr false (D.nil (D.cell 4 (nth r0 0))) (.ints .i64 (D.ints (D.cell 4 (nth r0 0)))))]), (.int .i64 (b3))]).bind fun r1 =>
 (go k spec_l14Soak [(.agg [(.int .i64 (D.toInt (D.cell 0 (nth r1 0)))), (.arr false (D.nil (D.cell 1 (nth r1 0))) (.r3 (D.r3 (D.cell 1 (nth r1 0))))), (.arr false (D.nil (D.cell 2 (nth r1 0))) (.ints .i64 (D.ints (D.cell 2 (nth r1 0))))), (.arr false (D.nil (D.cell 3 (nth r1 0))) (.ints .i64 (D.ints (D.cell 3 (nth r1 0))))), (.arr false (D.nil (D.cell 4 (nth r1 0))) (.ints .i64 (D.ints (D.cell 4 (nth r1 0)))))]), (.int .i64 (b4))]).bind fun r2 =>
 (go k spec_l15Decay [(.agg [(.int .i64 (D.toInt (D.cell 0 (nth r2 0)))), (.arr false (D.nil (D.cell 1 (nth r2 0))) (.r3 (D.r3 (D.cell 1 (nth r2 0))))), (.arr false (D.nil (D.cell 2 (nth r2 0))) (.ints .i64 (D.ints (D.cell 2 (nth r2 0))))), (.arr false (D.nil (D.cell 3 (nth r2 0))) (.ints .i64 (D.ints (D.cell 3 (nth r2 0))))), (.arr false (D.nil (D.cell 4 (nth r2 0))) (.ints .i64 (D.ints (D.cell 4 (nth r2 0)))))]), (.int .i64 (b5))]).bind fun r3 =>
 (go k spec_LedgerAdd [(.agg [(.int .i64 (D.toInt (D.cell 0 (nth r0 1)))), (.int .i64 (D.toInt (D.cell 1 (nth r0 1)))), (.int .i64 (D.toInt (D.cell 2 (nth r0 1)))), (.int .i64 (D.toInt (D.cell 3 (nth r0 1))))]), (.agg [(.int .i64 (D.toInt (D.cell 0 (nth r1 1)))), (.int .i64 (D.toInt (D.cell 1 (nth r1 1)))), (.int .i64 (D.toInt (D.cell 2 (nth r1 1)))), (.int .i64 (D.toInt (D.cell 3 (nth r1 1))))])]).bind fun r4 =>
 (go k spec_LedgerAdd [(.agg [(.int .i64 (D.toInt (D.cell 0 (nth r2 1)))), (.int .i64 (D.toInt (D.cell 1 (nth r2 1)))), (.int .i64 (D.toInt (D.cell 2 (nth r2 1)))), (.int .i64 (D.toInt (D.cell 3 (nth r2 1))))]), (.agg [(.int .i64 (D.toInt (D.cell 0 (nth r3 1)))), (.int .i64 (D.toInt (D.cell 1 (nth r3 1)))), (.int .i64 (D.toInt (D.cell 2 (nth r3 1)))), (.int .i64 (D.toInt (D.cell 3 (nth r3 1))))])]).bind fun r5 =>
 (go k spec_LedgerAdd [(.agg [(.int .i64 (D.toInt (D.cell 0 (nth r4 0)))), (.int .i64 (D.toInt (D.cell 1 (nth r4 0)))), (.int .i64 (D.toInt (D.cell 2 (nth r4 0)))), (.int .i64 (D.toInt (D.cell 3 (nth r4 0))))]), (.agg [(.int .i64 (D.toInt (D.cell 0 (nth r5 0)))), (.int .i64 (D.toInt (D.cell 1 (nth r5 0)))), (.int .i64 (D.toInt (D.cell 2 (nth r5 0)))), (.int .i64 (D.toInt (D.cell 3 (nth r5 0))))])]).bind fun r6 =>
 lp k spec_l18Macro [] [] 8 k (qxs c (0 : Int) b0 b1 b2 b3 b4 b5 b6 b7 b8 true ([]) true ([]) true ([]) true ([]) (0 : Int) (0 : Int) (0 : Int) (0 : Int) (0 : Int) (D.nil (D.cell 1 (nth r3 0))) (D.r3 (D.cell 1 (nth r3 0))) (D.nil (D.cell 2 (nth r3 0))) (D.ints (D.cell 2 (nth r3 0))) (D.nil (D.cell 3 (nth r3 0))) (D.ints (D.cell 3 (nth r3 0))) (D.nil (D.cell 4 (nth r3 0))) (D.ints (D.cell 4 (nth r3 0))) (D.toInt (D.cell 0 (nth r3 0))) (D.toInt (D.cell 0 (nth r6 0))) (D.toInt (D.cell 1 (nth r6 0))) (D.toInt (D.cell 2 (nth r6 0))) (D.toInt (D.cell 3 (nth r6 0)))) := by kernel_rfl
theorem qq0 (k n : Nat) (fu : List (Nat × Nat)) (x0 x1 x2 x3 x4 x5 x6 x7 x8 x9 x10 : Int) (z11 : Bool) (l12 : List (Int × Int × Int)) (z13 : Bool) (l14 : List Int) (z15 : Bool) (l16 : List Int) (z17 : Bool) (l18 : List Int) (x19 x20 x21 x22 x23 : Int) (z24 : Bool) (l25 : List (Int × Int × Int)) (z26 : Bool) (l27 : List Int) (z28 : Bool) (l29 : List Int) (z30 : Bool) (l31 : List Int) (x32 x33 x34 x35 x36 : Int) : lp k spec_l18Macro [] fu 8 (n + 1) (qxs x0 x1 x2 x3 x4 x5 x6 x7 x8 x9 x10 z11 l12 z13 l14 z15 l16 z17 l18 x19 x20 x21 x22 x23 z24 l25 z26 l27 z28 l29 z30 l31 x32 x33 x34 x35 x36) =
 cond (decide (x1 < (16 : Int)))
 ((go k spec_l11Step [(.agg [(.int .i64 (x32)), (.arr false (z24) (.r3 (l25))), (.arr false (z26) (.ints .i64 (l27))), (.arr false (z28) (.ints .i64 (l29))), (.arr false (z30) (.ints .i64 (l31)))]), (.int .i64 (x1))]).bind fun r0 =>
 lp k spec_l18Macro [] fu 8 n (qxs x0 (IntKind.wrap .i64 (x1 + (1 : Int))) x2 x3 x4 x5 x6 x7 x8 x9 x10 z11 l12 z13 l14 z15 l16 z17 l18 x19 x20 x21 x22 x23 (D.nil (D.cell 1 (nth r0 0))) (D.r3 (D.cell 1 (nth r0 0))) (D.nil (D.cell 2 (nth r0 0))) (D.ints (D.cell 2 (nth r0 0))) (D.nil (D.cell 3 (nth r0 0))) (D.ints (D.cell 3 (nth r0 0))) (D.nil (D.cell 4 (nth r0 0))) (D.ints (D.cell 4 (nth r0 0))) (D.toInt (D.cell 0 (nth r0 0))) x33 x34 x35 x36))
 (cond (decide ((0 : Int) < x10))
 (cond (!decide (x10 = (0 : Int)))
 (cond (decide (Int.tmod (IntKind.wrap .i64 (x0 + (1 : Int))) x10 = (0 : Int)))
 ((go k spec_l17Adapt [(.agg [(.int .i64 (x32)), (.arr false (z24) (.r3 (l25))), (.arr false (z26) (.ints .i64 (l27))), (.arr false (z28) (.ints .i64 (l29))), (.arr false (z30) (.ints .i64 (l31)))]), (.int .i64 (x8)), (.int .i64 (x9))]).bind fun r1 =>
 some [(.agg [(.int .i64 (D.toInt (D.cell 0 (nth r1 0)))), (.arr true (D.nil (D.cell 1 (nth r1 0))) (.r3 (D.r3 (D.cell 1 (nth r1 0))))), (.arr true (D.nil (D.cell 2 (nth r1 0))) (.ints .i64 (D.ints (D.cell 2 (nth r1 0))))), (.arr true (D.nil (D.cell 3 (nth r1 0))) (.ints .i64 (D.ints (D.cell 3 (nth r1 0))))), (.arr true (D.nil (D.cell 4 (nth r1 0))) (.ints .i64 (D.ints (D.cell 4 (nth r1 0)))))]), (.agg [(.int .i64 (x33)), (.int .i64 (x34)), (.int .i64 (x35)), (.int .i64 (x36))])])
 (some [(.agg [(.int .i64 (x32)), (.arr true (z24) (.r3 (l25))), (.arr true (z26) (.ints .i64 (l27))), (.arr true (z28) (.ints .i64 (l29))), (.arr true (z30) (.ints .i64 (l31)))]), (.agg [(.int .i64 (x33)), (.int .i64 (x34)), (.int .i64 (x35)), (.int .i64 (x36))])]))
 (none))
 (some [(.agg [(.int .i64 (x32)), (.arr true (z24) (.r3 (l25))), (.arr true (z26) (.ints .i64 (l27))), (.arr true (z28) (.ints .i64 (l29))), (.arr true (z30) (.ints .i64 (l31)))]), (.agg [(.int .i64 (x33)), (.int .i64 (x34)), (.int .i64 (x35)), (.int .i64 (x36))])])) := by kernel_rfl

end Go.Proofs.YtoldpdhhfmlckaaGreat
end
section
namespace Go.Proofs.YtoldpdhhfmlckaaGreat
open Go.Ev
set_option maxRecDepth 20000
theorem qu4 (o : Bool) (d0 : D) (l : List D) : (D.ptr o (d0 :: l)).cell 0 = d0 := Eq.trans rfl rfl
theorem qu5 (o : Bool) (d0 d1 : D) (l : List D) : (D.ptr o (d0 :: d1 :: l)).cell 1 = d1 := Eq.trans rfl rfl
theorem qu6 (o : Bool) (d0 d1 d2 : D) (l : List D) : (D.ptr o (d0 :: d1 :: d2 :: l)).cell 2 = d2 := Eq.trans rfl rfl
theorem qu7 (o : Bool) (d0 d1 d2 d3 : D) (l : List D) : (D.ptr o (d0 :: d1 :: d2 :: d3 :: l)).cell 3 = d3 := Eq.trans rfl rfl
theorem qu8 (o : Bool) (d0 d1 d2 d3 d4 : D) (l : List D) : (D.ptr o (d0 :: d1 :: d2 :: d3 :: d4 :: l)).cell 4 = d4 := Eq.trans rfl rfl
def upto (L i : Nat) (f g : Nat → Int) : List Int := tab L (fun j => if j < i then f j else g j)
theorem qz3 (L i : Nat) (f g : Nat → Int) : (upto L i f g).length = L := qza _ _
theorem qz2 {L i : Nat} {f g : Nat → Int} (h : i < L) : (upto L i f g).getD i 0 = g i := by
  unfold upto; rw [qy9 h, if_neg (by omega)]
theorem qz4 (L i : Nat) (f g : Nat → Int) (v : Int) (hv : v = f i) : (upto L i f g).set i v = upto L (i + 1) f g := by
  unfold upto
  rw [qzc]
  refine qy8 fun j hj => ?_
  by_cases e : j = i
  · subst e; rw [if_pos rfl, if_pos (by omega), hv]
  · rw [if_neg e]
    by_cases e2 : j < i
    · rw [if_pos e2, if_pos (by omega)]
    · rw [if_neg e2, if_neg (by omega)]
theorem qz5 (m : List Int) (L : Nat) (h : m.length = L) (f : Nat → Int) : upto L 0 f (fun j => m.getD j 0) = m := by
  subst h
  refine Eq.trans (qy8 fun j hj => ?_) (qzb m).symm
  rw [if_neg (by omega)]
theorem qz1 (L : Nat) (f g : Nat → Int) : upto L L f g = tab L f := qy8 fun j hj => if_pos hj
theorem qzi {a : Int} (ha : 0 ≤ a ∧ a ≤ 10000) (l : List Cell) (i : Nat) : (0 ≤ a * qz7 (l.getD i zz3).2.1 ∧ a * qz7 (l.getD i zz3).2.1 ≤ 160000) ∧ Int.tdiv (a * qz7 (l.getD i zz3).2.1) 16 = part a l i := by
  have w := qz9 (l.getD i zz3).2.1
  have h1 := Int.mul_nonneg ha.1 w.1
  have h2 : a * qz7 (l.getD i zz3).2.1 ≤ a * 16 := Int.mul_le_mul_of_nonneg_left w.2 ha.1
  exact ⟨⟨h1, by omega⟩, Int.tdiv_eq_ediv_of_nonneg h1⟩
theorem qc7 (k : Nat) (hk : 2000000 ≤ k) (z1 z2 z3 z4 : Bool) (r : Int) (l : List Cell) (m t b : List Int) (a : Int) (ha : 0 ≤ a ∧ a ≤ 10000) (i : Nat) (hi : i < l.length) (hl : l.length ≤ 128) :
    go (k + 4) impl_State_partOf [.agg [.int .i64 (r), .arr false (z1) (.r3 (l)), .arr false (z2) (.ints .i64 (m)), .arr false (z3) (.ints .i64 (t)), .arr false (z4) (.ints .i64 (b))], .int .i64 a, .int .i64 (i : Int)] = some [.int .i64 (part a l i)] := by
  rw [qjo]
  have d := qzi ha l i; have p := qup ha l i
  have e := d.2
  simp (disch := omega) only [dT, nI, Bool.and_true, Int.toNat_natCast, qcb, qa2, nth0, qzo, q0f, e, qhn]
theorem qgc (k : Nat) (hk : 2000000 ≤ k) (l : List Cell) (a : Int) (ha : 0 ≤ a ∧ a ≤ 10000) (i : Nat) :
    go (k + 3) spec_l14Part [.int .i64 a, .int .i64 (l.getD i zz3).2.1] = some [.int .i64 (part a l i)] := by
  rw [qne]
  have d := qzi ha l i; have p := qup ha l i
  have e := d.2
  simp (disch := omega) only [qfo, qa2, nth0, qzo, q0f, e]
theorem qy2 {x : List Int} (h : ∀ v ∈ x, 0 ≤ v ∧ v ≤ 1000000000000) (n : Nat) : qyz (fun j => x.getD j 0) n ≤ isum x := by
  rw [qoz x]
  have nn : ∀ j, 0 ≤ x.getD j 0 := fun j => by
    by_cases g : j < x.length
    · exact (h _ (qoa g 0)).1
    · rw [qn9 (by omega)]; exact Int.le_refl 0
  have up : ∀ d, qyz (fun j => x.getD j 0) n ≤ qyz (fun j => x.getD j 0) (n + d) := by
    intro d
    induction d with
    | zero => exact Int.le_refl _
    | succ d ih => have := nn (n + d); rw [show n + (d + 1) = (n + d) + 1 from rfl, qyz]; omega
  by_cases g : n ≤ x.length
  · have := up (x.length - n)
    rwa [show n + (x.length - n) = x.length by omega] at this
  · have hi : ∀ d, qyz (fun j => x.getD j 0) (x.length + d) = qyz (fun j => x.getD j 0) x.length := by
      intro d
      induction d with
      | zero => rfl
      | succ d ih => rw [show x.length + (d + 1) = (x.length + d) + 1 from rfl, qyz, ih, qn9 (by omega)]; omega
    have := hi (n - x.length)
    rw [show x.length + (n - x.length) = n by omega] at this
    rw [this]; exact Int.le_refl _
abbrev raF (a : Int) (l : List Cell) (m : List Int) (j : Nat) : Int := m.getD j 0 + part a l j
theorem qr0 (k : Nat) (hk : 2000000 ≤ k) (fu : List (Nat × Nat)) (a0 : Int) (a1z : Bool) (a1 : List Cell) (a2z : Bool) (a2 : List Int) (a3z : Bool) (a3 : List Int) (a4z : Bool) (a4 : List Int) (z1 z2 z3 z4 : Bool) (r : Int) (l : List Cell) (m t b : List Int) (a tot : Int) (ha : 0 ≤ a ∧ a ≤ 10000) (F : StF r l m t b) : ∀ (N i : Nat), i ≤ l.length → l.length - i < N →
    lp (k + 4) impl_State_rain [(.ptr true [(.int .i64 (a0)), (.arr true (a1z) (.r3 (a1))), (.arr true (a2z) (.ints .i64 (a2))), (.arr true (a3z) (.ints .i64 (a3))), (.arr true (a4z) (.ints .i64 (a4)))])] fu 10 (N) (qwg a tot (l.length : Int) (i : Int) z1 l z2 (upto l.length i (raF a l m) (fun j => m.getD j 0)) z3 t z4 b r 0 0 0 0) = some [.agg [.int .i64 tot, .int .i64 0, .int .i64 0, .int .i64 0], .ptr true [.int .i64 (r), .arr true (z1) (.r3 (l)), .arr true (z2) (.ints .i64 (tab l.length (raF a l m))), .arr true (z3) (.ints .i64 (t)), .arr true (z4) (.ints .i64 (b))]]
  | 0, i, hi, hN => by omega
  | N + 1, i, hi, hN => by
    rw [qpo]
    have L := F.len; have f := F.at i; have p := qup ha l i
    by_cases g : i < l.length
    · have IH := qr0 k hk fu a0 a1z a1 a2z a2 a3z a3 a4z a4 z1 z2 z3 z4 r l m t b a tot ha F N (i + 1) (by omega) (by omega)
      have es : (upto l.length i (raF a l m) (fun j => m.getD j 0)).set i (m.getD i 0 + part a l i) = upto l.length (i + 1) (raF a l m) (fun j => m.getD j 0) := qz4 _ _ _ _ _ rfl
      have eg : (upto l.length i (raF a l m) (fun j => m.getD j 0)).getD i 0 = m.getD i 0 := qz2 g
      simp (disch := omega) only [dT, nI, qz3, Bool.and_true, qc7, qgr, q0f, Int.toNat_natCast, eg, qhn, qa2, nth0, qzo, es, IH]
    · have : i = l.length := by omega
      subst this
      simp (disch := omega) only [dF, dT, nI, qz1, Bool.true_and, qgr, q0f, Int.toNat_natCast, qhl]
theorem qr1 (k : Nat) (hk : 2000000 ≤ k) (fu : List (Nat × Nat)) (a0 : Int) (a1z : Bool) (a1 : List Cell) (a2z : Bool) (a2 : List Int) (a3z : Bool) (a3 : List Int) (a4z : Bool) (a4 : List Int) (z1 z2 z3 z4 : Bool) (r : Int) (l : List Cell) (m t b : List Int) (a : Int) (ha : 0 ≤ a ∧ a ≤ 10000) (F : StF r l m t b) : ∀ (N i : Nat), i ≤ l.length → l.length - i < N →
    lp (k + 4) impl_State_rain [(.ptr true [(.int .i64 (a0)), (.arr true (a1z) (.r3 (a1))), (.arr true (a2z) (.ints .i64 (a2))), (.arr true (a3z) (.ints .i64 (a3))), (.arr true (a4z) (.ints .i64 (a4)))])] fu 3 (N) (qwh a (qyz (part a l) i) (l.length : Int) (i : Int) z1 l z2 m z3 t z4 b r 0 0 0 0) = some [.agg [.int .i64 (raS a l (m, t)).2.mi, .int .i64 0, .int .i64 0, .int .i64 0], .ptr true [.int .i64 (r), .arr true (z1) (.r3 (l)), .arr true (z2) (.ints .i64 ((raS a l (m, t)).1.1)), .arr true (z3) (.ints .i64 (t)), .arr true (z4) (.ints .i64 (b))]]
  | 0, i, hi, hN => by omega
  | N + 1, i, hi, hN => by
    rw [qpp]
    have L := F.len; have p := qup ha l i; have ps := quq ha l i; have ml := F.ml; have ms := F.msum
    by_cases g : i < l.length
    · have IH := qr1 k hk fu a0 a1z a1 a2z a2 a3z a3 a4z a4 z1 z2 z3 z4 r l m t b a ha F N (i + 1) (by omega) (by omega)
      rw [show qyz (part a l) (i + 1) = qyz (part a l) i + part a l i from rfl] at IH
      simp (disch := omega) only [dT, qc7, qgr, q0f, qa2, nth0, qzo, IH, nI, qhn]
    · have : i = l.length := by omega
      subst this
      have e10 := qr0 k hk fu a0 a1z a1 a2z a2 a3z a3 a4z a4 z1 z2 z3 z4 r l m t b a (qyz (part a l) l.length) ha F (k + 4) 0 (by omega) (by omega)
      rw [qz5 m l.length ml] at e10
      rw [show ((0 : Nat) : Int) = 0 from rfl] at e10
      have es := qdg (k + 3) (by omega) z2 m (by omega) F.mmem
      unfold raS
      by_cases h : isum m + qyz (part a l) l.length ≤ 10000000
      · rw [if_pos h]
        simp (disch := omega) only [dF, qgr, q0f, es, nI, ml, qa2, nth0, qzo, qhl]
        exact e10
      · rw [if_neg h]
        simp (disch := omega) only [dF, qgr, q0f, es, nI, qa2, nth0, qzo, dT, qhn, qhl]
theorem qu2 (a : Int) (l : List Cell) (s : S2) : (raS a l s).1.2 = s.2 := by unfold raS; split <;> rfl
theorem qu3 (a : Int) (l : List Cell) (s : S2) : (raS a l s).2.mo = 0 ∧ (raS a l s).2.ti = 0 ∧ (raS a l s).2.ou = 0 := by unfold raS; split <;> exact ⟨rfl, rfl, rfl⟩
theorem qc8 (k : Nat) (hk : 2000000 ≤ k) (z1 z2 z3 z4 : Bool) (r : Int) (l : List Cell) (m t b : List Int) (a : Int) (ha : 0 ≤ a ∧ a ≤ 10000) (F : StF r l m t b) :
    go (k + 5) impl_State_rain [.ptr true [.int .i64 (r), .arr true (z1) (.r3 (l)), .arr true (z2) (.ints .i64 (m)), .arr true (z3) (.ints .i64 (t)), .arr true (z4) (.ints .i64 (b))], .int .i64 a] = some [.agg [.int .i64 (raS a l (m, t)).2.mi, .int .i64 0, .int .i64 0, .int .i64 0], .ptr true [.int .i64 (r), .arr true (z1) (.r3 (l)), .arr true (z2) (.ints .i64 ((raS a l (m, t)).1.1)), .arr true (z3) (.ints .i64 (t)), .arr true (z4) (.ints .i64 (b))]] := by
  rw [qjp]
  have ml := F.ml
  have e := qr1 k hk [] r z1 l z2 m z3 t z4 b z1 z2 z3 z4 r l m t b a ha F (k + 4) 0 (by omega) (by have := F.len; omega)
  rw [show ((0 : Nat) : Int) = 0 from rfl, show qyz (part a l) 0 = 0 from rfl] at e
  simp (disch := omega) only [nI, ml]
  exact e
theorem qs9 (k : Nat) (hk : 2000000 ≤ k) (fu : List (Nat × Nat)) (z1 z2 z3 z4 : Bool) (r : Int) (l : List Cell) (m t b : List Int) (a : Int) (ha : 0 ≤ a ∧ a ≤ 10000) (F : StF r l m t b) (y1 y2 y3 y4 : Bool) (q1 : List Cell) (q2 q3 q4 : List Int) (p0 p1 p2 p3 p4 : Int) (v1 v2 v3 v4 : Bool) : ∀ (N i : Nat), i ≤ l.length → l.length - i < N →
    lp (k + 3) spec_l14Rain [] fu 4 (N) (qxl a (qyz (part a l) i) (i : Int) z1 l z2 m z3 t z4 b r y1 q1 y2 q2 y3 q3 y4 q4 p0 p1 p2 p3 p4 false l false (upto l.length i (raF a l m) (fun j => m.getD j 0)) false t false b r) = some [.agg [.int .i64 (r), .arr true (false) (.r3 (l)), .arr true (false) (.ints .i64 ((raS a l (m, t)).1.1)), .arr true (false) (.ints .i64 (t)), .arr true (false) (.ints .i64 (b))], .agg [.int .i64 (raS a l (m, t)).2.mi, .int .i64 0, .int .i64 0, .int .i64 0]]
  | 0, i, hi, hN => by omega
  | N + 1, i, hi, hN => by
    rw [qqt]
    have L := F.len; have p := qup ha l i; have ps := quq ha l i; have ml := F.ml; have ms := F.msum; have f := F.at i; have tl := F.tl; have bl := F.bl; have rr := F.rr
    by_cases g : i < l.length
    · have IH := qs9 k hk fu z1 z2 z3 z4 r l m t b a ha F y1 y2 y3 y4 q1 q2 q3 q4 p0 p1 p2 p3 p4 v1 v2 v3 v4 N (i + 1) (by omega) (by omega)
      rw [show qyz (part a l) (i + 1) = qyz (part a l) i + part a l i from rfl] at IH
      have es : (upto l.length i (raF a l m) (fun j => m.getD j 0)).set i (m.getD i 0 + part a l i) = upto l.length (i + 1) (raF a l m) (fun j => m.getD j 0) := qz4 _ _ _ _ _ rfl
      have eg : (upto l.length i (raF a l m) (fun j => m.getD j 0)).getD i 0 = m.getD i 0 := qz2 g
      simp (disch := omega) only [nI, dT, Bool.and_true, Int.toNat_natCast, qgc, qz3, qgr, q0f, eg, qhn, qa2, nth0, qzo, es, IH]
    · have : i = l.length := by omega
      subst this
      have e1 : isum (tab l.length (raF a l m)) = isum m + qyz (part a l) l.length := by rw [qo0, qy0, qoz m, ml]
      have mem : ∀ x ∈ tab l.length (raF a l m), 0 ≤ x ∧ x ≤ 1000000000000 := by
        intro x hx
        simp only [tab, List.mem_map] at hx
        obtain ⟨j, _, rfl⟩ := hx
        have f := F.at j; have p := qup ha l j
        show 0 ≤ m.getD j 0 + part a l j ∧ m.getD j 0 + part a l j ≤ _
        omega
      have es := qf4 (k + 2) (by omega) false (tab l.length (raF a l m)) (by rw [qza]; omega) mem
      unfold raS
      by_cases h : isum m + qyz (part a l) l.length ≤ 10000000
      · rw [if_pos h]
        simp (disch := omega) only [nI, dF, dT, Bool.and_false, Int.toNat_natCast, qz1, Bool.true_and, qgr, q0f, qhl, es, e1, qa2, nth0, qzo]
      · rw [if_neg h]
        simp (disch := omega) only [nI, dF, dT, Bool.and_false, Int.toNat_natCast, qz1, Bool.true_and, qgr, q0f, qhl, es, e1, qf3, qa2, nth0, qgt, qzo, qgu, qt9, quz, qg5, qoq, qg7, qg8, qhn]
theorem qgn (k : Nat) (hk : 2000000 ≤ k) (z1 z2 z3 z4 : Bool) (r : Int) (l : List Cell) (m t b : List Int) (a : Int) (ha : 0 ≤ a ∧ a ≤ 10000) (F : StF r l m t b) :
    go (k + 4) spec_l14Rain [.agg [.int .i64 (r), .arr false (z1) (.r3 (l)), .arr false (z2) (.ints .i64 (m)), .arr false (z3) (.ints .i64 (t)), .arr false (z4) (.ints .i64 (b))], .int .i64 a] = some [.agg [.int .i64 (r), .arr true (false) (.r3 (l)), .arr true (false) (.ints .i64 ((raS a l (m, t)).1.1)), .arr true (false) (.ints .i64 (t)), .arr true (false) (.ints .i64 (b))], .agg [.int .i64 (raS a l (m, t)).2.mi, .int .i64 0, .int .i64 0, .int .i64 0]] := by
  rw [qnf]
  have L := F.len; have ml := F.ml; have tl := F.tl; have bl := F.bl; have rr := F.rr
  have e := qs9 k hk [] z1 z2 z3 z4 r l m t b a ha F true true true true [] [] [] [] 0 0 0 0 0 true true true true (k + 3) 0 (by omega) (by omega)
  rw [show ((0 : Nat) : Int) = 0 from rfl, show qyz (part a l) 0 = 0 from rfl, qz5 m l.length ml] at e
  simp (disch := omega) only [qf3, qa2, nth0, qgu, qt9, quz, qg5, qoq, qg7, qg8, qgt, qzo]
  exact e
end Go.Proofs.YtoldpdhhfmlckaaGreat
end
section
namespace Go.Proofs.YtoldpdhhfmlckaaGreat
open Go.Ev
set_option maxRecDepth 20000
abbrev soF (a : Int) (l : List Cell) (m : List Int) (j : Nat) : Int := m.getD j 0 - soX a l m j
abbrev soG (a : Int) (l : List Cell) (m t : List Int) (j : Nat) : Int := t.getD j 0 - soY a l m t j
theorem qr2 (k : Nat) (hk : 2000000 ≤ k) (fu : List (Nat × Nat)) (a0 : Int) (a1z : Bool) (a1 : List Cell) (a2z : Bool) (a2 : List Int) (a3z : Bool) (a3 : List Int) (a4z : Bool) (a4 : List Int) (z1 z2 z3 z4 : Bool) (r : Int) (l : List Cell) (m t b : List Int) (a : Int) (ha : 0 ≤ a ∧ a ≤ 10000) (F : StF r l m t b) (p0 p1 p2 p3 : Int) : ∀ (N i : Nat), i ≤ l.length → l.length - i < N →
    lp (k + 4) impl_State_soak [(.ptr true [(.int .i64 (a0)), (.arr true (a1z) (.r3 (a1))), (.arr true (a2z) (.ints .i64 (a2))), (.arr true (a3z) (.ints .i64 (a3))), (.arr true (a4z) (.ints .i64 (a4)))])] fu 3 (N) (qwi a (l.length : Int) (i : Int) z1 l z2 (upto l.length i (soF a l m) (fun j => m.getD j 0)) z3 (upto l.length i (soG a l m t) (fun j => t.getD j 0)) z4 b r p0 p1 p2 p3 0 (qyz (soX a l m) i) 0 (qyz (soY a l m t) i)) = some [.agg [.int .i64 0, .int .i64 (qyz (soX a l m) l.length), .int .i64 0, .int .i64 (qyz (soY a l m t) l.length)], .ptr true [.int .i64 (r), .arr true (z1) (.r3 (l)), .arr true (z2) (.ints .i64 (tab l.length (soF a l m))), .arr true (z3) (.ints .i64 (tab l.length (soG a l m t))), .arr true (z4) (.ints .i64 (b))]]
  | 0, i, hi, hN => by omega
  | N + 1, i, hi, hN => by
    rw [qpq]
    have L := F.len; have f := F.at i; have p := qup ha l i
    by_cases g : i < l.length
    · have IH := qr2 k hk fu a0 a1z a1 a2z a2 a3z a3 a4z a4 z1 z2 z3 z4 r l m t b a ha F p0 p1 p2 p3 N (i + 1) (by omega) (by omega)
      rw [show qyz (soX a l m) (i + 1) = qyz (soX a l m) i + soX a l m i from rfl, show qyz (soY a l m t) (i + 1) = qyz (soY a l m t) i + soY a l m t i from rfl] at IH
      have s1 : (upto l.length i (soF a l m) (fun j => m.getD j 0)).set i (m.getD i 0 - soX a l m i) = upto l.length (i + 1) (soF a l m) (fun j => m.getD j 0) := qz4 _ _ _ _ _ rfl
      have s2 : (upto l.length i (soG a l m t) (fun j => t.getD j 0)).set i (t.getD i 0 - soY a l m t i) = upto l.length (i + 1) (soG a l m t) (fun j => t.getD j 0) := qz4 _ _ _ _ _ rfl
      have g1 : (upto l.length i (soF a l m) (fun j => m.getD j 0)).getD i 0 = m.getD i 0 := qz2 g
      have g2 : (upto l.length i (soG a l m t) (fun j => t.getD j 0)).getD i 0 = t.getD i 0 := qz2 g
      have x1 := qyc F ha i; have y1 := (qyd F ha i).1
      have q := qye F ha i
      have q1 := qye F ha l.length
      have ms := F.msum; have ts := F.tle
      have d1 := qy2 F.mmem i; have d2 := qy2 F.tmem i
      have ex : min (part a l i) (m.getD i 0) = soX a l m i := Int.min_comm _ _
      have ey : qx2 (t.getD i 0) (soX a l m i) (m.getD i 0) = soY a l m t i := rfl
      simp (disch := omega) only [dT, nI, qz3, Bool.and_true, qc7, Int.toNat_natCast, g2, g1, imin, qb5, qgr, q0f, qhn, qa2, nth0, qzo, ex, s1, ey, s2, IH]
    · have : i = l.length := by omega
      subst this
      simp (disch := omega) only [dF, dT, nI, qz1, Bool.true_and, Int.toNat_natCast, imin, qgr, q0f, qhl]
theorem qdf (k : Nat) (hk : 2000000 ≤ k) (z1 z2 z3 z4 : Bool) (r : Int) (l : List Cell) (m t b : List Int) (a : Int) (ha : 0 ≤ a ∧ a ≤ 10000) (F : StF r l m t b) :
    go (k + 5) impl_State_soak [.ptr true [.int .i64 (r), .arr true (z1) (.r3 (l)), .arr true (z2) (.ints .i64 (m)), .arr true (z3) (.ints .i64 (t)), .arr true (z4) (.ints .i64 (b))], .int .i64 a] = some [.agg [.int .i64 0, .int .i64 (soS a l (m, t)).2.mo, .int .i64 0, .int .i64 (soS a l (m, t)).2.ou], .ptr true [.int .i64 (r), .arr true (z1) (.r3 (l)), .arr true (z2) (.ints .i64 ((soS a l (m, t)).1.1)), .arr true (z3) (.ints .i64 ((soS a l (m, t)).1.2)), .arr true (z4) (.ints .i64 (b))]] := by
  rw [qju]
  have ml := F.ml; have tl := F.tl
  have e := qr2 k hk [] r z1 l z2 m z3 t z4 b z1 z2 z3 z4 r l m t b a ha F 0 0 0 0 (k + 4) 0 (by omega) (by have := F.len; omega)
  rw [show ((0 : Nat) : Int) = 0 from rfl, show qyz (soX a l m) 0 = 0 from rfl, show qyz (soY a l m t) 0 = 0 from rfl, qz5 m l.length ml, qz5 t l.length tl] at e
  simp (disch := omega) only [nI, ml]
  exact e
theorem qta (k : Nat) (hk : 2000000 ≤ k) (fu : List (Nat × Nat)) (z1 z2 z3 z4 : Bool) (r : Int) (l : List Cell) (m t b : List Int) (a : Int) (ha : 0 ≤ a ∧ a ≤ 10000) (F : StF r l m t b) (y1 y2 y3 y4 : Bool) (q1 : List Cell) (q2 q3 q4 : List Int) (p0 p1 p2 p3 p4 : Int) : ∀ (N i : Nat), i ≤ l.length → l.length - i < N →
    lp (k + 3) spec_l14Soak [] fu 4 (N) (qxm a (i : Int) z1 l z2 m z3 t z4 b r y1 q1 y2 q2 y3 q3 y4 q4 p0 p1 p2 p3 p4 false l false (upto l.length i (soF a l m) (fun j => m.getD j 0)) false (upto l.length i (soG a l m t) (fun j => t.getD j 0)) false b r 0 (qyz (soX a l m) i) 0 (qyz (soY a l m t) i)) = some [.agg [.int .i64 (r), .arr true (false) (.r3 (l)), .arr true (false) (.ints .i64 (tab l.length (soF a l m))), .arr true (false) (.ints .i64 (tab l.length (soG a l m t))), .arr true (false) (.ints .i64 (b))], .agg [.int .i64 0, .int .i64 (qyz (soX a l m) l.length), .int .i64 0, .int .i64 (qyz (soY a l m t) l.length)]]
  | 0, i, hi, hN => by omega
  | N + 1, i, hi, hN => by
    rw [qqu]
    have L := F.len; have f := F.at i; have p := qup ha l i; have ml := F.ml; have tl := F.tl
    by_cases g : i < l.length
    · have IH := qta k hk fu z1 z2 z3 z4 r l m t b a ha F y1 y2 y3 y4 q1 q2 q3 q4 p0 p1 p2 p3 p4 N (i + 1) (by omega) (by omega)
      rw [show qyz (soX a l m) (i + 1) = qyz (soX a l m) i + soX a l m i from rfl, show qyz (soY a l m t) (i + 1) = qyz (soY a l m t) i + soY a l m t i from rfl] at IH
      have s1 : (upto l.length i (soF a l m) (fun j => m.getD j 0)).set i (m.getD i 0 - soX a l m i) = upto l.length (i + 1) (soF a l m) (fun j => m.getD j 0) := qz4 _ _ _ _ _ rfl
      have s2 : (upto l.length i (soG a l m t) (fun j => t.getD j 0)).set i (t.getD i 0 - soY a l m t i) = upto l.length (i + 1) (soG a l m t) (fun j => t.getD j 0) := qz4 _ _ _ _ _ rfl
      have g1 : (upto l.length i (soF a l m) (fun j => m.getD j 0)).getD i 0 = m.getD i 0 := qz2 g
      have g2 : (upto l.length i (soG a l m t) (fun j => t.getD j 0)).getD i 0 = t.getD i 0 := qz2 g
      have x1 := qyc F ha i; have y1 := (qyd F ha i).1
      have q := qye F ha i
      have ms := F.msum; have ts := F.tle
      have d1 := qy2 F.mmem i; have d2 := qy2 F.tmem i
      have ex : min (m.getD i 0) (part a l i) = soX a l m i := rfl
      have ey : qx2 (t.getD i 0) (soX a l m i) (m.getD i 0) = soY a l m t i := rfl
      simp (disch := omega) only [nI, dT, Bool.and_true, Int.toNat_natCast, qgc, imin, qfk, qz3, qgr, q0f, g1, g2, qhn, qa2, nth0, qzo, ex, s1, ey, s2, IH]
    · have : i = l.length := by omega
      subst this
      simp (disch := omega) only [nI, dF, dT, Bool.and_false, Int.toNat_natCast, imin, qz1, Bool.true_and, qgr, q0f, qhl]
theorem qgp (k : Nat) (hk : 2000000 ≤ k) (z1 z2 z3 z4 : Bool) (r : Int) (l : List Cell) (m t b : List Int) (a : Int) (ha : 0 ≤ a ∧ a ≤ 10000) (F : StF r l m t b) :
    go (k + 4) spec_l14Soak [.agg [.int .i64 (r), .arr false (z1) (.r3 (l)), .arr false (z2) (.ints .i64 (m)), .arr false (z3) (.ints .i64 (t)), .arr false (z4) (.ints .i64 (b))], .int .i64 a] = some [.agg [.int .i64 (r), .arr true (false) (.r3 (l)), .arr true (false) (.ints .i64 ((soS a l (m, t)).1.1)), .arr true (false) (.ints .i64 ((soS a l (m, t)).1.2)), .arr true (false) (.ints .i64 (b))], .agg [.int .i64 0, .int .i64 (soS a l (m, t)).2.mo, .int .i64 0, .int .i64 (soS a l (m, t)).2.ou]] := by
  rw [qng]
  have L := F.len; have ml := F.ml; have tl := F.tl; have bl := F.bl; have rr := F.rr
  have e := qta k hk [] z1 z2 z3 z4 r l m t b a ha F true true true true [] [] [] [] 0 0 0 0 0 (k + 3) 0 (by omega) (by omega)
  rw [show ((0 : Nat) : Int) = 0 from rfl, show qyz (soX a l m) 0 = 0 from rfl, show qyz (soY a l m t) 0 = 0 from rfl, qz5 m l.length ml, qz5 t l.length tl] at e
  simp (disch := omega) only [qf3, qa2, nth0, qgu, qt9, quz, qg5, qoq, qg7, qg8, qgt, qzo]
  exact e
abbrev deF (a : Int) (t : List Int) (j : Nat) : Int := t.getD j 0 - deX a t j
theorem qzg {r : Int} {l : List Cell} {m t b : List Int} (F : StF r l m t b) {a : Int} (ha : 0 ≤ a ∧ a ≤ 1000) (i : Nat) : (0 ≤ t.getD i 0 * a ∧ t.getD i 0 * a ≤ 10000000000000) ∧ Int.tdiv (t.getD i 0 * a) 1000 = deX a t i := by
  have f := F.at i
  have h1 := Int.mul_nonneg f.2.2.1 ha.1
  have h2 : t.getD i 0 * a ≤ t.getD i 0 * 1000 := Int.mul_le_mul_of_nonneg_left ha.2 f.2.2.1
  exact ⟨⟨h1, by omega⟩, Int.tdiv_eq_ediv_of_nonneg h1⟩
theorem qhy {r : Int} {l : List Cell} {m t b : List Int} (F : StF r l m t b) {a : Int} (ha : 0 ≤ a ∧ a ≤ 1000) (n : Nat) : 0 ≤ qyz (deX a t) n ∧ qyz (deX a t) n ≤ qyz (fun j => t.getD j 0) n :=
  ⟨qy3 n fun j _ => (qhx F ha j).1, qy1 n fun j _ => (qhx F ha j).2⟩
theorem qrx (k : Nat) (hk : 2000000 ≤ k) (fu : List (Nat × Nat)) (a0 : Int) (a1z : Bool) (a1 : List Cell) (a2z : Bool) (a2 : List Int) (a3z : Bool) (a3 : List Int) (a4z : Bool) (a4 : List Int) (z1 z2 z3 z4 : Bool) (r : Int) (l : List Cell) (m t b : List Int) (a : Int) (ha : 0 ≤ a ∧ a ≤ 1000) (F : StF r l m t b) (p0 p1 p2 p3 : Int) : ∀ (N i : Nat), i ≤ l.length → l.length - i < N →
    lp k impl_State_decay [(.ptr true [(.int .i64 (a0)), (.arr true (a1z) (.r3 (a1))), (.arr true (a2z) (.ints .i64 (a2))), (.arr true (a3z) (.ints .i64 (a3))), (.arr true (a4z) (.ints .i64 (a4)))])] fu 3 (N) (qv9 a (l.length : Int) (i : Int) z1 l z2 m z3 (upto l.length i (deF a t) (fun j => t.getD j 0)) z4 b r p0 p1 p2 p3 0 0 0 (qyz (deX a t) i)) = some [.agg [.int .i64 0, .int .i64 0, .int .i64 0, .int .i64 (qyz (deX a t) l.length)], .ptr true [.int .i64 (r), .arr true (z1) (.r3 (l)), .arr true (z2) (.ints .i64 (m)), .arr true (z3) (.ints .i64 (tab l.length (deF a t))), .arr true (z4) (.ints .i64 (b))]]
  | 0, i, hi, hN => by omega
  | N + 1, i, hi, hN => by
    rw [qph]
    have L := F.len; have f := F.at i; have d := qzg F ha i
    by_cases g : i < l.length
    · have IH := qrx k hk fu a0 a1z a1 a2z a2 a3z a3 a4z a4 z1 z2 z3 z4 r l m t b a ha F p0 p1 p2 p3 N (i + 1) (by omega) (by omega)
      rw [show qyz (deX a t) (i + 1) = qyz (deX a t) i + deX a t i from rfl] at IH
      have s2 : (upto l.length i (deF a t) (fun j => t.getD j 0)).set i (t.getD i 0 - deX a t i) = upto l.length (i + 1) (deF a t) (fun j => t.getD j 0) := qz4 _ _ _ _ _ rfl
      have g2 : (upto l.length i (deF a t) (fun j => t.getD j 0)).getD i 0 = t.getD i 0 := qz2 g
      have x1 := qhx F ha i; have q := qhy F ha i; have ts := F.tle; have d2 := qy2 F.tmem i
      have ed := d.2
      simp (disch := omega) only [dT, nI, qz3, Bool.and_true, qgr, q0f, Int.toNat_natCast, g2, ed, s2, IH, qhn]
    · have : i = l.length := by omega
      subst this
      simp (disch := omega) only [dF, dT, nI, qz1, Bool.true_and, qgr, q0f, Int.toNat_natCast, qhl]
theorem qcp (k : Nat) (hk : 2000000 ≤ k) (z1 z2 z3 z4 : Bool) (r : Int) (l : List Cell) (m t b : List Int) (a : Int) (ha : 0 ≤ a ∧ a ≤ 1000) (F : StF r l m t b) :
    go (k + 1) impl_State_decay [.ptr true [.int .i64 (r), .arr true (z1) (.r3 (l)), .arr true (z2) (.ints .i64 (m)), .arr true (z3) (.ints .i64 (t)), .arr true (z4) (.ints .i64 (b))], .int .i64 a] = some [.agg [.int .i64 0, .int .i64 0, .int .i64 0, .int .i64 (deS a l (m, t)).2.ou], .ptr true [.int .i64 (r), .arr true (z1) (.r3 (l)), .arr true (z2) (.ints .i64 (m)), .arr true (z3) (.ints .i64 ((deS a l (m, t)).1.2)), .arr true (z4) (.ints .i64 (b))]] := by
  rw [qjg]
  have ml := F.ml; have tl := F.tl
  have e := qrx k hk [] r z1 l z2 m z3 t z4 b z1 z2 z3 z4 r l m t b a ha F 0 0 0 0 (k + 0) 0 (by omega) (by have := F.len; omega)
  rw [show ((0 : Nat) : Int) = 0 from rfl, show qyz (deX a t) 0 = 0 from rfl, qz5 t l.length tl] at e
  simp (disch := omega) only [nI, tl]
  exact e
theorem qs3 (k : Nat) (hk : 2000000 ≤ k) (fu : List (Nat × Nat)) (z1 z2 z3 z4 : Bool) (r : Int) (l : List Cell) (m t b : List Int) (a : Int) (ha : 0 ≤ a ∧ a ≤ 1000) (F : StF r l m t b) (y1 y2 y3 y4 : Bool) (q1 : List Cell) (q2 q3 q4 : List Int) (p0 p1 p2 p3 p4 : Int) : ∀ (N i : Nat), i ≤ l.length → l.length - i < N →
    lp (k + 2) spec_l15Decay [] fu 4 (N) (qxn a (i : Int) z1 l z2 m z3 t z4 b r y1 q1 y2 q2 y3 q3 y4 q4 p0 p1 p2 p3 p4 false l false m false (upto l.length i (deF a t) (fun j => t.getD j 0)) false b r 0 0 0 (qyz (deX a t) i)) = some [.agg [.int .i64 (r), .arr true (false) (.r3 (l)), .arr true (false) (.ints .i64 (m)), .arr true (false) (.ints .i64 (tab l.length (deF a t))), .arr true (false) (.ints .i64 (b))], .agg [.int .i64 0, .int .i64 0, .int .i64 0, .int .i64 (qyz (deX a t) l.length)]]
  | 0, i, hi, hN => by omega
  | N + 1, i, hi, hN => by
    rw [qqv]
    have L := F.len; have f := F.at i; have d := qzg F ha i; have tl := F.tl
    by_cases g : i < l.length
    · have IH := qs3 k hk fu z1 z2 z3 z4 r l m t b a ha F y1 y2 y3 y4 q1 q2 q3 q4 p0 p1 p2 p3 p4 N (i + 1) (by omega) (by omega)
      rw [show qyz (deX a t) (i + 1) = qyz (deX a t) i + deX a t i from rfl] at IH
      have s2 : (upto l.length i (deF a t) (fun j => t.getD j 0)).set i (t.getD i 0 - deX a t i) = upto l.length (i + 1) (deF a t) (fun j => t.getD j 0) := qz4 _ _ _ _ _ rfl
      have g2 : (upto l.length i (deF a t) (fun j => t.getD j 0)).getD i 0 = t.getD i 0 := qz2 g
      have x1 := qhx F ha i; have q := qhy F ha i; have ts := F.tle; have d2 := qy2 F.tmem i
      have ed := d.2
      simp (disch := omega) only [nI, dT, Bool.and_true, qz3, qgr, q0f, Int.toNat_natCast, g2, ed, s2, IH, qhn]
    · have : i = l.length := by omega
      subst this
      simp (disch := omega) only [nI, dF, dT, Bool.and_false, qz1, Bool.true_and, qgr, q0f, Int.toNat_natCast, qhl]
theorem qft (k : Nat) (hk : 2000000 ≤ k) (z1 z2 z3 z4 : Bool) (r : Int) (l : List Cell) (m t b : List Int) (a : Int) (ha : 0 ≤ a ∧ a ≤ 1000) (F : StF r l m t b) :
    go (k + 3) spec_l15Decay [.agg [.int .i64 (r), .arr false (z1) (.r3 (l)), .arr false (z2) (.ints .i64 (m)), .arr false (z3) (.ints .i64 (t)), .arr false (z4) (.ints .i64 (b))], .int .i64 a] = some [.agg [.int .i64 (r), .arr true (false) (.r3 (l)), .arr true (false) (.ints .i64 (m)), .arr true (false) (.ints .i64 ((deS a l (m, t)).1.2)), .arr true (false) (.ints .i64 (b))], .agg [.int .i64 0, .int .i64 0, .int .i64 0, .int .i64 (deS a l (m, t)).2.ou]] := by
  rw [qnh]
  have L := F.len; have ml := F.ml; have tl := F.tl; have bl := F.bl; have rr := F.rr
  have e := qs3 k hk [] z1 z2 z3 z4 r l m t b a ha F true true true true [] [] [] [] 0 0 0 0 0 (k + 2) 0 (by omega) (by omega)
  rw [show ((0 : Nat) : Int) = 0 from rfl, show qyz (deX a t) 0 = 0 from rfl, qz5 t l.length tl] at e
  simp (disch := omega) only [qf3, qa2, nth0, qgu, qt9, quz, qg5, qoq, qg7, qg8, qgt, qzo]
  exact e
end Go.Proofs.YtoldpdhhfmlckaaGreat
end
section
namespace Go.Proofs.YtoldpdhhfmlckaaGreat
open Go.Ev
set_option maxRecDepth 20000
theorem tnz : Int.toNat 0 = 0 := Eq.trans rfl rfl
theorem qdb (k : Nat) (hk : 2000000 ≤ k) (z1 z2 z3 z4 : Bool) (r : Int) (l : List Cell) (m t b : List Int) (i : Nat) (x : Int) (d0 d1 d2 d3 : Int) (h1 : i < m.length) (h2 : i < t.length) (hl : m.length ≤ 1048576) (hx : 0 ≤ x ∧ x ≤ m.getD i 0) (hm : m.getD i 0 ≤ 10000000) (ht : 0 ≤ t.getD i 0 ∧ t.getD i 0 ≤ 10000000000) (hd : 0 ≤ d1 ∧ d1 ≤ 1000000000000) (hd3 : 0 ≤ d3 ∧ d3 ≤ 1000000000000) :
    go (k + 3) impl_State_remove [.ptr true [.int .i64 (r), .arr true (z1) (.r3 (l)), .arr true (z2) (.ints .i64 (m)), .arr true (z3) (.ints .i64 (t)), .arr true (z4) (.ints .i64 (b))], .int .i64 (i : Int), .int .i64 x, .ptr true [.int .i64 d0, .int .i64 d1, .int .i64 d2, .int .i64 d3]] =
      some [.ptr true [.int .i64 (r), .arr true (z1) (.r3 (l)), .arr true (z2) (.ints .i64 (m.set i (m.getD i 0 - x))), .arr true (z3) (.ints .i64 (t.set i (t.getD i 0 - qx2 (t.getD i 0) x (m.getD i 0)))), .arr true (z4) (.ints .i64 (b))], .ptr true [.int .i64 d0, .int .i64 (d1 + x), .int .i64 d2, .int .i64 (d3 + qx2 (t.getD i 0) x (m.getD i 0))]] := by
  rw [qjr]
  have s := qx4 (t.getD i 0) x (m.getD i 0)
  simp (disch := omega) only [dT, nI, Bool.and_true, Int.toNat_natCast, qb5, q0f, qhn, qa2, nth0, qzo]
theorem qzh {x o : Int} (hx : 0 ≤ x ∧ x ≤ 10000000) (ho : 0 ≤ o ∧ o ≤ 250) : (0 ≤ x * o ∧ x * o ≤ 2500000000) ∧ Int.tdiv (x * o) 1000 = x * o / 1000 := by
  have h1 := Int.mul_nonneg hx.1 ho.1
  have h2 : x * o ≤ x * 250 := Int.mul_le_mul_of_nonneg_left ho.2 hx.1
  exact ⟨⟨h1, by omega⟩, Int.tdiv_eq_ediv_of_nonneg h1⟩
abbrev ldD (x : Ld) : D := .agg [.int .i64 x.mi, .int .i64 x.mo, .int .i64 x.ti, .int .i64 x.ou]
theorem qcj (k : Nat) (hk : 2000000 ≤ k) (z1 z2 z3 z4 : Bool) (r : Int) (l : List Cell) (m t b : List Int) (F : StF r l m t b) (a c o : Int) (ha : 0 ≤ a ∧ a ≤ 10000) (hc : 0 ≤ c ∧ c ≤ 1000) (ho : 0 ≤ o ∧ o ≤ 250) :
    go (k + 4) impl_State_border [.ptr true [.int .i64 (r), .arr true (z1) (.r3 (l)), .arr true (z2) (.ints .i64 (m)), .arr true (z3) (.ints .i64 (t)), .arr true (z4) (.ints .i64 (b))], .agg [.int .i64 a, .int .i64 c, .int .i64 o]] =
      some [ldD (boS a c o (m, t)).2, .ptr true [.int .i64 (r), .arr true (z1) (.r3 (l)), .arr true (z2) (.ints .i64 ((boS a c o (m, t)).1.1)), .arr true (z3) (.ints .i64 ((boS a c o (m, t)).1.2)), .arr true (z4) (.ints .i64 (b))]] := by
  rw [qje]
  have L := F.len; have ml := F.ml; have tl := F.tl
  have f := F.at (m.length - 1)
  have d := qzh ⟨f.1, f.2.1⟩ ho
  have ed : Int.tdiv (m.getD (m.length - 1) 0 * o) 1000 = boX o m := d.2
  have G := qa3 F ho
  have bx := qa5 F ho; have bY := qa6 F ho; have ip := qop ha hc
  have eR := qdb k (by omega) z1 z2 z3 z4 r l m t b (m.length - 1) (boX o m) 0 0 0 0 (by omega) (by omega) (by omega) bx f.2.1 ⟨f.2.2.1, by omega⟩ (by omega) (by omega)
  rw [show qx2 (t.getD (m.length - 1) 0) (boX o m) (m.getD (m.length - 1) 0) = boY o m t from rfl] at eR
  unfold boS
  change StF r l (m.set (m.length - 1) (m.getD (m.length - 1) 0 - boX o m)) (t.set (m.length - 1) (t.getD (m.length - 1) 0 - boY o m t)) b ∧ _ at G
  rw [show bo1 o (m, t) = (m.set (m.length - 1) (m.getD (m.length - 1) 0 - boX o m), t.set (m.length - 1) (t.getD (m.length - 1) 0 - boY o m t)) from rfl] at G ⊢
  generalize m.set (m.length - 1) (m.getD (m.length - 1) 0 - boX o m) = M at *
  generalize t.set (m.length - 1) (t.getD (m.length - 1) 0 - boY o m t) = T at *
  obtain ⟨G, g1, g2⟩ := G
  have Ml := G.ml; have Tl := G.tl; have Mf := G.at 0; have Ms := G.msum
  have eS := qdg (k + 2) (by omega) z2 M (by omega) G.mmem
  by_cases h : isum M + a ≤ 10000000
  · rw [if_pos h]
    simp (disch := omega) only [nI, qgq, q0f, dT, Bool.and_true, Int.toNat_natCast, ed, eR, Int.zero_add, Bool.true_and, tnz, qa2, nth0, qu6, qt9, qoq, eS, qu7, nth1, qu5, qzo, qu4, quz, qu8, qhn]
    rfl
  · rw [if_neg h]
    simp (disch := omega) only [nI, qgq, q0f, dT, Bool.and_true, Int.toNat_natCast, ed, eR, Int.zero_add, Bool.true_and, qa2, nth0, qu6, qt9, qoq, eS, qu7, nth1, qu5, qzo, qu4, quz, qu8, qhn, dF, qhl]
theorem qfs (k : Nat) (hk : 2000000 ≤ k) (z1 z2 z3 z4 : Bool) (r : Int) (l : List Cell) (m t b : List Int) (F : StF r l m t b) (a c o : Int) (ha : 0 ≤ a ∧ a ≤ 10000) (hc : 0 ≤ c ∧ c ≤ 1000) (ho : 0 ≤ o ∧ o ≤ 250) :
    go (k + 3) spec_l13Apply [.agg [.int .i64 (r), .arr false (z1) (.r3 (l)), .arr false (z2) (.ints .i64 (m)), .arr false (z3) (.ints .i64 (t)), .arr false (z4) (.ints .i64 (b))], .agg [.int .i64 a, .int .i64 c, .int .i64 o]] =
      some [.agg [.int .i64 (r), .arr true (false) (.r3 (l)), .arr true (false) (.ints .i64 ((boS a c o (m, t)).1.1)), .arr true (false) (.ints .i64 ((boS a c o (m, t)).1.2)), .arr true (false) (.ints .i64 (b))], ldD (boS a c o (m, t)).2] := by
  rw [qnd]
  have L := F.len; have ml := F.ml; have tl := F.tl; have bl := F.bl; have rr := F.rr
  have f := F.at (m.length - 1)
  have d := qzh ⟨f.1, f.2.1⟩ ho
  have ed : Int.tdiv (m.getD (m.length - 1) 0 * o) 1000 = boX o m := d.2
  have G := qa3 F ho
  have bx := qa5 F ho; have bY := qa6 F ho; have ip := qop ha hc
  have ey : qx2 (t.getD (m.length - 1) 0) (boX o m) (m.getD (m.length - 1) 0) = boY o m t := rfl
  unfold boS
  change StF r l (m.set (m.length - 1) (m.getD (m.length - 1) 0 - boX o m)) (t.set (m.length - 1) (t.getD (m.length - 1) 0 - boY o m t)) b ∧ _ at G
  rw [show bo1 o (m, t) = (m.set (m.length - 1) (m.getD (m.length - 1) 0 - boX o m), t.set (m.length - 1) (t.getD (m.length - 1) 0 - boY o m t)) from rfl] at G ⊢
  simp (disch := omega) only [qf3, nI, qgq, q0f, dT, Bool.and_true, Int.toNat_natCast, ed, qfk, ey, Bool.true_and, List.length_set, qa2, nth0, qzo, qhn, qg5, qoq, qg7, qt9, qgt, qgu, quz, qg8]
  generalize m.set (m.length - 1) (m.getD (m.length - 1) 0 - boX o m) = M at *
  generalize t.set (m.length - 1) (t.getD (m.length - 1) 0 - boY o m t) = T at *
  obtain ⟨G, g1, g2⟩ := G
  have Ml := G.ml; have Tl := G.tl; have Mf := G.at 0; have Ms := G.msum
  have eS := qf4 (k + 1) (by omega) false M (by omega) G.mmem
  by_cases h : isum M + a ≤ 10000000
  · rw [if_pos h]
    simp (disch := omega) only [eS, tnz, q0f, qa2, nth0, qzo, dT, qhn]
    rfl
  · rw [if_neg h]
    simp (disch := omega) only [eS, qa2, nth0, qzo, q0f, dF, qhl]
theorem qry (k : Nat) (hk : 2000000 ≤ k) (fu : List (Nat × Nat)) (a0 : Int) (a1z : Bool) (a1 : List Cell) (a2z : Bool) (a2 : List Int) (a3z : Bool) (a3 : List Int) (a4z : Bool) (a4 : List Int) (z1 z2 z3 z4 : Bool) (r : Int) (l : List Cell) (b : List Int) : ∀ (N n i : Nat) (s : S2), i + n = 16 → n < N → StF r l s.1 s.2 b →
    lp (k + 6) impl_State_macro [(.ptr true [(.int .i64 (a0)), (.arr true (a1z) (.r3 (a1))), (.arr true (a2z) (.ints .i64 (a2))), (.arr true (a3z) (.ints .i64 (a3))), (.arr true (a4z) (.ints .i64 (a4)))])] fu 1 (N) (qwc (i : Int) z1 l z2 s.1 z3 s.2 z4 b r) = some [.ptr true [.int .i64 (r), .arr true (z1) (.r3 (l)), .arr true (z2) (.ints .i64 ((qzk l b n i s).1)), .arr true (z3) (.ints .i64 ((qzk l b n i s).2)), .arr true (z4) (.ints .i64 (b))]]
  | 0, n, i, s, hi, hN, F => by omega
  | N + 1, 0, i, s, hi, hN, F => by
    rw [qpk]
    have : i = 16 := by omega
    subst this
    simp (disch := omega) only [dF, qgr, q0f, qhl]; rfl
  | N + 1, n + 1, i, s, hi, hN, F => by
    rw [qpk]
    have L := F.len
    have IH := qry k hk fu a0 a1z a1 a2z a2 a3z a3 a4z a4 z1 z2 z3 z4 r l b N n (i + 1) (tick l b i s) (by omega) (by omega) (qyu F i)
    have eA := qcg (k + 1) (by omega) r z1 l (i : Int) (by omega) (by omega)
    have eM := qc5 k (by omega) z1 z2 z3 z4 false r l s.1 s.2 b (i : Int) F
    unfold qzk
    simp only [tick] at IH
    simp (disch := omega) only [dT, eA, qgr, q0f, qa2, nth0, qt9, qoq, eM, qu5, quz, qu6, qu7, qu8, qu4, qzo, IH, qhn]
    rfl
theorem qc3 (k : Nat) (hk : 2000000 ≤ k) (z1 z2 z3 z4 : Bool) (r : Int) (l : List Cell) (m t b : List Int) (F : StF r l m t b) :
    go (k + 7) impl_State_macro [.ptr true [.int .i64 (r), .arr true (z1) (.r3 (l)), .arr true (z2) (.ints .i64 (m)), .arr true (z3) (.ints .i64 (t)), .arr true (z4) (.ints .i64 (b))]] = some [.ptr true [.int .i64 (r), .arr true (z1) (.r3 (l)), .arr true (z2) (.ints .i64 ((qzk l b 16 0 (m, t)).1)), .arr true (z3) (.ints .i64 ((qzk l b 16 0 (m, t)).2)), .arr true (z4) (.ints .i64 (b))]] := by
  rw [qjl]
  exact qry k hk [] r z1 l z2 m z3 t z4 b z1 z2 z3 z4 r l b (k + 6) 16 0 (m, t) rfl (by omega) F
theorem qbv (k : Nat) (x y : Ld) (h1 : 0 ≤ x.mi + y.mi ∧ x.mi + y.mi ≤ 1000000000000000000) (h2 : 0 ≤ x.mo + y.mo ∧ x.mo + y.mo ≤ 1000000000000000000) (h3 : 0 ≤ x.ti + y.ti ∧ x.ti + y.ti ≤ 1000000000000000000) (h4 : 0 ≤ x.ou + y.ou ∧ x.ou + y.ou ≤ 1000000000000000000) :
    go (k + 1) impl_LedgerAdd [ldD x, ldD y] = some [ldD (x.add y)] := by
  rw [qiq]
  simp (disch := omega) only [q0f]
  rfl
theorem qfd (k : Nat) (x y : Ld) (h1 : 0 ≤ x.mi + y.mi ∧ x.mi + y.mi ≤ 1000000000000000000) (h2 : 0 ≤ x.mo + y.mo ∧ x.mo + y.mo ≤ 1000000000000000000) (h3 : 0 ≤ x.ti + y.ti ∧ x.ti + y.ti ≤ 1000000000000000000) (h4 : 0 ≤ x.ou + y.ou ∧ x.ou + y.ou ≤ 1000000000000000000) :
    go (k + 1) spec_LedgerAdd [ldD x, ldD y] = some [ldD (x.add y)] := by
  rw [qmg]
  simp (disch := omega) only [q0f]
  rfl
end Go.Proofs.YtoldpdhhfmlckaaGreat
end
section
namespace Go.Proofs.YtoldpdhhfmlckaaGreat
open Go.Ev
set_option maxRecDepth 20000
abbrev plD (p : Pl) : D := .agg [.int .i64 p.bi, .int .i64 p.bs, .int .i64 p.bo, .int .i64 p.rain, .int .i64 p.loss, .int .i64 p.dec, .int .i64 p.high, .int .i64 p.low, .int .i64 p.every]
theorem qc9 (k : Nat) (hk : 2000000 ≤ k) (z1 z2 z3 z4 : Bool) (r : Int) (l : List Cell) (s : S2) (b : List Int) (a : Int) (ha : 0 ≤ a ∧ a ≤ 10000) (F : StF r l s.1 s.2 b) :
    go (k + 5) impl_State_rain [.ptr true [.int .i64 (r), .arr true (z1) (.r3 (l)), .arr true (z2) (.ints .i64 (s.1)), .arr true (z3) (.ints .i64 (s.2)), .arr true (z4) (.ints .i64 (b))], .int .i64 a] = some [ldD (raS a l s).2, .ptr true [.int .i64 (r), .arr true (z1) (.r3 (l)), .arr true (z2) (.ints .i64 ((raS a l s).1.1)), .arr true (z3) (.ints .i64 ((raS a l s).1.2)), .arr true (z4) (.ints .i64 (b))]] := by
  have z := qu3 a l s
  rw [qc8 k hk z1 z2 z3 z4 r l s.1 s.2 b a ha F, qu2]
  simp only [ldD, z.1, z.2.1, z.2.2]
theorem qgo (k : Nat) (hk : 2000000 ≤ k) (z1 z2 z3 z4 : Bool) (r : Int) (l : List Cell) (s : S2) (b : List Int) (a : Int) (ha : 0 ≤ a ∧ a ≤ 10000) (F : StF r l s.1 s.2 b) :
    go (k + 4) spec_l14Rain [.agg [.int .i64 (r), .arr false (z1) (.r3 (l)), .arr false (z2) (.ints .i64 (s.1)), .arr false (z3) (.ints .i64 (s.2)), .arr false (z4) (.ints .i64 (b))], .int .i64 a] = some [.agg [.int .i64 (r), .arr true (false) (.r3 (l)), .arr true (false) (.ints .i64 ((raS a l s).1.1)), .arr true (false) (.ints .i64 ((raS a l s).1.2)), .arr true (false) (.ints .i64 (b))], ldD (raS a l s).2] := by
  have z := qu3 a l s
  rw [qgn k hk z1 z2 z3 z4 r l s.1 s.2 b a ha F, qu2]
  simp only [ldD, z.1, z.2.1, z.2.2]
theorem qzm {a b : Int} (ha : 0 ≤ a) : Int.tmod a b = a % b := Int.tmod_eq_emod_of_nonneg ha
set_option maxHeartbeats 1000000 in
theorem qdc (k : Nat) (hk : 2000000 ≤ k) (r : Int) (s : S3) (b : List Int) (F : StF r s.1 s.2.1 s.2.2 b) (p : Pl) (P : PlF p) (c : Int) (hc : 0 ≤ c ∧ c ≤ 10000000) :
    go (k + 11) impl_State_runMacro [.ptr true [.int .i64 (r), .arr true (false) (.r3 (s.1)), .arr true (false) (.ints .i64 (s.2.1)), .arr true (false) (.ints .i64 (s.2.2)), .arr true (false) (.ints .i64 (b))], plD p, .int .i64 c] = some [ldD (mac p b c s).2, .ptr true [.int .i64 (r), .arr true (false) (.r3 ((mac p b c s).1.1)), .arr true (false) (.ints .i64 ((mac p b c s).1.2.1)), .arr true (false) (.ints .i64 ((mac p b c s).1.2.2)), .arr true (false) (.ints .i64 (b))]] := by
  rw [qjs]
  obtain ⟨l, s⟩ := s
  change StF r l s.1 s.2 b at F
  have h1 := qa4 F P.bi P.bs P.bo
  have e1 := qcj (k + 6) (by omega) false false false false r l s.1 s.2 b F p.bi p.bs p.bo P.bi P.bs P.bo
  obtain ⟨s1, q1⟩ : ∃ x, x = boS p.bi p.bs p.bo s := ⟨_, rfl⟩
  change StF r l (boS p.bi p.bs p.bo s).1.1 (boS p.bi p.bs p.bo s).1.2 b ∧ Led s (boS p.bi p.bs p.bo s).1 (boS p.bi p.bs p.bo s).2 at h1
  change _ = some [ldD (boS p.bi p.bs p.bo s).2, .ptr true [.int .i64 (r), .arr true (false) (.r3 (l)), .arr true (false) (.ints .i64 ((boS p.bi p.bs p.bo s).1.1)), .arr true (false) (.ints .i64 ((boS p.bi p.bs p.bo s).1.2)), .arr true (false) (.ints .i64 (b))]] at e1
  rw [← q1] at h1 e1
  have h2 := qu1 h1.1 P.rain
  have e2 := qc9 (k + 5) (by omega) false false false false r l s1.1 b p.rain P.rain h1.1
  obtain ⟨s2, q2⟩ : ∃ x, x = raS p.rain l s1.1 := ⟨_, rfl⟩
  change StF r l (raS p.rain l s1.1).1.1 (raS p.rain l s1.1).1.2 b ∧ Led s1.1 (raS p.rain l s1.1).1 (raS p.rain l s1.1).2 at h2
  rw [← q2] at h2 e2
  have h3 := qyb h2.1 P.loss
  have e3 := qdf (k + 5) (by omega) false false false false r l s2.1.1 s2.1.2 b p.loss P.loss h2.1
  obtain ⟨s3, q3⟩ : ∃ x, x = soS p.loss l s2.1 := ⟨_, rfl⟩
  change StF r l (soS p.loss l s2.1).1.1 (soS p.loss l s2.1).1.2 b ∧ Led s2.1 (soS p.loss l s2.1).1 (soS p.loss l s2.1).2 at h3
  change _ = some [ldD (soS p.loss l s2.1).2, .ptr true [.int .i64 (r), .arr true (false) (.r3 (l)), .arr true (false) (.ints .i64 ((soS p.loss l s2.1).1.1)), .arr true (false) (.ints .i64 ((soS p.loss l s2.1).1.2)), .arr true (false) (.ints .i64 (b))]] at e3
  rw [← q3] at h3 e3
  have h4 := qhw h3.1 P.dec
  have e4 := qcp (k + 9) (by omega) false false false false r l s3.1.1 s3.1.2 b p.dec P.dec h3.1
  obtain ⟨s4, q4⟩ : ∃ x, x = deS p.dec l s3.1 := ⟨_, rfl⟩
  change StF r l (deS p.dec l s3.1).1.1 (deS p.dec l s3.1).1.2 b ∧ Led s3.1 (deS p.dec l s3.1).1 (deS p.dec l s3.1).2 at h4
  change _ = some [ldD (deS p.dec l s3.1).2, .ptr true [.int .i64 (r), .arr true (false) (.r3 (l)), .arr true (false) (.ints .i64 ((deS p.dec l s3.1).1.1)), .arr true (false) (.ints .i64 ((deS p.dec l s3.1).1.2)), .arr true (false) (.ints .i64 (b))]] at e4
  rw [← q4] at h4 e4
  have e5 := qc3 (k + 3) (by omega) false false false false r l s4.1.1 s4.1.2 b h4.1
  have F5 := (qzl 16 0 s4.1 h4.1).1
  have l1 := h1.2; have l2 := h2.2; have l3 := h3.2; have l4 := h4.2
  have a1 := l1.mi; have a2 := l2.mi; have a3 := l3.mi; have a4 := l4.mi
  have b1 := l1.mo; have b2 := l2.mo; have b3 := l3.mo; have b4 := l4.mo
  have c1 := l1.ti; have c2 := l2.ti; have c3 := l3.ti; have c4 := l4.ti
  have d1 := l1.ou; have d2 := l2.ou; have d3 := l3.ou; have d4 := l4.ou
  have g1 := qbv (k + 9) s1.2 s2.2 (by omega) (by omega) (by omega) (by omega)
  have g2 := qbv (k + 9) (s1.2.add s2.2) s3.2 (by simp only [Ld.add]; omega) (by simp only [Ld.add]; omega) (by simp only [Ld.add]; omega) (by simp only [Ld.add]; omega)
  have g3 := qbv (k + 9) ((s1.2.add s2.2).add s3.2) s4.2 (by simp only [Ld.add]; omega) (by simp only [Ld.add]; omega) (by simp only [Ld.add]; omega) (by simp only [Ld.add]; omega)
  have eq : mac p b c (l, s) = (if 0 < p.every ∧ (c + 1) % p.every = 0 then ada p.high p.low b (l, qzk l b 16 0 s4.1) else (l, qzk l b 16 0 s4.1), ((s1.2.add s2.2).add s3.2).add s4.2) := by
    subst q4; subst q3; subst q2; subst q1; rfl
  have eA := qch k (by omega) r l (qzk l b 16 0 s4.1).1 (qzk l b 16 0 s4.1).2 b F5 p.high p.low
  have tm : Int.tmod (c + 1) p.every = (c + 1) % p.every := qzm (by omega)
  rw [eq]
  simp (disch := omega) only [e1, q0f, tm, qa2, nth1, qu4, qzo, qu5, qt9, quz, qu6, qoq, qu7, qu8, e2, nth0, qgt, qgu, qg5, qg7, g1, e3, e4, e5, g2, g3]
  by_cases w : 0 < p.every
  · by_cases w2 : (c + 1) % p.every = 0
    · rw [if_pos ⟨w, w2⟩]
      simp (disch := omega) only [dT, dF, Bool.not_false, w2, dTT, eA, qa2, nth0, qu4, qzo, qu5, qt9, quz, qu6, qoq, qu7, qu8, qhn]
      rfl
    · rw [if_neg (fun h => w2 h.2)]
      simp (disch := omega) only [dT, dF, Bool.not_false, qhl, qhn]
  · rw [if_neg (fun h => w h.1)]
    simp (disch := omega) only [dF, qhl]
set_option maxHeartbeats 1000000 in
theorem qst (k : Nat) (hk : 2000000 ≤ k) (fu : List (Nat × Nat)) (r : Int) (l : List Cell) (b : List Int) (p : Pl) (P : PlF p) (c : Int) (hc : 0 ≤ c ∧ c ≤ 10000000) (L : Ld) (y1 y2 y3 y4 : Bool) (q1 : List Cell) (q2 q3 q4 : List Int) (p0 p1 p2 p3 p4 : Int) : ∀ (N n i : Nat) (s : S2), i + n = 16 → n < N → StF r l s.1 s.2 b →
    lp (k + 7) spec_l18Macro [] fu 8 (N) (qxs c (i : Int) p.bi p.bs p.bo p.rain p.loss p.dec p.high p.low p.every y1 q1 y2 q2 y3 q3 y4 q4 p0 p1 p2 p3 p4 false l false s.1 false s.2 false b r L.mi L.mo L.ti L.ou) =
      some [.agg [.int .i64 (r), .arr true (false) (.r3 ((if 0 < p.every ∧ (c + 1) % p.every = 0 then ada p.high p.low b (l, qzk l b n i s) else (l, qzk l b n i s)).1)), .arr true (false) (.ints .i64 ((if 0 < p.every ∧ (c + 1) % p.every = 0 then ada p.high p.low b (l, qzk l b n i s) else (l, qzk l b n i s)).2.1)), .arr true (false) (.ints .i64 ((if 0 < p.every ∧ (c + 1) % p.every = 0 then ada p.high p.low b (l, qzk l b n i s) else (l, qzk l b n i s)).2.2)), .arr true (false) (.ints .i64 (b))], ldD L]
  | 0, n, i, s, hi, hN, F => by omega
  | N + 1, 0, i, s, hi, hN, F => by
    rw [qq0]
    have : i = 16 := by omega
    subst this
    have LL := F.len
    have tm : Int.tmod (c + 1) p.every = (c + 1) % p.every := qzm (by omega)
    have eA := qgf k (by omega) r l s.1 s.2 b F p.high p.low
    rw [show qzk l b 0 16 s = s from rfl]
    simp (disch := omega) only [dF, qgr, q0f, tm, qhl]
    by_cases w : 0 < p.every
    · by_cases w2 : (c + 1) % p.every = 0
      · rw [if_pos ⟨w, w2⟩]
        simp (disch := omega) only [dT, dF, Bool.not_false, w2, dTT, eA, qa2, nth0, qgt, qzo, qgu, qt9, quz, qg5, qoq, qg7, qg8, qhn]
        rfl
      · rw [if_neg (fun h => w2 h.2)]
        simp (disch := omega) only [dT, dF, Bool.not_false, qhl, qhn]
    · rw [if_neg (fun h => w h.1)]
      simp (disch := omega) only [dF, qhl]
  | N + 1, n + 1, i, s, hi, hN, F => by
    rw [qq0]
    have LL := F.len
    have IH := qst k hk fu r l b p P c hc L y1 y2 y3 y4 q1 q2 q3 q4 p0 p1 p2 p3 p4 N n (i + 1) (tick l b i s) (by omega) (by omega) (qyu F i)
    have eS := qgb (k + 2) (by omega) r false false false false l s.1 s.2 b F (i : Int)
    rw [show qzk l b (n + 1) i s = qzk l b n (i + 1) (tick l b i s) from rfl]
    simp only [tick] at IH ⊢
    simp (disch := omega) only [dT, eS, qgr, q0f, qa2, nth0, qgu, qt9, quz, qg5, qoq, qg7, qg8, qgt, qzo, IH, qhn]
set_option maxHeartbeats 1000000 in
theorem qgg (k : Nat) (hk : 2000000 ≤ k) (r : Int) (s : S3) (b : List Int) (F : StF r s.1 s.2.1 s.2.2 b) (p : Pl) (P : PlF p) (c : Int) (hc : 0 ≤ c ∧ c ≤ 10000000) :
    go (k + 8) spec_l18Macro [.agg [.int .i64 (r), .arr false (false) (.r3 (s.1)), .arr false (false) (.ints .i64 (s.2.1)), .arr false (false) (.ints .i64 (s.2.2)), .arr false (false) (.ints .i64 (b))], plD p, .int .i64 c] = some [.agg [.int .i64 (r), .arr true (false) (.r3 ((mac p b c s).1.1)), .arr true (false) (.ints .i64 ((mac p b c s).1.2.1)), .arr true (false) (.ints .i64 ((mac p b c s).1.2.2)), .arr true (false) (.ints .i64 (b))], ldD (mac p b c s).2] := by
  rw [qnm]
  obtain ⟨l, s⟩ := s
  change StF r l s.1 s.2 b at F
  have h1 := qa4 F P.bi P.bs P.bo
  have e1 := qfs (k + 4) (by omega) false false false false r l s.1 s.2 b F p.bi p.bs p.bo P.bi P.bs P.bo
  obtain ⟨s1, q1⟩ : ∃ x, x = boS p.bi p.bs p.bo s := ⟨_, rfl⟩
  change StF r l (boS p.bi p.bs p.bo s).1.1 (boS p.bi p.bs p.bo s).1.2 b ∧ Led s (boS p.bi p.bs p.bo s).1 (boS p.bi p.bs p.bo s).2 at h1
  change _ = some [.agg [.int .i64 (r), .arr true (false) (.r3 (l)), .arr true (false) (.ints .i64 ((boS p.bi p.bs p.bo s).1.1)), .arr true (false) (.ints .i64 ((boS p.bi p.bs p.bo s).1.2)), .arr true (false) (.ints .i64 (b))], ldD (boS p.bi p.bs p.bo s).2] at e1
  rw [← q1] at h1 e1
  have h2 := qu1 h1.1 P.rain
  have e2 := qgo (k + 3) (by omega) false false false false r l s1.1 b p.rain P.rain h1.1
  obtain ⟨s2, q2⟩ : ∃ x, x = raS p.rain l s1.1 := ⟨_, rfl⟩
  change StF r l (raS p.rain l s1.1).1.1 (raS p.rain l s1.1).1.2 b ∧ Led s1.1 (raS p.rain l s1.1).1 (raS p.rain l s1.1).2 at h2
  rw [← q2] at h2 e2
  have h3 := qyb h2.1 P.loss
  have e3 := qgp (k + 3) (by omega) false false false false r l s2.1.1 s2.1.2 b p.loss P.loss h2.1
  obtain ⟨s3, q3⟩ : ∃ x, x = soS p.loss l s2.1 := ⟨_, rfl⟩
  change StF r l (soS p.loss l s2.1).1.1 (soS p.loss l s2.1).1.2 b ∧ Led s2.1 (soS p.loss l s2.1).1 (soS p.loss l s2.1).2 at h3
  change _ = some [.agg [.int .i64 (r), .arr true (false) (.r3 (l)), .arr true (false) (.ints .i64 ((soS p.loss l s2.1).1.1)), .arr true (false) (.ints .i64 ((soS p.loss l s2.1).1.2)), .arr true (false) (.ints .i64 (b))], ldD (soS p.loss l s2.1).2] at e3
  rw [← q3] at h3 e3
  have h4 := qhw h3.1 P.dec
  have e4 := qft (k + 4) (by omega) false false false false r l s3.1.1 s3.1.2 b p.dec P.dec h3.1
  obtain ⟨s4, q4⟩ : ∃ x, x = deS p.dec l s3.1 := ⟨_, rfl⟩
  change StF r l (deS p.dec l s3.1).1.1 (deS p.dec l s3.1).1.2 b ∧ Led s3.1 (deS p.dec l s3.1).1 (deS p.dec l s3.1).2 at h4
  change _ = some [.agg [.int .i64 (r), .arr true (false) (.r3 (l)), .arr true (false) (.ints .i64 ((deS p.dec l s3.1).1.1)), .arr true (false) (.ints .i64 ((deS p.dec l s3.1).1.2)), .arr true (false) (.ints .i64 (b))], ldD (deS p.dec l s3.1).2] at e4
  rw [← q4] at h4 e4
  have l1 := h1.2; have l2 := h2.2; have l3 := h3.2; have l4 := h4.2
  have a1 := l1.mi; have a2 := l2.mi; have a3 := l3.mi; have a4 := l4.mi
  have b1 := l1.mo; have b2 := l2.mo; have b3 := l3.mo; have b4 := l4.mo
  have c1 := l1.ti; have c2 := l2.ti; have c3 := l3.ti; have c4 := l4.ti
  have d1 := l1.ou; have d2 := l2.ou; have d3 := l3.ou; have d4 := l4.ou
  have g1 := qfd (k + 6) s1.2 s2.2 (by omega) (by omega) (by omega) (by omega)
  have g2 := qfd (k + 6) s3.2 s4.2 (by omega) (by omega) (by omega) (by omega)
  have g3 := qfd (k + 6) (s1.2.add s2.2) (s3.2.add s4.2) (by simp only [Ld.add]; omega) (by simp only [Ld.add]; omega) (by simp only [Ld.add]; omega) (by simp only [Ld.add]; omega)
  have ll : (s1.2.add s2.2).add (s3.2.add s4.2) = ((s1.2.add s2.2).add s3.2).add s4.2 := by simp only [Ld.add, Int.add_assoc]
  have eq : mac p b c (l, s) = (if 0 < p.every ∧ (c + 1) % p.every = 0 then ada p.high p.low b (l, qzk l b 16 0 s4.1) else (l, qzk l b 16 0 s4.1), (s1.2.add s2.2).add (s3.2.add s4.2)) := by
    rw [ll]; subst q4; subst q3; subst q2; subst q1; rfl
  have eM := qst k hk [] r l b p P c hc ((s1.2.add s2.2).add (s3.2.add s4.2)) true true true true [] [] [] [] 0 0 0 0 0 (k + 7) 16 0 s4.1 rfl (by omega) h4.1
  rw [show ((0 : Nat) : Int) = 0 from rfl] at eM
  rw [eq]
  simp (disch := omega) only [e1, qa2, nth0, qgt, qzo, qgu, qt9, quz, qg5, qoq, qg7, qg8, e2, nth1, e3, g1, e4, g2, g3]
  exact eM
end Go.Proofs.YtoldpdhhfmlckaaGreat
end
