/- What the program's functions compute, and plain facts of it (part 3). No condition beyond those that each theorem states. -/
import Derived.Test.YtoldpdhhfmlckaaGreatQB2
set_option linter.unusedVariables false
set_option linter.unusedSimpArgs false
section
namespace Go.Proofs.YtoldpdhhfmlckaaGreat
open Go.Ev
set_option maxRecDepth 20000
def wts (l : List Cell) : List Int := l.map fun x => pow2 x.2.1
theorem qph (l : List Cell) : (wts l).length = l.length := List.length_map ..
theorem qpi {l : List Cell} {i : Nat} (h : i < l.length) : wts (l.take i) ++ [pow2 (qjk l i)] = wts (l.take (i + 1)) := by
  have e : qjk l i = (l[i]).2.1 := by unfold qjk; simp [List.getD_eq_getElem?_getD, h]
  rw [List.take_succ_eq_append_getElem h, e]
  unfold wts
  rw [List.map_append]
  rfl
structure Wt (w : List Int) : Prop where
  l1 : 1 ≤ w.length
  le : w.length ≤ 128
  b : ∀ x ∈ w, 0 ≤ x ∧ x ≤ 16
theorem Wt.at {w : List Int} (H : Wt w) (i : Nat) : 0 ≤ w.getD i 0 ∧ w.getD i 0 ≤ 16 := by
  by_cases h : i < w.length
  · exact H.b _ (qho h 0)
  · rw [qhn (by omega)]; omega
theorem qpg {r : Int} {l : List Cell} (h : qla r 0 l = true) : Wt (wts l) := by
  have L := qlf h
  refine ⟨by rw [qph]; exact L.1, by rw [qph]; exact L.2, fun x hx => ?_⟩
  simp only [wts, List.mem_map] at hx
  obtain ⟨y, hy, rfl⟩ := hx
  obtain ⟨j, hj, rfl⟩ := List.getElem_of_mem hy
  have p := qlv (qhx.2 (qlh h j))
  have e : qjk l j = (l[j]).2.1 := by unfold qjk; simp [List.getD_eq_getElem?_getD, hj]
  rw [e] at p
  omega
theorem qkm (k : Nat) (hk : 2000000 ≤ k) (fu : List (Nat × Nat)) (z : Bool) (r : Int) (l : List Cell) (h : qla r 0 l = true) : ∀ (N i : Nat), i ≤ l.length → l.length - i < N →
    lp (k + 5) spec_WeightsOf [] fu 3 (N) (qnb (i : Int) z l r false (wts (l.take i))) = some [.arr true false (.ints .i64 (wts l))]
  | 0, i, hi, hN => by omega
  | N + 1, i, hi, hN => by
    rw [qi5]
    have L := qlf h
    have lt : (wts (l.take i)).length = i := by rw [qph, List.length_take]; omega
    by_cases g : i < l.length
    · have IH := qkm k hk fu z r l h N (i + 1) (by omega) (by omega)
      have lv := qlh h i
      have ew : IntKind.wrap .u64 (l.getD i zz3).2.1 = qjk l i := qpe (by show 0 ≤ qjk l i; omega) (by show qjk l i ≤ _; omega)
      have ep : IntKind.wrap .i64 ((1 : Int) * (2 : Int) ^ shiftN .i64 (qjk l i)) = pow2 (qjk l i) := pw (qhx.2 (qlh h i))
      have la : ∀ x : Int, (wts (l.take i) ++ [x]).length = i + 1 := fun x => by rw [List.length_append, lt]; rfl
      have nx := qpi g
      have lt' : (wts (l.take (i + 1))).length = i + 1 := by rw [qph, List.length_take]; omega
      simp (disch := omega) only [nI, dT, qcd, h, bit, Bool.and_true, Int.toNat_natCast, ew, ep, nx, lt', big0, qdg, qpd, dF, Bool.and_false, IH, qdv, qan, nth0, qor]
    · have : i = l.length := by omega
      subst this
      rw [List.take_length]
      simp (disch := omega) only [nI, dF, bit, dT, Bool.and_false, Int.toNat_natCast, big0, qdg, qpd, Bool.false_and, qdt]
theorem qcj (k : Nat) (hk : 2000000 ≤ k) (z : Bool) (r : Int) (l : List Cell) (h : qla r 0 l = true) : go (k + 6) spec_WeightsOf [.agg [.int .i64 r, .arr false z (.r3 l)]] = some [.arr true false (.ints .i64 (wts l))] := by
  rw [qgb]
  exact qkm k hk [] z r l h (k + 5) 0 (by omega) (by have := qlf h; omega)
theorem qkv (k : Nat) (hk : 2000000 ≤ k) (fu : List (Nat × Nat)) (z : Bool) (w : List Int) (H : Wt w) : ∀ (N i : Nat), i ≤ w.length → w.length - i < N → lp (k + 1) spec_l22Weights [] fu 2 (N) (qnp (i : Int) z w) = some [.bool true]
  | 0, i, hi, hN => by omega
  | N + 1, i, hi, hN => by
    rw [qjj]
    have le := H.le
    by_cases g : i < w.length
    · have IH := qkv k hk fu z w H N (i + 1) (by omega) (by omega)
      have a := H.at i
      have gi : inR (w.getD i 0) 0 1000000 = true := qhx.2 (by omega)
      simp (disch := omega) only [nI, dT, Bool.and_true, Int.toNat_natCast, qco, gi, bit, qdg, qpd, IH, qan, nth0, qor, Bool.not_true, qdt, qdv]
    · simp (disch := omega) only [nI, dF, dT, Bool.and_false, Int.toNat_natCast, bit, qdg, qpd, qdt]
theorem qdd (k : Nat) (hk : 2000000 ≤ k) (z : Bool) (w : List Int) (H : Wt w) : go (k + 2) spec_l22Weights [.arr false z (.ints .i64 w)] = some [.bool true] := by
  rw [qg6]
  exact qkv k hk [] z w H (k + 1) 0 (by omega) (by have := H.le; omega)
def topV (w : List Int) : Int := maxV w w.length 0 0
theorem qku (k : Nat) (hk : 2000000 ≤ k) (fu : List (Nat × Nat)) (z : Bool) (w : List Int) (H : Wt w) : ∀ (N i : Nat) (a : Int), i ≤ w.length → w.length - i < N → lp k spec_l22Top [] fu 3 (N) (qno a (i : Int) z w) = some [.int .i64 (maxV w (w.length - i) i a)]
  | 0, i, a, hi, hN => by omega
  | N + 1, i, a, hi, hN => by
    rw [qji]
    have le := H.le
    by_cases g : i < w.length
    · have IH := qku k hk fu z w H N (i + 1) (max (w.getD i 0) a) (by omega) (by omega)
      rw [show w.length - i = (w.length - (i + 1)) + 1 by omega, maxV]
      simp (disch := omega) only [nI, dT, Bool.and_true, Int.toNat_natCast, imax, qdg, qpd, IH, qdv]
    · simp (disch := omega) only [nI, dF, dT, Bool.and_false, Int.toNat_natCast, imax, qdg, qpd, qdt]
      rw [show w.length - i = 0 by omega]; rfl
theorem qdc (k : Nat) (hk : 2000000 ≤ k) (z : Bool) (w : List Int) (H : Wt w) : go (k + 1) spec_l22Top [.arr false z (.ints .i64 w)] = some [.int .i64 (topV w)] := by
  rw [qg5]
  exact qku k hk [] z w H (k + 0) 0 0 (by omega) (by have := H.le; omega)
theorem qkt (k : Nat) (hk : 2000000 ≤ k) (fu : List (Nat × Nat)) (z : Bool) (w : List Int) (H : Wt w) (most : Int) : ∀ (N i : Nat) (n : Int) (acc : List Int), i ≤ w.length → w.length - i < N → 0 ≤ n → n ≤ 16 * i → acc.length ≤ i + 1 →
    lp k spec_l22Cut [] fu 4 (N) (qnn most n (i : Int) z w false acc) = some [.arr true false (.ints .i64 (acc ++ (qd2 most (w.drop i) i n ++ [(w.length : Int)])))]
  | 0, i, n, acc, hi, hN, h0, h1, ha => by omega
  | N + 1, i, n, acc, hi, hN, h0, h1, ha => by
    rw [qjh]
    have le := H.le
    have la : ∀ x : Int, (acc ++ [x]).length = acc.length + 1 := fun x => by rw [List.length_append]; rfl
    by_cases g : i < w.length
    · have a := H.at i
      rw [qeb g 0, qd2]
      by_cases g2 : most < n + w.getD i 0
      · have IH := qkt k hk fu z w H most N (i + 1) (0 + w.getD i 0) (acc ++ [(i : Int)]) (by omega) (by omega) (by omega) (by omega) (by rw [la]; omega)
        rw [if_pos g2]
        rw [List.append_assoc] at IH
        rw [Int.zero_add] at IH ⊢
        simp (disch := omega) only [nI, dT, Bool.and_true, Int.toNat_natCast, qpd, la, big0, qdg, dF, Bool.and_false, IH, qdv, Int.zero_add]
        all_goals rfl
      · have IH := qkt k hk fu z w H most N (i + 1) (n + w.getD i 0) acc (by omega) (by omega) (by omega) (by omega) (by omega)
        rw [if_neg g2]
        simp (disch := omega) only [nI, dT, Bool.and_true, Int.toNat_natCast, qpd, dF, big0, qdg, Bool.false_and, qdv, IH, qdt]
    · rw [List.drop_of_length_le (by omega), qd2]
      simp (disch := omega) only [nI, dF, dT, Bool.and_false, Int.toNat_natCast, la, big0, qdg, qpd, qdt, qdv, qlm]
      all_goals rfl
theorem qdb (k : Nat) (hk : 2000000 ≤ k) (z : Bool) (w : List Int) (H : Wt w) (most : Int) : go (k + 1) spec_l22Cut [.arr false z (.ints .i64 w), .int .i64 most] = some [.arr true false (.ints .i64 (qd7 w most 0))] := by
  rw [qg4]
  exact qkt k hk [] z w H most (k + 0) 0 0 [0] (by omega) (by have := H.le; omega) (by omega) (by omega) (by simp)
def nPar (w : List Int) (most : Int) : Int := ((qd2 most w 0 0).length : Int) + 1
theorem qd8 (w : List Int) (most : Int) (p : Nat) : ((qd7 w most p).length : Int) = nPar w most + p + 1 := by
  unfold qd7 nPar
  simp only [List.length_cons, List.length_append, List.length_replicate]
  omega
theorem qll {w : List Int} (H : Wt w) (most : Int) : 1 ≤ nPar w most ∧ nPar w most ≤ 129 := by
  have := (qd3 most w 0 0).2.2
  have := H.le
  unfold nPar; omega
theorem qb8 (k : Nat) (hk : 2000000 ≤ k) (z : Bool) (w : List Int) (H : Wt w) (most : Int) (hm : topV w ≤ most) : go (k + 3) spec_FewestParts [.arr false z (.ints .i64 w), .int .i64 most] = some [.int .i64 (nPar w most)] := by
  rw [qfy]
  have e1 := qdd k (by omega) z w H
  have e2 := qdc (k + 1) (by omega) z w H
  have e3 := qdb (k + 1) (by omega) z w H most
  have le := H.le; have l1 := H.l1
  have cl := qd8 w most 0; have nl := qll H most
  have en : ((qd7 w most 0).length : Int) - 1 = nPar w most := by omega
  simp (disch := omega) only [e1, bit, nI, dF, e2, e3, qan, nth0, qhy, en, qpd, qos, qdt, qor, Bool.not_true]
theorem qkg (k : Nat) (hk : 2000000 ≤ k) (fu : List (Nat × Nat)) (z z' : Bool) (w : List Int) (H : Wt w) (c : List Int) (C : CutF w.length c) : ∀ (N j : Nat) (a : Int), j + 1 ≤ c.length → c.length - j < N → 
    ∃ v : Int, lp (k + 2) spec_MaxPart [] fu 5 (N) (qm5 a (j : Int) z w z' c) = some [.int .i64 v]
  | 0, j, a, hj, hN => by omega
  | N + 1, j, a, hj, hN => by
    have e := qiz (k + 2) N fu a (j : Int) z w z' c
    have le := H.le; have c17 := C.l17
    by_cases g : j + 1 < c.length
    · have r0 := C.rng j (by omega); have r1 := C.rng (j + 1) g; have mo := C.mono j g
      have eS := fun (s : List Int) (hs : s.length ≤ 128) (hb : ∀ x ∈ s, 0 ≤ x ∧ x ≤ 16) => qc3 (k + 1) (by omega) z s (by omega) (fun x hx => by have := hb x hx; omega)
      have e1 := eS (List.take ((c.getD (j + 1) 0).toNat - (c.getD j 0).toNat) (List.drop (0 + (c.getD j 0).toNat) w)) (by rw [List.length_take, List.length_drop]; omega) (fun x hx => H.b x (List.mem_of_mem_drop (List.mem_of_mem_take hx)))
      obtain ⟨v, IH⟩ := qkg k hk fu z z' w H c C N (j + 1) (max (isum (List.take ((c.getD (j + 1) 0).toNat - (c.getD j 0).toNat) (List.drop (0 + (c.getD j 0).toNat) w))) a) (by omega) (by omega)
      simp (disch := omega) only [qdg, qpd, nI, dT, Bool.and_true, Int.toNat_natCast, e1, imax, qan, nth0, qos, IH, qdv] at e
      exact ⟨v, e⟩
    · simp (disch := omega) only [qdg, qpd, nI, dF, dT, Bool.and_true, Bool.and_false, Int.toNat_natCast, imax, qdt, qdv] at e
      exact ⟨_, e⟩
theorem qcc (k : Nat) (hk : 2000000 ≤ k) (z z' : Bool) (w : List Int) (H : Wt w) (c : List Int) (hc : qd6 w.length c = true) (hl : c.length ≤ 17) : ∃ v : Int, go (k + 3) spec_MaxPart [.arr false z (.ints .i64 w), .arr false z' (.ints .i64 c)] = some [.int .i64 v] := by
  have e := qf3 (k + 2) z w z' c
  have e1 := qdd k (by omega) z w H
  have C := cutF hc
  have c2 := C.l2; have le := H.le
  obtain ⟨v, e2⟩ := qkg k hk [] z z' w H c C (k + 2) 0 0 (by omega) (by omega)
  rw [show ((0 : Nat) : Int) = 0 from rfl] at e2
  simp (disch := omega) only [nI, qb5, hc, bit, e1, e2, qan, nth0, qor, Bool.not_true, qdt] at e
  exact ⟨v, e⟩
theorem qd9 (w : List Int) (most : Int) (p : Nat) : qd7 w most p ++ [(w.length : Int)] = qd7 w most (p + 1) := by
  unfold qd7
  rw [List.replicate_succ' (n := p + 1), List.cons_append, List.append_assoc]
theorem qki (k : Nat) (hk : 2000000 ≤ k) (fu : List (Nat × Nat)) (z : Bool) (w : List Int) (H : Wt w) (W most : Int) (hW : 1 ≤ W ∧ W ≤ 16) (hn : nPar w most ≤ W) : ∀ (N p : Nat), nPar w most + p ≤ W → (W - (nPar w most + p)).toNat < N →
    ∃ (c : List Int) (v : Int), lp (k + 3) spec_PartitionOf [] fu 11 (N) (qm7 W z w false (qd7 w most p)) = some [.arr true false (.ints .i64 c), .int .i64 v] ∧ qd6 w.length c = true
  | 0, p, hp, hN => by omega
  | N + 1, p, hp, hN => by
    have e := qi1 (k + 3) N fu W z w false (qd7 w most p)
    have cl := qd8 w most p; have nl := qll H most
    have cl' := qd8 w most (p + 1)
    by_cases g : ((qd7 w most p).length : Int) < W + 1
    · obtain ⟨c, v, IH, ok⟩ := qki k hk fu z w H W most hW hn N (p + 1) (by omega) (by omega)
      have nx := qd9 w most p
      simp (disch := omega) only [nI, qpd, dT, nx, big0, dF, Bool.and_false, IH, qdv] at e
      exact ⟨c, v, e, ok⟩
    · have ok := qea w most p (by omega)
      obtain ⟨v, eM⟩ := qcc k (by omega) z false w H (qd7 w most p) ok (by omega)
      simp (disch := omega) only [nI, qpd, dF, big0, Bool.false_and, eM, qan, nth0, qos, qdt] at e
      exact ⟨_, v, e, ok⟩
theorem qkj (k : Nat) (hk : 2000000 ≤ k) (fu : List (Nat × Nat)) (z : Bool) (w : List Int) (H : Wt w) (W : Int) (hW : 1 ≤ W ∧ W ≤ 16) (ht : 0 ≤ topV w) : ∀ (N : Nat) (lo hi : Int), topV w ≤ lo → lo ≤ hi → hi ≤ 100000 → nPar w hi ≤ W → (hi - lo).toNat < N →
    ∃ (c : List Int) (v : Int), lp (k + 3) spec_PartitionOf [] fu 5 (N) (qm8 W lo hi z w) = some [.arr true false (.ints .i64 c), .int .i64 v] ∧ qd6 w.length c = true
  | 0, lo, hi, h1, h2, h3, h4, hN => by omega
  | N + 1, lo, hi, h1, h2, h3, h4, hN => by
    have e := qi2 (k + 3) N fu W lo hi z w
    by_cases g : lo < hi
    · have td : Int.tdiv (lo + hi) 2 = (lo + hi) / 2 := Int.tdiv_eq_ediv_of_nonneg (by omega)
      obtain ⟨m, hm⟩ : ∃ m, (lo + hi) / 2 = m := ⟨_, rfl⟩
      have mb : lo ≤ m ∧ m < hi := by omega
      have eF := qb8 k (by omega) z w H m (by omega)
      by_cases g2 : nPar w m ≤ W
      · obtain ⟨c, v, IH, ok⟩ := qkj k hk fu z w H W hW ht N lo m h1 (by omega) (by omega) g2 (by omega)
        simp (disch := omega) only [dT, qpd, td, hm, eF, IH, qan, nth0, qos, qdv] at e
        exact ⟨c, v, e, ok⟩
      · obtain ⟨c, v, IH, ok⟩ := qkj k hk fu z w H W hW ht N (m + 1) hi (by omega) (by omega) h3 h4 (by omega)
        simp (disch := omega) only [dT, qpd, td, hm, eF, IH, qan, nth0, qos, dF, qdt, qdv] at e
        exact ⟨c, v, e, ok⟩
    · have : lo = hi := by omega
      subst this
      have eC := qdb (k + 2) (by omega) z w H lo
      have nl := qll H lo
      obtain ⟨c, v, IH, ok⟩ := qki k hk fu z w H W lo hW h4 (k + 3) 0 (by omega) (by omega)
      simp (disch := omega) only [dF, qpd, eC, qan, nth0, qln, qhy, IH, qdt] at e
      exact ⟨c, v, e, ok⟩
theorem qk3 : ∀ (w : List Int), (∀ x ∈ w, 0 ≤ x ∧ x ≤ 16) → ∀ n i a, i + n = w.length → 0 ≤ a → a ≤ isum w → 0 ≤ maxV w n i a ∧ maxV w n i a ≤ isum w := by
  intro w hw n
  have nn : ∀ q, q < w.length → w.getD q 0 ≤ isum w := fun q hq => qhb w (fun x hx => (hw x hx).1) _ (qho hq 0)
  induction n with
  | zero => intro i a hi h0 h1; exact ⟨h0, h1⟩
  | succ n ih =>
    intro i a hi h0 h1
    have a1 := nn i (by omega)
    unfold maxV
    exact ih (i + 1) _ (by omega) (by omega) (by omega)
theorem qce (k : Nat) (hk : 2000000 ≤ k) (z : Bool) (w : List Int) (H : Wt w) (W : Int) (hW : 1 ≤ W ∧ W ≤ 16) :
    ∃ (c : List Int) (v : Int), go (k + 4) spec_PartitionOf [.arr false z (.ints .i64 w), .int .i64 W] = some [.arr true false (.ints .i64 c), .int .i64 v] ∧ qd6 w.length c = true := by
  have e := qf6 (k + 3) z w W
  have e1 := qdd (k + 1) (by omega) z w H
  have e2 := qdc (k + 2) (by omega) z w H
  have le := H.le; have l1 := H.l1
  have e3 := qc3 (k + 2) (by omega) z w (by omega) (fun x hx => by have := H.b x hx; omega)
  have nn := qh5 (fun x hx => (H.b x hx).1)
  have mx := qh4 w 16 (fun q hq => (H.at q).2)
  have tb := qk3 w H.b w.length 0 0 (by omega) (by omega) nn
  have tt : topV w = maxV w w.length 0 0 := rfl
  have np : nPar w (isum w) = 1 := by
    unfold nPar
    rw [qd4 (isum w) w 0 0 (fun x hx => (H.b x hx).1) (by omega)]
    rfl
  obtain ⟨c, v, e5, ok⟩ := qkj k hk [] z w H W hW tb.1 (k + 3) (topV w) (isum w) (by omega) tb.2 (by omega) (by omega) (by omega)
  have gi : inR W 1 16 = true := qhx.2 hW
  simp (disch := omega) only [qco, gi, bit, nI, dF, e1, e2, e3, qan, nth0, qos, e5, qor, Bool.not_true, qdt] at e
  exact ⟨c, v, e, ok⟩
end Go.Proofs.YtoldpdhhfmlckaaGreat
end
section
namespace Go.Proofs.YtoldpdhhfmlckaaGreat
open Go.Ev
set_option maxRecDepth 20000
theorem qbv (k : Nat) (hk : 2000000 ≤ k) (z : Bool) (l : List Int) : go (k + 1) laws_big [.arr false z (.ints .u8 l)] = some [.bool (decide (1048576 < (l.length : Int)))] := by
  rw [qfk]
theorem qb4 (k : Nat) (hk : 2000000 ≤ k) (z : Bool) (r : Int) (l : List Cell) (h : qla r 0 l = true) : go (k + 6) spec_CostOf [.agg [.int .i64 r, .arr false z (.r3 l)]] = some [.int .i64 (cost l)] := by
  rw [qfu]
  have L := qlf h
  have eC := qc8 (k + 3) (by omega) z r l h
  simp (disch := omega) only [qcd, h, bit, eC, qan, nth0, qos, qor, Bool.not_true, qdt]
theorem qb1 (k : Nat) (hk : 2000000 ≤ k) (r : Int) (l : List Cell) (m t b : List Int) (F : StF r l m t b) (hi lo : Int) :
    go (k + 8) spec_AdaptState [.agg [.int .i64 (r), .arr false (false) (.r3 (l)), .arr false (false) (.ints .i64 (m)), .arr false (false) (.ints .i64 (t)), .arr false (false) (.ints .i64 (b))], .int .i64 hi, .int .i64 lo] = some [.agg [.int .i64 (r), .arr true (false) (.r3 ((adS (tab l.length (wsh l m b hi lo)) (l, m, t)).1)), .arr true (false) (.ints .i64 ((adS (tab l.length (wsh l m b hi lo)) (l, m, t)).2.1)), .arr true (false) (.ints .i64 ((adS (tab l.length (wsh l m b hi lo)) (l, m, t)).2.2)), .arr true (false) (.ints .i64 (b))]] := by
  rw [qfr]
  have g := stF.2 F
  have L := F.len; have ml := F.ml; have tl := F.tl; have bl := F.bl; have rr := F.rr
  have eA := qda k (by omega) r l m t b F hi lo
  simp (disch := omega) only [qci, g, bit, eA, qan, nth0, qdi, qos, qdj, qln, qlz, qdk, qhy, qdl, qdm, qor, Bool.not_true, qdt]
theorem qh6 (s : List Int) (i : Nat) (h : i < s.length) : isum (s.take (i + 1)) = isum (s.take i) + s.getD i 0 := by
  have e : s.getD i 0 = s[i] := by simp [List.getD_eq_getElem?_getD, h]
  rw [List.take_succ_eq_append_getElem h, qhz, e]
  simp [isum]
theorem qh7 {s : List Int} (h : ∀ x ∈ s, 0 ≤ x ∧ x ≤ 2048) (i : Nat) : 0 ≤ isum (s.take i) ∧ isum (s.take i) ≤ 2048 * (s.take i).length := by
  have a := qh5 (m := s.take i) fun x hx => (h x (List.mem_of_mem_take hx)).1
  have b := qh4 (s.take i) 2048 fun q hq => (h _ (List.mem_of_mem_take (qho hq 0))).2
  exact ⟨a, b⟩
theorem qjv (k : Nat) (hk : 2000000 ≤ k) (fu : List (Nat × Nat)) (r : Int) (l : List Cell) (m t b : List Int) (F : StF r l m t b) (n h : Int) (c s : List Int) (hc : qd6 l.length c = true) (eW : qpa r l c = some s) (sl : s.length = c.length - 1) (sb : ∀ x ∈ s, 0 ≤ x ∧ x ≤ 2048) (sc : isum s = cost l) (c2 : 2 ≤ c.length ∧ c.length ≤ 17) (ef : 0 ≤ qg8 s ∧ qg8 s ≤ 1000)
    (hh : (0 ≤ h ∧ ((adS (tab l.length (wsh l m b h 0)) (l, m, t)).1.length : Int) ≤ n) ∨ (h = -1 ∧ n < (l.length : Int))) (z4 z6 z8 z10 z13 z15 : Bool) (q4 : z4 = false) (q6 : z6 = false) (q8 : z8 = false) (q10 : z10 = false) : ∀ (N i : Nat), i ≤ s.length → s.length - i < N →
    lp (k + 12) laws_FnBudgets [] fu 11 (N) (qmv n h (isum (s.take i)) (i : Int) z4 l z6 m z8 t z10 b r z13 c z15 s) = some [.bool true]
  | 0, i, hi, hN => by omega
  | N + 1, i, hi, hN => by
    rw [qip]
    subst q4; subst q6; subst q8; subst q10
    have cl := F.len; have ml := F.ml; have tl := F.tl; have bl := F.bl; have rr := F.rr
    have lt : (s.take i).length = i := by rw [List.length_take]; omega
    have sb' := qh7 sb i
    by_cases g : i < s.length
    · have IH := qjv k hk fu r l m t b F n h c s hc eW sl sb sc c2 ef hh false false false false z13 z15 rfl rfl rfl rfl N (i + 1) (by omega) (by omega)
      rw [qh6 s i g] at IH
      have a := sb _ (qho g 0)
      simp (disch := omega) only [nI, dT, Bool.and_true, Int.toNat_natCast, qpd, qdg, IH, qdv]
    · have hi' : i = s.length := by omega
      subst hi'
      rw [List.take_length, sc]
      have eE := qav (k + 4) (by omega) r false l z13 c (by omega) (by omega)
      rw [eW, show qg7 (some s) = qg8 s from rfl] at eE
      have eC := qb4 (k + 6) (by omega) false r l F.mesh
      rcases hh with ⟨h0, h1⟩ | ⟨h0, h1⟩
      · have eA := qb1 (k + 4) (by omega) r l m t b F h 0
        have S := ad_U F h 0
        have sm := S.ml
        simp (disch := omega) only [nI, dF, dT, Bool.and_false, Int.toNat_natCast, qdg, qpd, qdt, eE, eA, eC, qan, nth0, qos, dTT, qdv, qdk, qhy]
      · subst h0
        simp (disch := omega) only [nI, dF, dT, Bool.and_false, Int.toNat_natCast, qdg, qpd, qdt, eE, eC, qan, nth0, qos, dTT, qdv]
set_option maxHeartbeats 1000000 in
theorem law_FnBudgets (k : Nat) (hk : 2000000 ≤ k) (az : Bool) (a : List Int) : go (k + 13) laws_FnBudgets [(.arr false (az) (.ints IntKind.u8 (a)))] = some [.bool true] := by
  by_cases h : 1048576 < (a.length : Int)
  · rw [qfj]; simp (disch := omega) only [qbv, dT, bit, nI, Bool.true_and, qan, nth0, qor, qdv]
  have h : (a.length : Int) ≤ 1048576 := by omega
  obtain ⟨r, l, m, t, b, eD, F, hr⟩ := qb7 k (by omega) az a h
  obtain ⟨P, eP, hP, pP⟩ := qb6 (k + 9) (by omega) az a h
  have p0 := pP _ (qho (show 0 < P.length by omega) 0)
  have p1 := pP _ (qho (show 1 < P.length by omega) 0)
  have t0 : Int.tmod (P.getD 0 0) 60 = P.getD 0 0 % 60 := Int.tmod_eq_emod_of_nonneg p0.1
  have t1 : Int.tmod (P.getD 1 0) 5 = P.getD 1 0 % 5 := Int.tmod_eq_emod_of_nonneg p1.1
  obtain ⟨n, hn⟩ : ∃ n, 1 + P.getD 0 0 % 60 = n := ⟨_, rfl⟩
  obtain ⟨W, hW⟩ : ∃ W, 1 + P.getD 1 0 % 5 = W := ⟨_, rfl⟩
  have n0 : 1 ≤ n ∧ n ≤ 60 := by omega
  have W0 : 1 ≤ W ∧ W ≤ 16 := by omega
  have cl := F.len; have ml := F.ml; have tl := F.tl; have bl := F.bl; have rr := F.rr
  have eT := qa5 k (by omega) r l m t b 0 n (by omega) (by omega)
  have eG := qcj (k + 6) (by omega) false r l F.mesh
  obtain ⟨c, v, ePt, ok⟩ := qce (k + 8) (by omega) false (wts l) (qpg F.mesh) W W0
  rw [qph] at ok
  obtain ⟨s, eW, sl, sb, sc, c2, c17, ef⟩ := qpc F.mesh ok
  have eS := qa8 (k + 5) (by omega) r false l false c (by omega) (by omega)
  rw [eW, show (some s).isNone = false from rfl, show (some s).getD [] = s from rfl] at eS
  have hh : (0 ≤ tune r l m t b 0 n ∧ ((adS (tab l.length (wsh l m b (tune r l m t b 0 n) 0)) (l, m, t)).1.length : Int) ≤ n) ∨ (tune r l m t b 0 n = -1 ∧ n < (l.length : Int)) := by
    rcases qov F n with ⟨q, e, h0, h1, h2⟩ | h2
    · rw [e]; exact .inl ⟨h0, h2⟩
    · exact .inr h2
  obtain ⟨q, hq⟩ : ∃ q, tune r l m t b 0 n = q := ⟨_, rfl⟩
  rw [hq] at hh eT
  have e11 := qjv k hk [] r l m t b F n q c s ok eW sl sb sc ⟨c2, c17⟩ ef hh false false false false false false rfl rfl rfl rfl (k + 12) 0 (by omega) (by omega)
  rw [show ((0 : Nat) : Int) = 0 from rfl, List.take_zero, show isum ([] : List Int) = 0 from rfl] at e11
  have z0 : Int.toNat 0 = 0 := Int.toNat_zero
  have z1 : Int.toNat 1 = 1 := Eq.trans rfl rfl
  rw [qfj]
  simp (disch := omega) only [qbv, dF, bit, eD, eP, dT, nI, Bool.true_and, z0, z1, qan, nth0, qhy, t0, hn, qpd, t1, hW, qdv, qdi, qos, qdj, qln, qlz, qdk, qdl, qdm, eT, eG, ePt, eS, e11, qor, qdt]
end Go.Proofs.YtoldpdhhfmlckaaGreat
end
