/- What the program's functions compute, and plain facts of it (part 3). No condition beyond those that each theorem states. -/
import Derived.Test.YtcaapedadpnjoaaQF2
set_option linter.unusedVariables false
set_option linter.unusedSimpArgs false
section
namespace Go.Proofs.Ytcaapedadpnjoaa
open Go.Ev
structure StV (r : Int) (s : S3) (b : List Int) (M T : Int) : Prop where
  u : StU r s b
  m : isum s.2.1 = M
  t : isum s.2.2 = T
theorem rf_V {r : Int} {s : S3} {b : List Int} {M T : Int} (V : StV r s b M T) {i : Nat} (hi : i < s.1.length) (hl : qjk s.1 i < 4) : StV r (rfS s i) b M T := by
  have ml := V.u.ml; have tl := V.u.tl
  exact ⟨rf_U V.u hi hl, by show isum (rfM s.2.1 i) = M; rw [ql8 (by omega) (V.u.at i).1]; exact V.m, by show isum (rfT s.2.2 s.2.1 i) = T; rw [qma (by omega)]; exact V.t⟩
theorem cm_V {r : Int} {s : S3} {b : List Int} {M T : Int} (V : StV r s b M T) {i : Nat} (hi : i + 1 < s.1.length) (hs : sib (s.1.getD i zz3) (s.1.getD (i + 1) zz3) = true) : StV r (cmS s i) b M T := by
  have ml := V.u.ml; have tl := V.u.tl
  exact ⟨cm_U V.u hi hs, by show isum (cmM s.2.1 i) = M; rw [qek (by omega)]; exact V.m, by show isum (cmM s.2.2 i) = T; rw [qek (by omega)]; exact V.t⟩
theorem qjs {r : Int} {b : List Int} {M T : Int} : ∀ (n : Nat) (s : S3), StV r s b M T → 129 ≤ n + s.1.length → StV r (lvS n s) b M T
  | 0, s, V, hn => V
  | n + 1, s, V, hn => by
    unfold lvS
    by_cases g : unb s.1 < 0
    · rw [if_pos g]; exact V
    · rw [if_neg g]
      obtain ⟨j, e, h1, h2⟩ := qo6 (by omega : 0 ≤ unb s.1)
      have c := qem V.u.mesh h1 h2
      rw [e, Int.toNat_natCast]
      exact qjs n _ (rf_V V c.1 c.2) (by show 129 ≤ n + (qnv s.1 _).length; rw [qnw c.1]; omega)
theorem qnu {r : Int} {b : List Int} {M T : Int} (w : List Int) (l0 : List Cell) (hw : ∀ j, w.getD j 0 = 1 → qjk l0 j < 4) : ∀ (n : Nat) (s : S3), StV r s b M T → n ≤ s.1.length → (∀ j, j < n → s.1.getD j zz3 = l0.getD j zz3) → StV r (spS w n s) b M T
  | 0, s, V, hn, he => V
  | n + 1, s, V, hn, he => by
    unfold spS
    by_cases g : w.getD n 0 = 1
    · rw [if_pos g]
      have hl : qjk s.1 n < 4 := by have := hw n g; unfold qjk at *; rw [he n (by omega)]; exact this
      exact qnu w l0 hw n _ (rf_V V (by omega) hl) (by show n ≤ (qnv s.1 n).length; rw [qnw (by omega)]; omega) fun j hj => by
        show (qnv s.1 n).getD j zz3 = _
        rw [qnx (by omega) hj]; exact he j (by omega)
    · rw [if_neg g]
      exact qnu w l0 hw n s V (by omega) fun j hj => he j (by omega)
theorem qlb {r : Int} {b : List Int} {M T : Int} (P : Cell → Bool) : ∀ (n i : Nat) (s : S3), StV r s b M T → StV r (mgS P n i s) b M T
  | 0, i, s, V => V
  | n + 1, i, s, V => by
    unfold mgS
    by_cases g : i + 1 < s.1.length
    · rw [if_pos g]
      by_cases h : (P (s.1.getD i zz3) && (P (s.1.getD (i + 1) zz3) && mayC s.1 i)) = true
      · rw [if_pos h]
        simp only [Bool.and_eq_true, mayC] at h
        exact qlb P n (i + 1) _ (cm_V V g h.2.2.1)
      · rw [if_neg h]; exact qlb P n (i + 1) s V
    · rw [if_neg g]; exact V
def ada (hi lo : Int) (b : List Int) (s : S3) : S3 := adS (tab s.1.length (wsh s.1 s.2.1 b hi lo)) s
theorem qaj {r : Int} {s : S3} {b : List Int} (F : StF r s.1 s.2.1 s.2.2 b) (hi lo : Int) : StF r (ada hi lo b s).1 (ada hi lo b s).2.1 (ada hi lo b s).2.2 b ∧ isum (ada hi lo b s).2.1 = isum s.2.1 ∧ isum (ada hi lo b s).2.2 = isum s.2.2 := by
  have V := qnu (M := isum s.2.1) (T := isum s.2.2) (tab s.1.length (wsh s.1 s.2.1 b hi lo)) s.1 qpr s.1.length s ⟨F.toU, rfl, rfl⟩ (Nat.le_refl _) (fun j hj => rfl)
  have W := qjs 128 _ V (by have := V.u.len; omega)
  have X := qlb (Pw (tab s.1.length (wsh s.1 s.2.1 b hi lo)) s.1) 128 0 _ W
  exact ⟨ad_U F hi lo, X.m, X.t⟩
def flow (p : Pl) (l : List Cell) (b : List Int) (s : S2) : S2 × Ld :=
  let s1 := boS p.bi p.bs p.bo s
  let s2 := raS p.rain l s1.1
  let s3 := soS p.loss l s2.1
  let s4 := deS p.dec l s3.1
  (qox l b 16 0 s4.1, ((s1.2.add s2.2).add s3.2).add s4.2)
def mac (p : Pl) (b : List Int) (k : Int) (s : S3) : S3 × Ld :=
  let x := flow p s.1 b s.2
  (if 0 < p.every ∧ (k + 1) % p.every = 0 then ada p.high p.low b (s.1, x.1) else (s.1, x.1), x.2)
structure PlF (p : Pl) : Prop where
  bi : 0 ≤ p.bi ∧ p.bi ≤ 10000
  bs : 0 ≤ p.bs ∧ p.bs ≤ 1000
  bo : 0 ≤ p.bo ∧ p.bo ≤ 250
  rain : 0 ≤ p.rain ∧ p.rain ≤ 10000
  loss : 0 ≤ p.loss ∧ p.loss ≤ 10000
  dec : 0 ≤ p.dec ∧ p.dec ≤ 1000
  high : 0 ≤ p.high ∧ p.high ≤ 1000000
  low : 0 ≤ p.low ∧ p.low ≤ 1000000
  every : 0 ≤ p.every ∧ p.every ≤ 100
structure Led4 (s s' : S2) (l : Ld) : Prop where
  m : isum s'.1 = isum s.1 + l.mi - l.mo
  t : isum s'.2 = isum s.2 + l.ti - l.ou
  mi : 0 ≤ l.mi ∧ l.mi ≤ 40000000
  mo : 0 ≤ l.mo ∧ l.mo ≤ 40000000
  ti : 0 ≤ l.ti ∧ l.ti ≤ 40000000000
  ou : 0 ≤ l.ou ∧ l.ou ≤ 40000000000
theorem Led4.comb {s s1 s2 s3 s4 s5 : S2} {l1 l2 l3 l4 : Ld} (h1 : Led s s1 l1) (h2 : Led s1 s2 l2) (h3 : Led s2 s3 l3) (h4 : Led s3 s4 l4) (e1 : isum s5.1 = isum s4.1) (e2 : isum s5.2 = isum s4.2) : Led4 s s5 (((l1.add l2).add l3).add l4) := by
  have a1 := h1.m; have a2 := h2.m; have a3 := h3.m; have a4 := h4.m
  have b1 := h1.t; have b2 := h2.t; have b3 := h3.t; have b4 := h4.t
  have c1 := h1.mi; have c2 := h2.mi; have c3 := h3.mi; have c4 := h4.mi
  have d1 := h1.mo; have d2 := h2.mo; have d3 := h3.mo; have d4 := h4.mo
  have f1 := h1.ti; have f2 := h2.ti; have f3 := h3.ti; have f4 := h4.ti
  have g1 := h1.ou; have g2 := h2.ou; have g3 := h3.ou; have g4 := h4.ou
  refine ⟨?_, ?_, ?_, ?_, ?_, ?_⟩
  · show isum s5.1 = isum s.1 + (l1.mi + l2.mi + l3.mi + l4.mi) - (l1.mo + l2.mo + l3.mo + l4.mo); omega
  · show isum s5.2 = isum s.2 + (l1.ti + l2.ti + l3.ti + l4.ti) - (l1.ou + l2.ou + l3.ou + l4.ou); omega
  · show 0 ≤ l1.mi + l2.mi + l3.mi + l4.mi ∧ l1.mi + l2.mi + l3.mi + l4.mi ≤ 40000000; omega
  · show 0 ≤ l1.mo + l2.mo + l3.mo + l4.mo ∧ l1.mo + l2.mo + l3.mo + l4.mo ≤ 40000000; omega
  · show 0 ≤ l1.ti + l2.ti + l3.ti + l4.ti ∧ l1.ti + l2.ti + l3.ti + l4.ti ≤ 40000000000; omega
  · show 0 ≤ l1.ou + l2.ou + l3.ou + l4.ou ∧ l1.ou + l2.ou + l3.ou + l4.ou ≤ 40000000000; omega
theorem qh0 {r : Int} {l : List Cell} {b : List Int} {s : S2} (F : StF r l s.1 s.2 b) {p : Pl} (P : PlF p) : StF r l (flow p l b s).1.1 (flow p l b s).1.2 b ∧ Led4 s (flow p l b s).1 (flow p l b s).2 := by
  have h1 := qa2 F P.bi P.bs P.bo
  have h2 := ql4 h1.1 P.rain
  have h3 := qnp h2.1 P.loss
  have h4 := qex h3.1 P.dec
  have h5 := qoy 16 0 _ h4.1
  exact ⟨h5.1, Led4.comb h1.2 h2.2 h3.2 h4.2 h5.2.1 h5.2.2⟩
theorem qkt {r : Int} {b : List Int} {s : S3} (F : StF r s.1 s.2.1 s.2.2 b) {p : Pl} (P : PlF p) (k : Int) : StF r (mac p b k s).1.1 (mac p b k s).1.2.1 (mac p b k s).1.2.2 b ∧ Led4 s.2 (mac p b k s).1.2 (mac p b k s).2 := by
  have h := qh0 (s := s.2) F P
  unfold mac
  by_cases g : 0 < p.every ∧ (k + 1) % p.every = 0
  · simp only [if_pos g]
    have a := qaj (s := (s.1, (flow p s.1 b s.2).1)) h.1 p.high p.low
    exact ⟨a.1, ⟨a.2.1.trans h.2.m, a.2.2.trans h.2.t, h.2.mi, h.2.mo, h.2.ti, h.2.ou⟩⟩
  · simp only [if_neg g]
    exact h
end Go.Proofs.Ytcaapedadpnjoaa
end
section
namespace Go.Proofs.Ytcaapedadpnjoaa
open Go.Ev
set_option maxRecDepth 20000
def sh (G : Nat → Int) (i u : Nat) (x : Int) (j : Nat) : Int := if j = u then G u + x else if j = i then G i - x else G j
end Go.Proofs.Ytcaapedadpnjoaa
end
section
namespace Go.Proofs.Ytcaapedadpnjoaa
open Go.Ev
set_option maxRecDepth 20000
def upto (L i : Nat) (f g : Nat → Int) : List Int := tab L (fun j => if j < i then f j else g j)
theorem qpe (L i : Nat) (f g : Nat → Int) : (upto L i f g).length = L := qon _ _
theorem qpd {L i : Nat} {f g : Nat → Int} (h : i < L) : (upto L i f g).getD i 0 = g i := by
  unfold upto; rw [qom h, if_neg (by omega)]
theorem qpf (L i : Nat) (f g : Nat → Int) (v : Int) (hv : v = f i) : (upto L i f g).set i v = upto L (i + 1) f g := by
  unfold upto
  rw [qop]
  refine qol fun j hj => ?_
  by_cases e : j = i
  · subst e; rw [if_pos rfl, if_pos (by omega), hv]
  · rw [if_neg e]
    by_cases e2 : j < i
    · rw [if_pos e2, if_pos (by omega)]
    · rw [if_neg e2, if_neg (by omega)]
theorem qpg (m : List Int) (L : Nat) (h : m.length = L) (f : Nat → Int) : upto L 0 f (fun j => m.getD j 0) = m := by
  subst h
  refine Eq.trans (qol fun j hj => ?_) (qoo m).symm
  rw [if_neg (by omega)]
theorem qpc (L : Nat) (f g : Nat → Int) : upto L L f g = tab L f := qol fun j hj => if_pos hj
theorem qov {a : Int} (ha : 0 ≤ a ∧ a ≤ 10000) (l : List Cell) (i : Nat) : (0 ≤ a * qpj (l.getD i zz3).2.1 ∧ a * qpj (l.getD i zz3).2.1 ≤ 160000) ∧ Int.tdiv (a * qpj (l.getD i zz3).2.1) 16 = part a l i := by
  have w := qpl (l.getD i zz3).2.1
  have h1 := Int.mul_nonneg ha.1 w.1
  have h2 : a * qpj (l.getD i zz3).2.1 ≤ a * 16 := Int.mul_le_mul_of_nonneg_left w.2 ha.1
  exact ⟨⟨h1, by omega⟩, Int.tdiv_eq_ediv_of_nonneg h1⟩
theorem qdh (k : Nat) (hk : 2000000 ≤ k) (l : List Cell) (a : Int) (ha : 0 ≤ a ∧ a ≤ 10000) (i : Nat) :
    go (k + 3) spec_l14Part [.int .i64 a, .int .i64 (l.getD i zz3).2.1] = some [.int .i64 (part a l i)] := by
  rw [qhf]
  have d := qov ha l i; have p := qlr ha l i
  have e := d.2
  simp (disch := omega) only [qaz, nth0, nth1, nth2, nth3, bit, qdu, qdv, qd6, qeb, qec, qed, qee, qef, qeg, qeh, qdw, qdx, qdy, qdz, qd0, qd1, qd2, qd3, qd4, qd5, qd7, qd8, qd9, qea, qo2, qo1, qo3, qlg, ql2, ql3, qh9, qa5, qod, nI, qet, qer, Bool.not_true, Bool.not_false, Bool.and_true, Bool.true_and, Bool.and_false, Bool.false_and, Bool.or_true, Bool.true_or, Bool.or_false, Bool.false_or, beq_self_eq_true, dTT, dFF, dT, dF, bigI, big0, qlf, qpp, qpq, List.length_set, List.length_replicate, Int.toNat_natCast, qds, qdt, imax, imin, qcn, e]
theorem qoh {x : List Int} (h : ∀ v ∈ x, 0 ≤ v ∧ v ≤ 1000000000000) (n : Nat) : qoe (fun j => x.getD j 0) n ≤ isum x := by
  rw [qii x]
  have nn : ∀ j, 0 ≤ x.getD j 0 := fun j => by
    by_cases g : j < x.length
    · exact (h _ (qh4 g 0)).1
    · rw [qh3 (by omega)]; exact Int.le_refl 0
  have up : ∀ d, qoe (fun j => x.getD j 0) n ≤ qoe (fun j => x.getD j 0) (n + d) := by
    intro d
    induction d with
    | zero => exact Int.le_refl _
    | succ d ih => have := nn (n + d); rw [show n + (d + 1) = (n + d) + 1 from rfl, qoe]; omega
  by_cases g : n ≤ x.length
  · have := up (x.length - n)
    rwa [show n + (x.length - n) = x.length by omega] at this
  · have hi : ∀ d, qoe (fun j => x.getD j 0) (x.length + d) = qoe (fun j => x.getD j 0) x.length := by
      intro d
      induction d with
      | zero => rfl
      | succ d ih => rw [show x.length + (d + 1) = (x.length + d) + 1 from rfl, qoe, ih, qh3 (by omega)]; omega
    have := hi (n - x.length)
    rw [show x.length + (n - x.length) = n by omega] at this
    rw [this]; exact Int.le_refl _
abbrev raF (a : Int) (l : List Cell) (m : List Int) (j : Nat) : Int := m.getD j 0 + part a l j
theorem ql5 (a : Int) (l : List Cell) (s : S2) : (raS a l s).1.2 = s.2 := by unfold raS; split <;> rfl
theorem ql6 (a : Int) (l : List Cell) (s : S2) : (raS a l s).2.mo = 0 ∧ (raS a l s).2.ti = 0 ∧ (raS a l s).2.ou = 0 := by unfold raS; split <;> exact ⟨rfl, rfl, rfl⟩
theorem qkq (k : Nat) (hk : 2000000 ≤ k) (fu : List (Nat × Nat)) (z1 z2 z3 z4 : Bool) (r : Int) (l : List Cell) (m t b : List Int) (a : Int) (ha : 0 ≤ a ∧ a ≤ 10000) (F : StF r l m t b) (y1 y2 y3 y4 : Bool) (q1 : List Cell) (q2 q3 q4 : List Int) (p0 p1 p2 p3 p4 : Int) (v1 v2 v3 v4 : Bool) : ∀ (N i : Nat), i ≤ l.length → l.length - i < N →
    lp (k + 3) spec_l14Rain [] fu 4 (N) (qm6 a (qoe (part a l) i) (i : Int) z1 l z2 m z3 t z4 b r y1 q1 y2 q2 y3 q3 y4 q4 p0 p1 p2 p3 p4 false l false (upto l.length i (raF a l m) (fun j => m.getD j 0)) false t false b r) = some [.agg [.int .i64 (r), .arr true (false) (.r3 (l)), .arr true (false) (.ints .i64 ((raS a l (m, t)).1.1)), .arr true (false) (.ints .i64 (t)), .arr true (false) (.ints .i64 (b))], .agg [.int .i64 (raS a l (m, t)).2.mi, .int .i64 0, .int .i64 0, .int .i64 0]]
  | 0, i, hi, hN => by omega
  | N + 1, i, hi, hN => by
    rw [qjc]
    have L := F.len; have p := qlr ha l i; have ps := qls ha l i; have ml := F.ml; have ms := F.msum; have f := F.at i; have tl := F.tl; have bl := F.bl; have rr := F.rr
    by_cases g : i < l.length
    · have IH := qkq k hk fu z1 z2 z3 z4 r l m t b a ha F y1 y2 y3 y4 q1 q2 q3 q4 p0 p1 p2 p3 p4 v1 v2 v3 v4 N (i + 1) (by omega) (by omega)
      rw [show qoe (part a l) (i + 1) = qoe (part a l) i + part a l i from rfl] at IH
      have es : (upto l.length i (raF a l m) (fun j => m.getD j 0)).set i (m.getD i 0 + part a l i) = upto l.length (i + 1) (raF a l m) (fun j => m.getD j 0) := qpf _ _ _ _ _ rfl
      have eg : (upto l.length i (raF a l m) (fun j => m.getD j 0)).getD i 0 = m.getD i 0 := qpd g
      simp (disch := omega) only [qaz, nth0, nth1, nth2, nth3, bit, qdu, qdv, qd6, qeb, qec, qed, qee, qef, qeg, qeh, qdw, qdx, qdy, qdz, qd0, qd1, qd2, qd3, qd4, qd5, qd7, qd8, qd9, qea, qo2, qo1, qo3, qlg, ql2, ql3, qh9, qa5, qod, nI, qet, qer, Bool.not_true, Bool.not_false, Bool.and_true, Bool.true_and, Bool.and_false, Bool.false_and, Bool.or_true, Bool.true_or, Bool.or_false, Bool.false_or, beq_self_eq_true, dTT, dFF, dT, dF, bigI, big0, qlf, qpp, qpq, List.length_set, List.length_replicate, Int.toNat_natCast, qds, qdt, imax, imin, qpe, qdh, eg, es, IH]
    · have : i = l.length := by omega
      subst this
      have e1 : isum (tab l.length (raF a l m)) = isum m + qoe (part a l) l.length := by rw [qij, qof, qii m, ml]
      have mem : ∀ x ∈ tab l.length (raF a l m), 0 ≤ x ∧ x ≤ 1000000000000 := by
        intro x hx
        simp only [tab, List.mem_map] at hx
        obtain ⟨j, _, rfl⟩ := hx
        have f := F.at j; have p := qlr ha l j
        show 0 ≤ m.getD j 0 + part a l j ∧ m.getD j 0 + part a l j ≤ _
        omega
      have es := qc8 (k + 2) (by omega) false (tab l.length (raF a l m)) (by rw [qon]; omega) mem
      unfold raS
      by_cases h : isum m + qoe (part a l) l.length ≤ 10000000
      · rw [if_pos h]
        simp (disch := omega) only [qaz, nth0, nth1, nth2, nth3, bit, qdu, qdv, qd6, qeb, qec, qed, qee, qef, qeg, qeh, qdw, qdx, qdy, qdz, qd0, qd1, qd2, qd3, qd4, qd5, qd7, qd8, qd9, qea, qo2, qo1, qo3, qlg, ql2, ql3, qh9, qa5, qod, nI, qet, qer, Bool.not_true, Bool.not_false, Bool.and_true, Bool.true_and, Bool.and_false, Bool.false_and, Bool.or_true, Bool.true_or, Bool.or_false, Bool.false_or, beq_self_eq_true, dTT, dFF, dT, dF, bigI, big0, qlf, qpp, qpq, List.length_set, List.length_replicate, Int.toNat_natCast, qds, qdt, imax, imin, qpc, es, e1]
      · rw [if_neg h]
        simp (disch := omega) only [qaz, nth0, nth1, nth2, nth3, bit, qdu, qdv, qd6, qeb, qec, qed, qee, qef, qeg, qeh, qdw, qdx, qdy, qdz, qd0, qd1, qd2, qd3, qd4, qd5, qd7, qd8, qd9, qea, qo2, qo1, qo3, qlg, ql2, ql3, qh9, qa5, qod, nI, qet, qer, Bool.not_true, Bool.not_false, Bool.and_true, Bool.true_and, Bool.and_false, Bool.false_and, Bool.or_true, Bool.true_or, Bool.or_false, Bool.false_or, beq_self_eq_true, dTT, dFF, dT, dF, bigI, big0, qlf, qpp, qpq, List.length_set, List.length_replicate, Int.toNat_natCast, qds, qdt, imax, imin, qpc, es, e1, qc6]
theorem qdn (k : Nat) (hk : 2000000 ≤ k) (z1 z2 z3 z4 : Bool) (r : Int) (l : List Cell) (m t b : List Int) (a : Int) (ha : 0 ≤ a ∧ a ≤ 10000) (F : StF r l m t b) :
    go (k + 4) spec_l14Rain [.agg [.int .i64 (r), .arr false (z1) (.r3 (l)), .arr false (z2) (.ints .i64 (m)), .arr false (z3) (.ints .i64 (t)), .arr false (z4) (.ints .i64 (b))], .int .i64 a] = some [.agg [.int .i64 (r), .arr true (false) (.r3 (l)), .arr true (false) (.ints .i64 ((raS a l (m, t)).1.1)), .arr true (false) (.ints .i64 (t)), .arr true (false) (.ints .i64 (b))], .agg [.int .i64 (raS a l (m, t)).2.mi, .int .i64 0, .int .i64 0, .int .i64 0]] := by
  rw [qhg]
  have L := F.len; have ml := F.ml; have tl := F.tl; have bl := F.bl; have rr := F.rr
  have e := qkq k hk [] z1 z2 z3 z4 r l m t b a ha F true true true true [] [] [] [] 0 0 0 0 0 true true true true (k + 3) 0 (by omega) (by omega)
  rw [show ((0 : Nat) : Int) = 0 from rfl, show qoe (part a l) 0 = 0 from rfl, qpg m l.length ml] at e
  simp (disch := omega) only [qaz, nth0, nth1, nth2, nth3, bit, qdu, qdv, qd6, qeb, qec, qed, qee, qef, qeg, qeh, qdw, qdx, qdy, qdz, qd0, qd1, qd2, qd3, qd4, qd5, qd7, qd8, qd9, qea, qo2, qo1, qo3, qlg, ql2, ql3, qh9, qa5, qod, nI, qet, qer, Bool.not_true, Bool.not_false, Bool.and_true, Bool.true_and, Bool.and_false, Bool.false_and, Bool.or_true, Bool.true_or, Bool.or_false, Bool.false_or, beq_self_eq_true, dTT, dFF, dT, dF, bigI, big0, qlf, qpp, qpq, List.length_set, List.length_replicate, Int.toNat_natCast, qds, qdt, imax, imin, qc6]
  exact e
end Go.Proofs.Ytcaapedadpnjoaa
end
section
namespace Go.Proofs.Ytcaapedadpnjoaa
open Go.Ev
set_option maxRecDepth 20000
abbrev soF (a : Int) (l : List Cell) (m : List Int) (j : Nat) : Int := m.getD j 0 - soX a l m j
abbrev soG (a : Int) (l : List Cell) (m t : List Int) (j : Nat) : Int := t.getD j 0 - soY a l m t j
theorem qkr (k : Nat) (hk : 2000000 ≤ k) (fu : List (Nat × Nat)) (z1 z2 z3 z4 : Bool) (r : Int) (l : List Cell) (m t b : List Int) (a : Int) (ha : 0 ≤ a ∧ a ≤ 10000) (F : StF r l m t b) (y1 y2 y3 y4 : Bool) (q1 : List Cell) (q2 q3 q4 : List Int) (p0 p1 p2 p3 p4 : Int) : ∀ (N i : Nat), i ≤ l.length → l.length - i < N →
    lp (k + 3) spec_l14Soak [] fu 4 (N) (qm7 a (i : Int) z1 l z2 m z3 t z4 b r y1 q1 y2 q2 y3 q3 y4 q4 p0 p1 p2 p3 p4 false l false (upto l.length i (soF a l m) (fun j => m.getD j 0)) false (upto l.length i (soG a l m t) (fun j => t.getD j 0)) false b r 0 (qoe (soX a l m) i) 0 (qoe (soY a l m t) i)) = some [.agg [.int .i64 (r), .arr true (false) (.r3 (l)), .arr true (false) (.ints .i64 (tab l.length (soF a l m))), .arr true (false) (.ints .i64 (tab l.length (soG a l m t))), .arr true (false) (.ints .i64 (b))], .agg [.int .i64 0, .int .i64 (qoe (soX a l m) l.length), .int .i64 0, .int .i64 (qoe (soY a l m t) l.length)]]
  | 0, i, hi, hN => by omega
  | N + 1, i, hi, hN => by
    rw [qjd]
    have L := F.len; have f := F.at i; have p := qlr ha l i; have ml := F.ml; have tl := F.tl
    by_cases g : i < l.length
    · have IH := qkr k hk fu z1 z2 z3 z4 r l m t b a ha F y1 y2 y3 y4 q1 q2 q3 q4 p0 p1 p2 p3 p4 N (i + 1) (by omega) (by omega)
      rw [show qoe (soX a l m) (i + 1) = qoe (soX a l m) i + soX a l m i from rfl, show qoe (soY a l m t) (i + 1) = qoe (soY a l m t) i + soY a l m t i from rfl] at IH
      have s1 : (upto l.length i (soF a l m) (fun j => m.getD j 0)).set i (m.getD i 0 - soX a l m i) = upto l.length (i + 1) (soF a l m) (fun j => m.getD j 0) := qpf _ _ _ _ _ rfl
      have s2 : (upto l.length i (soG a l m t) (fun j => t.getD j 0)).set i (t.getD i 0 - soY a l m t i) = upto l.length (i + 1) (soG a l m t) (fun j => t.getD j 0) := qpf _ _ _ _ _ rfl
      have g1 : (upto l.length i (soF a l m) (fun j => m.getD j 0)).getD i 0 = m.getD i 0 := qpd g
      have g2 : (upto l.length i (soG a l m t) (fun j => t.getD j 0)).getD i 0 = t.getD i 0 := qpd g
      have x1 := qnq F ha i; have y1 := (qnr F ha i).1
      have q := qns F ha i
      have ms := F.msum; have ts := F.tle
      have d1 := qoh F.mmem i; have d2 := qoh F.tmem i
      have ex : min (m.getD i 0) (part a l i) = soX a l m i := rfl
      have ey : qnf (t.getD i 0) (soX a l m i) (m.getD i 0) = soY a l m t i := rfl
      simp (disch := omega) only [qaz, nth0, nth1, nth2, nth3, bit, qdu, qdv, qd6, qeb, qec, qed, qee, qef, qeg, qeh, qdw, qdx, qdy, qdz, qd0, qd1, qd2, qd3, qd4, qd5, qd7, qd8, qd9, qea, qo2, qo1, qo3, qlg, ql2, ql3, qh9, qa5, qod, nI, qet, qer, Bool.not_true, Bool.not_false, Bool.and_true, Bool.true_and, Bool.and_false, Bool.false_and, Bool.or_true, Bool.true_or, Bool.or_false, Bool.false_or, beq_self_eq_true, dTT, dFF, dT, dF, bigI, big0, qlf, qpp, qpq, List.length_set, List.length_replicate, Int.toNat_natCast, qds, qdt, imax, imin, qpe, qdh, g1, g2, imin, ex, qcj, ey, s1, s2, IH]
    · have : i = l.length := by omega
      subst this
      simp (disch := omega) only [qaz, nth0, nth1, nth2, nth3, bit, qdu, qdv, qd6, qeb, qec, qed, qee, qef, qeg, qeh, qdw, qdx, qdy, qdz, qd0, qd1, qd2, qd3, qd4, qd5, qd7, qd8, qd9, qea, qo2, qo1, qo3, qlg, ql2, ql3, qh9, qa5, qod, nI, qet, qer, Bool.not_true, Bool.not_false, Bool.and_true, Bool.true_and, Bool.and_false, Bool.false_and, Bool.or_true, Bool.true_or, Bool.or_false, Bool.false_or, beq_self_eq_true, dTT, dFF, dT, dF, bigI, big0, qlf, qpp, qpq, List.length_set, List.length_replicate, Int.toNat_natCast, qds, qdt, imax, imin, qpc]
theorem qdp (k : Nat) (hk : 2000000 ≤ k) (z1 z2 z3 z4 : Bool) (r : Int) (l : List Cell) (m t b : List Int) (a : Int) (ha : 0 ≤ a ∧ a ≤ 10000) (F : StF r l m t b) :
    go (k + 4) spec_l14Soak [.agg [.int .i64 (r), .arr false (z1) (.r3 (l)), .arr false (z2) (.ints .i64 (m)), .arr false (z3) (.ints .i64 (t)), .arr false (z4) (.ints .i64 (b))], .int .i64 a] = some [.agg [.int .i64 (r), .arr true (false) (.r3 (l)), .arr true (false) (.ints .i64 ((soS a l (m, t)).1.1)), .arr true (false) (.ints .i64 ((soS a l (m, t)).1.2)), .arr true (false) (.ints .i64 (b))], .agg [.int .i64 0, .int .i64 (soS a l (m, t)).2.mo, .int .i64 0, .int .i64 (soS a l (m, t)).2.ou]] := by
  rw [qhh]
  have L := F.len; have ml := F.ml; have tl := F.tl; have bl := F.bl; have rr := F.rr
  have e := qkr k hk [] z1 z2 z3 z4 r l m t b a ha F true true true true [] [] [] [] 0 0 0 0 0 (k + 3) 0 (by omega) (by omega)
  rw [show ((0 : Nat) : Int) = 0 from rfl, show qoe (soX a l m) 0 = 0 from rfl, show qoe (soY a l m t) 0 = 0 from rfl, qpg m l.length ml, qpg t l.length tl] at e
  simp (disch := omega) only [qaz, nth0, nth1, nth2, nth3, bit, qdu, qdv, qd6, qeb, qec, qed, qee, qef, qeg, qeh, qdw, qdx, qdy, qdz, qd0, qd1, qd2, qd3, qd4, qd5, qd7, qd8, qd9, qea, qo2, qo1, qo3, qlg, ql2, ql3, qh9, qa5, qod, nI, qet, qer, Bool.not_true, Bool.not_false, Bool.and_true, Bool.true_and, Bool.and_false, Bool.false_and, Bool.or_true, Bool.true_or, Bool.or_false, Bool.false_or, beq_self_eq_true, dTT, dFF, dT, dF, bigI, big0, qlf, qpp, qpq, List.length_set, List.length_replicate, Int.toNat_natCast, qds, qdt, imax, imin, qc6]
  exact e
abbrev deF (a : Int) (t : List Int) (j : Nat) : Int := t.getD j 0 - deX a t j
theorem qot {r : Int} {l : List Cell} {m t b : List Int} (F : StF r l m t b) {a : Int} (ha : 0 ≤ a ∧ a ≤ 1000) (i : Nat) : (0 ≤ t.getD i 0 * a ∧ t.getD i 0 * a ≤ 10000000000000) ∧ Int.tdiv (t.getD i 0 * a) 1000 = deX a t i := by
  have f := F.at i
  have h1 := Int.mul_nonneg f.2.2.1 ha.1
  have h2 : t.getD i 0 * a ≤ t.getD i 0 * 1000 := Int.mul_le_mul_of_nonneg_left ha.2 f.2.2.1
  exact ⟨⟨h1, by omega⟩, Int.tdiv_eq_ediv_of_nonneg h1⟩
theorem qez {r : Int} {l : List Cell} {m t b : List Int} (F : StF r l m t b) {a : Int} (ha : 0 ≤ a ∧ a ≤ 1000) (n : Nat) : 0 ≤ qoe (deX a t) n ∧ qoe (deX a t) n ≤ qoe (fun j => t.getD j 0) n :=
  ⟨qoi n fun j _ => (qey F ha j).1, qog n fun j _ => (qey F ha j).2⟩
theorem qki (k : Nat) (hk : 2000000 ≤ k) (fu : List (Nat × Nat)) (z1 z2 z3 z4 : Bool) (r : Int) (l : List Cell) (m t b : List Int) (a : Int) (ha : 0 ≤ a ∧ a ≤ 1000) (F : StF r l m t b) (y1 y2 y3 y4 : Bool) (q1 : List Cell) (q2 q3 q4 : List Int) (p0 p1 p2 p3 p4 : Int) : ∀ (N i : Nat), i ≤ l.length → l.length - i < N →
    lp (k + 2) spec_l15Decay [] fu 4 (N) (qm8 a (i : Int) z1 l z2 m z3 t z4 b r y1 q1 y2 q2 y3 q3 y4 q4 p0 p1 p2 p3 p4 false l false m false (upto l.length i (deF a t) (fun j => t.getD j 0)) false b r 0 0 0 (qoe (deX a t) i)) = some [.agg [.int .i64 (r), .arr true (false) (.r3 (l)), .arr true (false) (.ints .i64 (m)), .arr true (false) (.ints .i64 (tab l.length (deF a t))), .arr true (false) (.ints .i64 (b))], .agg [.int .i64 0, .int .i64 0, .int .i64 0, .int .i64 (qoe (deX a t) l.length)]]
  | 0, i, hi, hN => by omega
  | N + 1, i, hi, hN => by
    rw [qje]
    have L := F.len; have f := F.at i; have d := qot F ha i; have tl := F.tl
    by_cases g : i < l.length
    · have IH := qki k hk fu z1 z2 z3 z4 r l m t b a ha F y1 y2 y3 y4 q1 q2 q3 q4 p0 p1 p2 p3 p4 N (i + 1) (by omega) (by omega)
      rw [show qoe (deX a t) (i + 1) = qoe (deX a t) i + deX a t i from rfl] at IH
      have s2 : (upto l.length i (deF a t) (fun j => t.getD j 0)).set i (t.getD i 0 - deX a t i) = upto l.length (i + 1) (deF a t) (fun j => t.getD j 0) := qpf _ _ _ _ _ rfl
      have g2 : (upto l.length i (deF a t) (fun j => t.getD j 0)).getD i 0 = t.getD i 0 := qpd g
      have x1 := qey F ha i; have q := qez F ha i; have ts := F.tle; have d2 := qoh F.tmem i
      have ed := d.2
      simp (disch := omega) only [qaz, nth0, nth1, nth2, nth3, bit, qdu, qdv, qd6, qeb, qec, qed, qee, qef, qeg, qeh, qdw, qdx, qdy, qdz, qd0, qd1, qd2, qd3, qd4, qd5, qd7, qd8, qd9, qea, qo2, qo1, qo3, qlg, ql2, ql3, qh9, qa5, qod, nI, qet, qer, Bool.not_true, Bool.not_false, Bool.and_true, Bool.true_and, Bool.and_false, Bool.false_and, Bool.or_true, Bool.true_or, Bool.or_false, Bool.false_or, beq_self_eq_true, dTT, dFF, dT, dF, bigI, big0, qlf, qpp, qpq, List.length_set, List.length_replicate, Int.toNat_natCast, qds, qdt, imax, imin, qpe, g2, ed, s2, IH]
    · have : i = l.length := by omega
      subst this
      simp (disch := omega) only [qaz, nth0, nth1, nth2, nth3, bit, qdu, qdv, qd6, qeb, qec, qed, qee, qef, qeg, qeh, qdw, qdx, qdy, qdz, qd0, qd1, qd2, qd3, qd4, qd5, qd7, qd8, qd9, qea, qo2, qo1, qo3, qlg, ql2, ql3, qh9, qa5, qod, nI, qet, qer, Bool.not_true, Bool.not_false, Bool.and_true, Bool.true_and, Bool.and_false, Bool.false_and, Bool.or_true, Bool.true_or, Bool.or_false, Bool.false_or, beq_self_eq_true, dTT, dFF, dT, dF, bigI, big0, qlf, qpp, qpq, List.length_set, List.length_replicate, Int.toNat_natCast, qds, qdt, imax, imin, qpc]
theorem qcq (k : Nat) (hk : 2000000 ≤ k) (z1 z2 z3 z4 : Bool) (r : Int) (l : List Cell) (m t b : List Int) (a : Int) (ha : 0 ≤ a ∧ a ≤ 1000) (F : StF r l m t b) :
    go (k + 3) spec_l15Decay [.agg [.int .i64 (r), .arr false (z1) (.r3 (l)), .arr false (z2) (.ints .i64 (m)), .arr false (z3) (.ints .i64 (t)), .arr false (z4) (.ints .i64 (b))], .int .i64 a] = some [.agg [.int .i64 (r), .arr true (false) (.r3 (l)), .arr true (false) (.ints .i64 (m)), .arr true (false) (.ints .i64 ((deS a l (m, t)).1.2)), .arr true (false) (.ints .i64 (b))], .agg [.int .i64 0, .int .i64 0, .int .i64 0, .int .i64 (deS a l (m, t)).2.ou]] := by
  rw [qhi]
  have L := F.len; have ml := F.ml; have tl := F.tl; have bl := F.bl; have rr := F.rr
  have e := qki k hk [] z1 z2 z3 z4 r l m t b a ha F true true true true [] [] [] [] 0 0 0 0 0 (k + 2) 0 (by omega) (by omega)
  rw [show ((0 : Nat) : Int) = 0 from rfl, show qoe (deX a t) 0 = 0 from rfl, qpg t l.length tl] at e
  simp (disch := omega) only [qaz, nth0, nth1, nth2, nth3, bit, qdu, qdv, qd6, qeb, qec, qed, qee, qef, qeg, qeh, qdw, qdx, qdy, qdz, qd0, qd1, qd2, qd3, qd4, qd5, qd7, qd8, qd9, qea, qo2, qo1, qo3, qlg, ql2, ql3, qh9, qa5, qod, nI, qet, qer, Bool.not_true, Bool.not_false, Bool.and_true, Bool.true_and, Bool.and_false, Bool.false_and, Bool.or_true, Bool.true_or, Bool.or_false, Bool.false_or, beq_self_eq_true, dTT, dFF, dT, dF, bigI, big0, qlf, qpp, qpq, List.length_set, List.length_replicate, Int.toNat_natCast, qds, qdt, imax, imin, qc6]
  exact e
end Go.Proofs.Ytcaapedadpnjoaa
end
section
namespace Go.Proofs.Ytcaapedadpnjoaa
open Go.Ev
set_option maxRecDepth 20000
theorem tnz : Int.toNat 0 = 0 := Eq.trans rfl rfl
theorem qou {x o : Int} (hx : 0 ≤ x ∧ x ≤ 10000000) (ho : 0 ≤ o ∧ o ≤ 250) : (0 ≤ x * o ∧ x * o ≤ 2500000000) ∧ Int.tdiv (x * o) 1000 = x * o / 1000 := by
  have h1 := Int.mul_nonneg hx.1 ho.1
  have h2 : x * o ≤ x * 250 := Int.mul_le_mul_of_nonneg_left ho.2 hx.1
  exact ⟨⟨h1, by omega⟩, Int.tdiv_eq_ediv_of_nonneg h1⟩
abbrev ldD (x : Ld) : D := .agg [.int .i64 x.mi, .int .i64 x.mo, .int .i64 x.ti, .int .i64 x.ou]
theorem qcp (k : Nat) (hk : 2000000 ≤ k) (z1 z2 z3 z4 : Bool) (r : Int) (l : List Cell) (m t b : List Int) (F : StF r l m t b) (a c o : Int) (ha : 0 ≤ a ∧ a ≤ 10000) (hc : 0 ≤ c ∧ c ≤ 1000) (ho : 0 ≤ o ∧ o ≤ 250) :
    go (k + 3) spec_l13Apply [.agg [.int .i64 (r), .arr false (z1) (.r3 (l)), .arr false (z2) (.ints .i64 (m)), .arr false (z3) (.ints .i64 (t)), .arr false (z4) (.ints .i64 (b))], .agg [.int .i64 a, .int .i64 c, .int .i64 o]] =
      some [.agg [.int .i64 (r), .arr true (false) (.r3 (l)), .arr true (false) (.ints .i64 ((boS a c o (m, t)).1.1)), .arr true (false) (.ints .i64 ((boS a c o (m, t)).1.2)), .arr true (false) (.ints .i64 (b))], ldD (boS a c o (m, t)).2] := by
  rw [qhd]
  have L := F.len; have ml := F.ml; have tl := F.tl; have bl := F.bl; have rr := F.rr
  have f := F.at (m.length - 1)
  have d := qou ⟨f.1, f.2.1⟩ ho
  have ed : Int.tdiv (m.getD (m.length - 1) 0 * o) 1000 = boX o m := d.2
  have G := qa1 F ho
  have bx := qa3 F ho; have bY := qa4 F ho; have ip := qh8 ha hc
  have ey : qnf (t.getD (m.length - 1) 0) (boX o m) (m.getD (m.length - 1) 0) = boY o m t := rfl
  unfold boS
  change StF r l (m.set (m.length - 1) (m.getD (m.length - 1) 0 - boX o m)) (t.set (m.length - 1) (t.getD (m.length - 1) 0 - boY o m t)) b ∧ _ at G
  rw [show bo1 o (m, t) = (m.set (m.length - 1) (m.getD (m.length - 1) 0 - boX o m), t.set (m.length - 1) (t.getD (m.length - 1) 0 - boY o m t)) from rfl] at G ⊢
  simp (disch := omega) only [qaz, nth0, nth1, nth2, nth3, bit, qdu, qdv, qd6, qeb, qec, qed, qee, qef, qeg, qeh, qdw, qdx, qdy, qdz, qd0, qd1, qd2, qd3, qd4, qd5, qd7, qd8, qd9, qea, qo2, qo1, qo3, qlg, ql2, ql3, qh9, qa5, qod, nI, qet, qer, Bool.not_true, Bool.not_false, Bool.and_true, Bool.true_and, Bool.and_false, Bool.false_and, Bool.or_true, Bool.true_or, Bool.or_false, Bool.false_or, beq_self_eq_true, dTT, dFF, dT, dF, bigI, big0, qlf, qpp, qpq, List.length_set, List.length_replicate, Int.toNat_natCast, qds, qdt, imax, imin, qdq, ed, qc6, qcj, ey]
  generalize m.set (m.length - 1) (m.getD (m.length - 1) 0 - boX o m) = M at *
  generalize t.set (m.length - 1) (t.getD (m.length - 1) 0 - boY o m t) = T at *
  obtain ⟨G, g1, g2⟩ := G
  have Ml := G.ml; have Tl := G.tl; have Mf := G.at 0; have Ms := G.msum
  have eS := qc8 (k + 1) (by omega) false M (by omega) G.mmem
  by_cases h : isum M + a ≤ 10000000
  · rw [if_pos h]
    simp (disch := omega) only [qaz, nth0, nth1, nth2, nth3, bit, qdu, qdv, qd6, qeb, qec, qed, qee, qef, qeg, qeh, qdw, qdx, qdy, qdz, qd0, qd1, qd2, qd3, qd4, qd5, qd7, qd8, qd9, qea, qo2, qo1, qo3, qlg, ql2, ql3, qh9, qa5, qod, nI, qet, qer, Bool.not_true, Bool.not_false, Bool.and_true, Bool.true_and, Bool.and_false, Bool.false_and, Bool.or_true, Bool.true_or, Bool.or_false, Bool.false_or, beq_self_eq_true, dTT, dFF, dT, dF, bigI, big0, qlf, qpp, qpq, List.length_set, List.length_replicate, Int.toNat_natCast, qds, qdt, imax, imin, eS, tnz]
    rfl
  · rw [if_neg h]
    simp (disch := omega) only [qaz, nth0, nth1, nth2, nth3, bit, qdu, qdv, qd6, qeb, qec, qed, qee, qef, qeg, qeh, qdw, qdx, qdy, qdz, qd0, qd1, qd2, qd3, qd4, qd5, qd7, qd8, qd9, qea, qo2, qo1, qo3, qlg, ql2, ql3, qh9, qa5, qod, nI, qet, qer, Bool.not_true, Bool.not_false, Bool.and_true, Bool.true_and, Bool.and_false, Bool.false_and, Bool.or_true, Bool.true_or, Bool.or_false, Bool.false_or, beq_self_eq_true, dTT, dFF, dT, dF, bigI, big0, qlf, qpp, qpq, List.length_set, List.length_replicate, Int.toNat_natCast, qds, qdt, imax, imin, eS]
theorem qce (k : Nat) (x y : Ld) (h1 : 0 ≤ x.mi + y.mi ∧ x.mi + y.mi ≤ 1000000000000000000) (h2 : 0 ≤ x.mo + y.mo ∧ x.mo + y.mo ≤ 1000000000000000000) (h3 : 0 ≤ x.ti + y.ti ∧ x.ti + y.ti ≤ 1000000000000000000) (h4 : 0 ≤ x.ou + y.ou ∧ x.ou + y.ou ≤ 1000000000000000000) :
    go (k + 1) spec_LedgerAdd [ldD x, ldD y] = some [ldD (x.add y)] := by
  rw [qgd]
  simp (disch := omega) only [qaz, nth0, nth1, nth2, nth3, bit, qdu, qdv, qd6, qeb, qec, qed, qee, qef, qeg, qeh, qdw, qdx, qdy, qdz, qd0, qd1, qd2, qd3, qd4, qd5, qd7, qd8, qd9, qea, qo2, qo1, qo3, qlg, ql2, ql3, qh9, qa5, qod, nI, qet, qer, Bool.not_true, Bool.not_false, Bool.and_true, Bool.true_and, Bool.and_false, Bool.false_and, Bool.or_true, Bool.true_or, Bool.or_false, Bool.false_or, beq_self_eq_true, dTT, dFF, dT, dF, bigI, big0, qlf, qpp, qpq, List.length_set, List.length_replicate, Int.toNat_natCast, qds, qdt, imax, imin]
  rfl
end Go.Proofs.Ytcaapedadpnjoaa
end
section
namespace Go.Proofs.Ytcaapedadpnjoaa
open Go.Ev
set_option maxRecDepth 20000
abbrev plD (p : Pl) : D := .agg [.int .i64 p.bi, .int .i64 p.bs, .int .i64 p.bo, .int .i64 p.rain, .int .i64 p.loss, .int .i64 p.dec, .int .i64 p.high, .int .i64 p.low, .int .i64 p.every]
theorem qdo (k : Nat) (hk : 2000000 ≤ k) (z1 z2 z3 z4 : Bool) (r : Int) (l : List Cell) (s : S2) (b : List Int) (a : Int) (ha : 0 ≤ a ∧ a ≤ 10000) (F : StF r l s.1 s.2 b) :
    go (k + 4) spec_l14Rain [.agg [.int .i64 (r), .arr false (z1) (.r3 (l)), .arr false (z2) (.ints .i64 (s.1)), .arr false (z3) (.ints .i64 (s.2)), .arr false (z4) (.ints .i64 (b))], .int .i64 a] = some [.agg [.int .i64 (r), .arr true (false) (.r3 (l)), .arr true (false) (.ints .i64 ((raS a l s).1.1)), .arr true (false) (.ints .i64 ((raS a l s).1.2)), .arr true (false) (.ints .i64 (b))], ldD (raS a l s).2] := by
  have z := ql6 a l s
  rw [qdn k hk z1 z2 z3 z4 r l s.1 s.2 b a ha F, ql5]
  simp only [ldD, z.1, z.2.1, z.2.2]
theorem qo0 {a b : Int} (ha : 0 ≤ a) : Int.tmod a b = a % b := Int.tmod_eq_emod_of_nonneg ha
set_option maxHeartbeats 1000000 in
theorem qkb (k : Nat) (hk : 2000000 ≤ k) (fu : List (Nat × Nat)) (r : Int) (l : List Cell) (b : List Int) (p : Pl) (P : PlF p) (c : Int) (hc : 0 ≤ c ∧ c ≤ 10000000) (L : Ld) (y1 y2 y3 y4 : Bool) (q1 : List Cell) (q2 q3 q4 : List Int) (p0 p1 p2 p3 p4 : Int) : ∀ (N n i : Nat) (s : S2), i + n = 16 → n < N → StF r l s.1 s.2 b →
    lp (k + 7) spec_l18Macro [] fu 8 (N) (qnc c (i : Int) p.bi p.bs p.bo p.rain p.loss p.dec p.high p.low p.every y1 q1 y2 q2 y3 q3 y4 q4 p0 p1 p2 p3 p4 false l false s.1 false s.2 false b r L.mi L.mo L.ti L.ou) =
      some [.agg [.int .i64 (r), .arr true (false) (.r3 ((if 0 < p.every ∧ (c + 1) % p.every = 0 then ada p.high p.low b (l, qox l b n i s) else (l, qox l b n i s)).1)), .arr true (false) (.ints .i64 ((if 0 < p.every ∧ (c + 1) % p.every = 0 then ada p.high p.low b (l, qox l b n i s) else (l, qox l b n i s)).2.1)), .arr true (false) (.ints .i64 ((if 0 < p.every ∧ (c + 1) % p.every = 0 then ada p.high p.low b (l, qox l b n i s) else (l, qox l b n i s)).2.2)), .arr true (false) (.ints .i64 (b))], ldD L]
  | 0, n, i, s, hi, hN, F => by omega
  | N + 1, 0, i, s, hi, hN, F => by
    rw [qji]
    have : i = 16 := by omega
    subst this
    have LL := F.len
    have tm : Int.tmod (c + 1) p.every = (c + 1) % p.every := qo0 (by omega)
    have eA := qdj k (by omega) r l s.1 s.2 b F p.high p.low
    rw [show qox l b 0 16 s = s from rfl]
    simp (disch := omega) only [qaz, nth0, nth1, nth2, nth3, bit, qdu, qdv, qd6, qeb, qec, qed, qee, qef, qeg, qeh, qdw, qdx, qdy, qdz, qd0, qd1, qd2, qd3, qd4, qd5, qd7, qd8, qd9, qea, qo2, qo1, qo3, qlg, ql2, ql3, qh9, qa5, qod, nI, qet, qer, Bool.not_true, Bool.not_false, Bool.and_true, Bool.true_and, Bool.and_false, Bool.false_and, Bool.or_true, Bool.true_or, Bool.or_false, Bool.false_or, beq_self_eq_true, dTT, dFF, dT, dF, bigI, big0, qlf, qpp, qpq, List.length_set, List.length_replicate, Int.toNat_natCast, qds, qdt, imax, imin, tm]
    by_cases w : 0 < p.every
    · by_cases w2 : (c + 1) % p.every = 0
      · rw [if_pos ⟨w, w2⟩]
        simp (disch := omega) only [qaz, nth0, nth1, nth2, nth3, bit, qdu, qdv, qd6, qeb, qec, qed, qee, qef, qeg, qeh, qdw, qdx, qdy, qdz, qd0, qd1, qd2, qd3, qd4, qd5, qd7, qd8, qd9, qea, qo2, qo1, qo3, qlg, ql2, ql3, qh9, qa5, qod, nI, qet, qer, Bool.not_true, Bool.not_false, Bool.and_true, Bool.true_and, Bool.and_false, Bool.false_and, Bool.or_true, Bool.true_or, Bool.or_false, Bool.false_or, beq_self_eq_true, dTT, dFF, dT, dF, bigI, big0, qlf, qpp, qpq, List.length_set, List.length_replicate, Int.toNat_natCast, qds, qdt, imax, imin, eA, w2]
        rfl
      · rw [if_neg (fun h => w2 h.2)]
        simp (disch := omega) only [qaz, nth0, nth1, nth2, nth3, bit, qdu, qdv, qd6, qeb, qec, qed, qee, qef, qeg, qeh, qdw, qdx, qdy, qdz, qd0, qd1, qd2, qd3, qd4, qd5, qd7, qd8, qd9, qea, qo2, qo1, qo3, qlg, ql2, ql3, qh9, qa5, qod, nI, qet, qer, Bool.not_true, Bool.not_false, Bool.and_true, Bool.true_and, Bool.and_false, Bool.false_and, Bool.or_true, Bool.true_or, Bool.or_false, Bool.false_or, beq_self_eq_true, dTT, dFF, dT, dF, bigI, big0, qlf, qpp, qpq, List.length_set, List.length_replicate, Int.toNat_natCast, qds, qdt, imax, imin]
    · rw [if_neg (fun h => w h.1)]
      simp (disch := omega) only [qaz, nth0, nth1, nth2, nth3, bit, qdu, qdv, qd6, qeb, qec, qed, qee, qef, qeg, qeh, qdw, qdx, qdy, qdz, qd0, qd1, qd2, qd3, qd4, qd5, qd7, qd8, qd9, qea, qo2, qo1, qo3, qlg, ql2, ql3, qh9, qa5, qod, nI, qet, qer, Bool.not_true, Bool.not_false, Bool.and_true, Bool.true_and, Bool.and_false, Bool.false_and, Bool.or_true, Bool.true_or, Bool.or_false, Bool.false_or, beq_self_eq_true, dTT, dFF, dT, dF, bigI, big0, qlf, qpp, qpq, List.length_set, List.length_replicate, Int.toNat_natCast, qds, qdt, imax, imin]
  | N + 1, n + 1, i, s, hi, hN, F => by
    rw [qji]
    have LL := F.len
    have IH := qkb k hk fu r l b p P c hc L y1 y2 y3 y4 q1 q2 q3 q4 p0 p1 p2 p3 p4 N n (i + 1) (tick l b i s) (by omega) (by omega) (qn8 F i)
    have eS := qdf (k + 2) (by omega) r false false false false l s.1 s.2 b F (i : Int)
    rw [show qox l b (n + 1) i s = qox l b n (i + 1) (tick l b i s) from rfl]
    simp only [tick] at IH ⊢
    simp (disch := omega) only [qaz, nth0, nth1, nth2, nth3, bit, qdu, qdv, qd6, qeb, qec, qed, qee, qef, qeg, qeh, qdw, qdx, qdy, qdz, qd0, qd1, qd2, qd3, qd4, qd5, qd7, qd8, qd9, qea, qo2, qo1, qo3, qlg, ql2, ql3, qh9, qa5, qod, nI, qet, qer, Bool.not_true, Bool.not_false, Bool.and_true, Bool.true_and, Bool.and_false, Bool.false_and, Bool.or_true, Bool.true_or, Bool.or_false, Bool.false_or, beq_self_eq_true, dTT, dFF, dT, dF, bigI, big0, qlf, qpp, qpq, List.length_set, List.length_replicate, Int.toNat_natCast, qds, qdt, imax, imin, eS, IH]
set_option maxHeartbeats 1000000 in
theorem qdk (k : Nat) (hk : 2000000 ≤ k) (r : Int) (s : S3) (b : List Int) (F : StF r s.1 s.2.1 s.2.2 b) (p : Pl) (P : PlF p) (c : Int) (hc : 0 ≤ c ∧ c ≤ 10000000) :
    go (k + 8) spec_l18Macro [.agg [.int .i64 (r), .arr false (false) (.r3 (s.1)), .arr false (false) (.ints .i64 (s.2.1)), .arr false (false) (.ints .i64 (s.2.2)), .arr false (false) (.ints .i64 (b))], plD p, .int .i64 c] = some [.agg [.int .i64 (r), .arr true (false) (.r3 ((mac p b c s).1.1)), .arr true (false) (.ints .i64 ((mac p b c s).1.2.1)), .arr true (false) (.ints .i64 ((mac p b c s).1.2.2)), .arr true (false) (.ints .i64 (b))], ldD (mac p b c s).2] := by
  rw [qhm]
  obtain ⟨l, s⟩ := s
  change StF r l s.1 s.2 b at F
  have h1 := qa2 F P.bi P.bs P.bo
  have e1 := qcp (k + 4) (by omega) false false false false r l s.1 s.2 b F p.bi p.bs p.bo P.bi P.bs P.bo
  obtain ⟨s1, q1⟩ : ∃ x, x = boS p.bi p.bs p.bo s := ⟨_, rfl⟩
  change StF r l (boS p.bi p.bs p.bo s).1.1 (boS p.bi p.bs p.bo s).1.2 b ∧ Led s (boS p.bi p.bs p.bo s).1 (boS p.bi p.bs p.bo s).2 at h1
  change _ = some [.agg [.int .i64 (r), .arr true (false) (.r3 (l)), .arr true (false) (.ints .i64 ((boS p.bi p.bs p.bo s).1.1)), .arr true (false) (.ints .i64 ((boS p.bi p.bs p.bo s).1.2)), .arr true (false) (.ints .i64 (b))], ldD (boS p.bi p.bs p.bo s).2] at e1
  rw [← q1] at h1 e1
  have h2 := ql4 h1.1 P.rain
  have e2 := qdo (k + 3) (by omega) false false false false r l s1.1 b p.rain P.rain h1.1
  obtain ⟨s2, q2⟩ : ∃ x, x = raS p.rain l s1.1 := ⟨_, rfl⟩
  change StF r l (raS p.rain l s1.1).1.1 (raS p.rain l s1.1).1.2 b ∧ Led s1.1 (raS p.rain l s1.1).1 (raS p.rain l s1.1).2 at h2
  rw [← q2] at h2 e2
  have h3 := qnp h2.1 P.loss
  have e3 := qdp (k + 3) (by omega) false false false false r l s2.1.1 s2.1.2 b p.loss P.loss h2.1
  obtain ⟨s3, q3⟩ : ∃ x, x = soS p.loss l s2.1 := ⟨_, rfl⟩
  change StF r l (soS p.loss l s2.1).1.1 (soS p.loss l s2.1).1.2 b ∧ Led s2.1 (soS p.loss l s2.1).1 (soS p.loss l s2.1).2 at h3
  change _ = some [.agg [.int .i64 (r), .arr true (false) (.r3 (l)), .arr true (false) (.ints .i64 ((soS p.loss l s2.1).1.1)), .arr true (false) (.ints .i64 ((soS p.loss l s2.1).1.2)), .arr true (false) (.ints .i64 (b))], ldD (soS p.loss l s2.1).2] at e3
  rw [← q3] at h3 e3
  have h4 := qex h3.1 P.dec
  have e4 := qcq (k + 4) (by omega) false false false false r l s3.1.1 s3.1.2 b p.dec P.dec h3.1
  obtain ⟨s4, q4⟩ : ∃ x, x = deS p.dec l s3.1 := ⟨_, rfl⟩
  change StF r l (deS p.dec l s3.1).1.1 (deS p.dec l s3.1).1.2 b ∧ Led s3.1 (deS p.dec l s3.1).1 (deS p.dec l s3.1).2 at h4
  change _ = some [.agg [.int .i64 (r), .arr true (false) (.r3 (l)), .arr true (false) (.ints .i64 ((deS p.dec l s3.1).1.1)), .arr true (false) (.ints .i64 ((deS p.dec l s3.1).1.2)), .arr true (false) (.ints .i64 (b))], ldD (deS p.dec l s3.1).2] at e4
  rw [← q4] at h4 e4
  have l1 := h1.2; have l2 := h2.2; have l3 := h3.2; have l4 := h4.2
  have a1 := l1.mi; have a2 := l2.mi; have a3 := l3.mi; have a4 := l4.mi
  have b1 := l1.mo; have b2 := l2.mo; have b3 := l3.mo; have b4 := l4.mo
  have c1 := l1.ti; have c2 := l2.ti; have c3 := l3.ti; have c4 := l4.ti
  have d1 := l1.ou; have d2 := l2.ou; have d3 := l3.ou; have d4 := l4.ou
  have g1 := qce (k + 6) s1.2 s2.2 (by omega) (by omega) (by omega) (by omega)
  have g2 := qce (k + 6) s3.2 s4.2 (by omega) (by omega) (by omega) (by omega)
  have g3 := qce (k + 6) (s1.2.add s2.2) (s3.2.add s4.2) (by simp only [Ld.add]; omega) (by simp only [Ld.add]; omega) (by simp only [Ld.add]; omega) (by simp only [Ld.add]; omega)
  have ll : (s1.2.add s2.2).add (s3.2.add s4.2) = ((s1.2.add s2.2).add s3.2).add s4.2 := by simp only [Ld.add, Int.add_assoc]
  have eq : mac p b c (l, s) = (if 0 < p.every ∧ (c + 1) % p.every = 0 then ada p.high p.low b (l, qox l b 16 0 s4.1) else (l, qox l b 16 0 s4.1), (s1.2.add s2.2).add (s3.2.add s4.2)) := by
    rw [ll]; subst q4; subst q3; subst q2; subst q1; rfl
  have eM := qkb k hk [] r l b p P c hc ((s1.2.add s2.2).add (s3.2.add s4.2)) true true true true [] [] [] [] 0 0 0 0 0 (k + 7) 16 0 s4.1 rfl (by omega) h4.1
  rw [show ((0 : Nat) : Int) = 0 from rfl] at eM
  rw [eq]
  simp (disch := omega) only [qaz, nth0, nth1, nth2, nth3, bit, qdu, qdv, qd6, qeb, qec, qed, qee, qef, qeg, qeh, qdw, qdx, qdy, qdz, qd0, qd1, qd2, qd3, qd4, qd5, qd7, qd8, qd9, qea, qo2, qo1, qo3, qlg, ql2, ql3, qh9, qa5, qod, nI, qet, qer, Bool.not_true, Bool.not_false, Bool.and_true, Bool.true_and, Bool.and_false, Bool.false_and, Bool.or_true, Bool.true_or, Bool.or_false, Bool.false_or, beq_self_eq_true, dTT, dFF, dT, dF, bigI, big0, qlf, qpp, qpq, List.length_set, List.length_replicate, Int.toNat_natCast, qds, qdt, imax, imin, e1, e2, e3, e4, g1, g2, g3]
  exact eM
end Go.Proofs.Ytcaapedadpnjoaa
end
section
namespace Go.Proofs.Ytcaapedadpnjoaa
open Go.Ev
set_option maxRecDepth 20000
theorem qap (a b : List Int) (i : Nat) : (a ++ b).getD (a.length + i) 0 = b.getD i 0 := by
  rw [List.getD_eq_getElem?_getD, List.getElem?_append_right (by omega), List.getD_eq_getElem?_getD]; congr 2; omega
theorem qjx (k : Nat) (hk : 2000000 ≤ k) (fu : List (Nat × Nat)) (q : Int) (hq : 1 ≤ q ∧ q ≤ 1000000) (v d : Int) (n : Nat) (j : Nat) (hj : j ≤ 100000) (hv : 0 ≤ v ∧ v ≤ 10000000) (hd : -10000000 ≤ d ∧ d ≤ 10000000) (hb : ∀ x ∈ steps v d n, 0 ≤ x ∧ x ≤ 10000000) (z : Bool) (l : List Int) (acc : List Int) (ha : acc.length ≤ 100000) (hn : n ≤ 100000) : ∀ (N i : Nat), i ≤ n → n - i < N →
    lp (k + 2) impl_DecompressList [] fu 12 (N) (qmg q (vN v d i) (j : Int) d (n : Int) (i : Int) z l false (acc ++ (steps v d i).map (fun x => q * x))) = lp (k + 2) impl_DecompressList [] fu 6 (fuelOf fu 6) (qmh q (vN v d n) ((j + 2 : Nat) : Int) z l false (acc ++ (steps v d n).map (fun x => q * x)))
  | 0, i, hi, hN => by omega
  | N + 1, i, hi, hN => by
    rw [qim]
    by_cases g : i < n
    · have IH := qjx k hk fu q hq v d n j hj hv hd hb z l acc ha hn N (i + 1) (by omega) (by omega)
      have b := hb _ (qoc v d n i g)
      rw [vN] at b
      have b' : inR (vN v d i + d) 0 10000000 = true := qh7.2 b
      have bv : -10000000 ≤ vN v d i ∧ vN v d i ≤ 20000000 := by omega
      have e : acc ++ (steps v d (i + 1)).map (fun x => q * x) = acc ++ (steps v d i).map (fun x => q * x) ++ [q * (vN v d i + d)] := by
        rw [steps, List.map_append, List.append_assoc]; rfl
      have p0 : 0 ≤ q * (vN v d i + d) := Int.mul_nonneg (by omega) b.1
      have p1 : q * (vN v d i + d) ≤ 1000000 * 10000000 := Int.mul_le_mul hq.2 b.2 b.1 (by omega)
      have la : (acc ++ (steps v d i).map (fun x => q * x) ++ [q * (vN v d i + d)]).length = acc.length + i + 1 := by
        rw [List.length_append, List.length_append, List.length_map, qob]; rfl
      rw [e, vN] at IH
      simp (disch := omega) only [qaz, nth0, nth1, nth2, nth3, bit, qdu, qdv, qd6, qeb, qec, qed, qee, qef, qeg, qeh, qdw, qdx, qdy, qdz, qd0, qd1, qd2, qd3, qd4, qd5, qd7, qd8, qd9, qea, qo2, qo1, qo3, qlg, ql2, ql3, qh9, qa5, qod, nI, qet, qer, Bool.not_true, Bool.not_false, Bool.and_true, Bool.true_and, Bool.and_false, Bool.false_and, Bool.or_true, Bool.true_or, Bool.or_false, Bool.false_or, beq_self_eq_true, dTT, dFF, dT, dF, bigI, big0, qlf, qpp, qpq, List.length_set, List.length_replicate, Int.toNat_natCast, qds, qdt, imax, imin, qbu, b', la, IH]
    · obtain rfl : i = n := by omega
      simp (disch := omega) only [qaz, nth0, nth1, nth2, nth3, bit, qdu, qdv, qd6, qeb, qec, qed, qee, qef, qeg, qeh, qdw, qdx, qdy, qdz, qd0, qd1, qd2, qd3, qd4, qd5, qd7, qd8, qd9, qea, qo2, qo1, qo3, qlg, ql2, ql3, qh9, qa5, qod, nI, qet, qer, Bool.not_true, Bool.not_false, Bool.and_true, Bool.true_and, Bool.and_false, Bool.false_and, Bool.or_true, Bool.true_or, Bool.or_false, Bool.false_or, beq_self_eq_true, dTT, dFF, dT, dF, bigI, big0, qlf, qpp, qpq, List.length_set, List.length_replicate, Int.toNat_natCast, qds, qdt, imax, imin]
theorem qjy (k : Nat) (hk : 2000000 ≤ k) (q : Int) (hq : 1 ≤ q ∧ q ≤ 1000000) (P : List Rn) (A : Alt P) (hp : ∀ r ∈ P, 1 ≤ r.1) (hb : ∀ r ∈ P, -10000000 ≤ r.2 ∧ r.2 ≤ 10000000) (hv : ∀ x ∈ vals 0 P, 0 ≤ x ∧ x ≤ 10000000) (hl : (vals 0 P).length ≤ 1000) (z : Bool) (hL : P.length ≤ 1000) : ∀ (N : Nat) (fu : List (Nat × Nat)) (P1 P2 : List Rn), P = P1 ++ P2 → P2.length < N → (0 ≤ endv 0 P1 ∧ endv 0 P1 ≤ 10000000) →
    lp (k + 2) impl_DecompressList [] fu 6 (N) (qmh q (endv 0 P1) ((2 * P1.length : Nat) : Int) z (flat P) false ((vals 0 P1).map (fun x => q * x))) = some [.arr true false (.ints .i64 ((vals 0 P).map (fun x => q * x))), .bool true]
  | 0, fu, P1, P2, hP, hN, h0 => by omega
  | N + 1, fu, P1, [], hP, hN, h0 => by
    rw [qin]
    rw [List.append_nil] at hP
    subst hP
    have fl := qhz P
    simp (disch := omega) only [qaz, nth0, nth1, nth2, nth3, bit, qdu, qdv, qd6, qeb, qec, qed, qee, qef, qeg, qeh, qdw, qdx, qdy, qdz, qd0, qd1, qd2, qd3, qd4, qd5, qd7, qd8, qd9, qea, qo2, qo1, qo3, qlg, ql2, ql3, qh9, qa5, qod, nI, qet, qer, Bool.not_true, Bool.not_false, Bool.and_true, Bool.true_and, Bool.and_false, Bool.false_and, Bool.or_true, Bool.true_or, Bool.or_false, Bool.false_or, beq_self_eq_true, dTT, dFF, dT, dF, bigI, big0, qlf, qpp, qpq, List.length_set, List.length_replicate, Int.toNat_natCast, qds, qdt, imax, imin, fl]
  | N + 1, fu, P1, r :: P2, hP, hN, h0 => by
    rw [qin]
    have fl := qhz P
    have pl : P.length = P1.length + P2.length + 1 := by rw [hP]; simp; omega
    have rP : r ∈ P := by rw [hP]; simp
    have r1 := hp r rP; have r2 := hb r rP
    have ev : vals 0 P = vals 0 P1 ++ (steps (endv 0 P1) r.2 r.1 ++ vals (vN (endv 0 P1) r.2 r.1) P2) := by rw [hP, qph]; rfl
    have evl : (vals 0 P1).length + (r.1 + (vals (vN (endv 0 P1) r.2 r.1) P2).length) ≤ 1000 := by
      rw [ev, List.length_append, List.length_append, qob] at hl; exact hl
    have fe : flat P = flat P1 ++ ((r.1 : Int) :: r.2 :: flat P2) := by rw [hP, qhy]; rfl
    have f1 := qhz P1
    have g0 : (flat P).getD (2 * P1.length) 0 = (r.1 : Int) := by
      have := qap (flat P1) ((r.1 : Int) :: r.2 :: flat P2) 0
      rw [f1, ← fe] at this; simpa using this
    have g1 : (flat P).getD (2 * P1.length + 1) 0 = r.2 := by
      have := qap (flat P1) ((r.1 : Int) :: r.2 :: flat P2) 1
      rw [f1, ← fe] at this; simpa using this
    have st : ∀ x ∈ steps (endv 0 P1) r.2 r.1, 0 ≤ x ∧ x ≤ 10000000 := fun x hx => hv x (by rw [ev]; exact List.mem_append_right _ (List.mem_append_left _ hx))
    have e12 := qjx k hk ((6, N) :: fu) q hq (endv 0 P1) r.2 r.1 (2 * P1.length) (by omega) h0 r2 st z (flat P) ((vals 0 P1).map (fun x => q * x)) (by rw [List.length_map]; omega) (by omega) (k + 2) 0 (by omega) (by omega)
    rw [qh1, show vN (endv 0 P1) r.2 0 = endv 0 P1 from rfl, show steps (endv 0 P1) r.2 0 = [] from rfl, List.map_nil, List.append_nil, show ((0 : Nat) : Int) = 0 from rfl] at e12
    have ee : endv 0 (P1 ++ [r]) = vN (endv 0 P1) r.2 r.1 := by rw [qht]; rfl
    have hee : 0 ≤ endv 0 (P1 ++ [r]) ∧ endv 0 (P1 ++ [r]) ≤ 10000000 := by
      rw [ee]
      have := st _ (qoc (endv 0 P1) r.2 r.1 (r.1 - 1) (by omega))
      rwa [show r.1 - 1 + 1 = r.1 by omega] at this
    have IH := qjy k hk q hq P A hp hb hv hl z hL N fu (P1 ++ [r]) P2 (by rw [hP]; simp) (by simp at hN; omega) hee
    rw [ee, qph, List.map_append, List.length_append, show vals (endv 0 P1) [r] = steps (endv 0 P1) r.2 r.1 ++ [] from rfl, List.append_nil, show 2 * (P1.length + [r].length) = 2 * P1.length + 2 by simp; omega] at IH
    have i1 : inR (r.1 : Int) 1 (1000 - ((vals 0 P1).length : Int)) = true := qh7.2 (by omega)
    have i2 : inR r.2 (-10000000) 10000000 = true := qh7.2 r2
    have lm : ((vals 0 P1).map (fun x => q * x)).length = (vals 0 P1).length := List.length_map ..
    have E := e12.trans IH
    by_cases h1 : P1.length = 0
    · simp (disch := omega) only [qaz, nth0, nth1, nth2, nth3, bit, qdu, qdv, qd6, qeb, qec, qed, qee, qef, qeg, qeh, qdw, qdx, qdy, qdz, qd0, qd1, qd2, qd3, qd4, qd5, qd7, qd8, qd9, qea, qo2, qo1, qo3, qlg, ql2, ql3, qh9, qa5, qod, nI, qet, qer, Bool.not_true, Bool.not_false, Bool.and_true, Bool.true_and, Bool.and_false, Bool.false_and, Bool.or_true, Bool.true_or, Bool.or_false, Bool.false_or, beq_self_eq_true, dTT, dFF, dT, dF, bigI, big0, qlf, qpp, qpq, List.length_set, List.length_replicate, Int.toNat_natCast, qds, qdt, imax, imin, fl, g0, g1, lm, qby, i1, i2]
      exact E
    · obtain ⟨Q, s, hQ⟩ := (qno P1).resolve_left (fun h => h1 (by rw [h]; rfl))
      have g2 : (flat P).getD (2 * P1.length - 1) 0 = s.2 := by
        have := qap (flat Q) ((s.1 : Int) :: s.2 :: (r.1 : Int) :: r.2 :: flat P2) 1
        rw [show flat Q ++ ((s.1 : Int) :: s.2 :: (r.1 : Int) :: r.2 :: flat P2) = flat P by rw [fe, hQ, qhy]; simp [flat], qhz] at this
        rw [show 2 * P1.length - 1 = 2 * Q.length + 1 by rw [hQ]; simp; omega, this]; rfl
      have ne : s.2 ≠ r.2 := A Q s r P2 (by rw [hP, hQ]; simp)
      have ne : ¬ r.2 = s.2 := fun h => ne h.symm
      have cm : ((2 * P1.length : Nat) : Int) - 1 = ((2 * P1.length - 1 : Nat) : Int) := by omega
      simp (disch := omega) only [qaz, nth0, nth1, nth2, nth3, bit, qdu, qdv, qd6, qeb, qec, qed, qee, qef, qeg, qeh, qdw, qdx, qdy, qdz, qd0, qd1, qd2, qd3, qd4, qd5, qd7, qd8, qd9, qea, qo2, qo1, qo3, qlg, ql2, ql3, qh9, qa5, qod, nI, qet, qer, Bool.not_true, Bool.not_false, Bool.and_true, Bool.true_and, Bool.and_false, Bool.false_and, Bool.or_true, Bool.true_or, Bool.or_false, Bool.false_or, beq_self_eq_true, dTT, dFF, dT, dF, bigI, big0, qlf, qpp, qpq, List.length_set, List.length_replicate, Int.toNat_natCast, qds, qdt, imax, imin, fl, g0, g1, lm, qby, i1, cm, g2, i2]
      exact E
theorem qbb (k : Nat) (hk : 2000000 ≤ k) (q : Int) (hq : inR q 1 1000000 = true) (m : List Int) (hm : ∀ x ∈ m, 0 ≤ x ∧ x ≤ 10000000) (hl : m.length ≤ 1000) (z : Bool) : go (k + 3) impl_DecompressList [.arr false z (.ints .i64 (comp q m 0 [])), .int .i64 q] = some [.arr true false (.ints .i64 (decM q m)), .bool true] := by
  have hq' := qh7.1 hq
  obtain ⟨P, last, e, C⟩ := qen q hq'.1 m hm
  have lv : (vals 0 P).length = m.length := by rw [C.v, List.length_map]
  have fl := qhz P
  have cl := qeo q m 0 []
  rw [e, fl] at cl
  simp only [List.length_nil] at cl
  have hv : ∀ x ∈ vals 0 P, 0 ≤ x ∧ x ≤ 10000000 := by
    rw [C.v]
    intro y hy
    obtain ⟨x, hx, rfl⟩ := List.mem_map.1 hy
    have a := hm x hx
    have b := ql1 a.1 hq'.1
    omega
  have e6 := qjy k hk q hq' P C.a C.p C.b hv (by omega) z (by omega) (k + 2) [] [] P rfl (by omega) (by decide)
  have te : Int.tmod ((2 * P.length : Nat) : Int) 2 = 0 := by rw [Int.tmod_eq_emod_of_nonneg (by omega)]; omega
  rw [show endv 0 [] = 0 from rfl, show vals 0 [] = [] from rfl, List.map_nil, show (2 * ([] : List Rn).length : Nat) = 0 from rfl, show ((0 : Nat) : Int) = 0 from rfl] at e6
  rw [e, qe5]
  simp (disch := omega) only [qaz, nth0, nth1, nth2, nth3, bit, qdu, qdv, qd6, qeb, qec, qed, qee, qef, qeg, qeh, qdw, qdx, qdy, qdz, qd0, qd1, qd2, qd3, qd4, qd5, qd7, qd8, qd9, qea, qo2, qo1, qo3, qlg, ql2, ql3, qh9, qa5, qod, nI, qet, qer, Bool.not_true, Bool.not_false, Bool.and_true, Bool.true_and, Bool.and_false, Bool.false_and, Bool.or_true, Bool.true_or, Bool.or_false, Bool.false_or, beq_self_eq_true, dTT, dFF, dT, dF, bigI, big0, qlf, qpp, qpq, List.length_set, List.length_replicate, Int.toNat_natCast, qds, qdt, imax, imin, qbv, hq, fl, te]
  rw [e6, C.v, List.map_map]
  rfl
abbrev frD (t r : Int) (z : Bool) (l : List Cell) (M T q : Int) (z' : Bool) (c : List Int) : D := .agg [.int .i64 t, .int .i64 r, .arr false z (.r3 l), .int .i64 M, .int .i64 T, .int .i64 q, .arr false z' (.ints .i64 c)]
theorem qe0 (q : Int) (m : List Int) : (decM q m).length = m.length := List.length_map ..
theorem qbh (k : Nat) (hk : 2000000 ≤ k) (t r : Int) (z z' : Bool) (l : List Cell) (M T q : Int) (m : List Int) (hq : inR q 1 1000000 = true) (hm : ∀ x ∈ m, 0 ≤ x ∧ x ≤ 10000000) (hl : l.length ≤ 128) (ml : m.length = l.length) (h : qk3 r 0 l = true) : go (k + 7) impl_ReadFrame [frD t r z l M T q z' (comp q m 0 [])] = some [.arr true false (.ints .i64 (decM q m)), .bool true] := by
  rw [qfe]
  have e := qbb (k + 3) (by omega) q hq m hm (by omega) z'
  have dl := qe0 q m
  simp (disch := omega) only [qaz, nth0, nth1, nth2, nth3, bit, qdu, qdv, qd6, qeb, qec, qed, qee, qef, qeg, qeh, qdw, qdx, qdy, qdz, qd0, qd1, qd2, qd3, qd4, qd5, qd7, qd8, qd9, qea, qo2, qo1, qo3, qlg, ql2, ql3, qh9, qa5, qod, nI, qet, qer, Bool.not_true, Bool.not_false, Bool.and_true, Bool.true_and, Bool.and_false, Bool.false_and, Bool.or_true, Bool.true_or, Bool.or_false, Bool.false_or, beq_self_eq_true, dTT, dFF, dT, dF, bigI, big0, qlf, qpp, qpq, List.length_set, List.length_replicate, Int.toNat_natCast, qds, qdt, imax, imin, e, qbf, h, dl]
theorem qbk (k : Nat) (hk : 2000000 ≤ k) (t r : Int) (z z' : Bool) (l : List Cell) (T q : Int) (m : List Int) (hq : inR q 1 1000000 = true) (hm : ∀ x ∈ m, 0 ≤ x ∧ x ≤ 10000000) (hl : l.length ≤ 128) (ml : m.length = l.length) (h : qk3 r 0 l = true) (hs : 0 ≤ isum m ∧ isum m ≤ 10000000) : go (k + 8) impl_TotalWithin [frD t r z l (isum m) T q z' (comp q m 0 [])] = some [.bool true] := by
  rw [qfj]
  have hq' := qh7.1 hq
  have e := qbh k (by omega) t r z z' l (isum m) T q m hq hm hl ml h
  have dl := qe0 q m
  have dm := qe1 q hq' m hm
  have dn := qe2 q hq'.1 m fun x hx => (hm x hx).1
  have eS := qbw (k + 6) (by omega) false (decM q m) (by omega) (fun x hx => by have := dm x hx; omega)
  have i1 : inR (isum m) (-1000000000000000) 1000000000000000 = true := qh7.2 (by omega)
  have sb := qif (decM q m) dm
  have b0 : 0 ≤ (m.length : Int) * q := Int.mul_nonneg (by omega) (by omega)
  have b1 : (m.length : Int) * q ≤ 128 * 1000000 := Int.mul_le_mul (by omega) (by omega) (by omega) (by omega)
  have td : Int.tdiv ((m.length : Int) * q) 2 = (m.length : Int) * q / 2 := Int.tdiv_eq_ediv_of_nonneg b0
  have fin : max (0 - (isum (decM q m) - isum m)) (isum (decM q m) - isum m) ≤ (m.length : Int) * q / 2 := by omega
  simp (disch := omega) only [qaz, nth0, nth1, nth2, nth3, bit, qdu, qdv, qd6, qeb, qec, qed, qee, qef, qeg, qeh, qdw, qdx, qdy, qdz, qd0, qd1, qd2, qd3, qd4, qd5, qd7, qd8, qd9, qea, qo2, qo1, qo3, qlg, ql2, ql3, qh9, qa5, qod, nI, qet, qer, Bool.not_true, Bool.not_false, Bool.and_true, Bool.true_and, Bool.and_false, Bool.false_and, Bool.or_true, Bool.true_or, Bool.or_false, Bool.false_or, beq_self_eq_true, dTT, dFF, dT, dF, bigI, big0, qlf, qpp, qpq, List.length_set, List.length_replicate, Int.toNat_natCast, qds, qdt, imax, imin, e, qby, i1, eS, qbn, dl, td]
abbrev frR (t r : Int) (l : List Cell) (M T q : Int) (c : List Int) : List RC := [RC.n t, RC.n r, RC.r3 false l, RC.n M, RC.n T, RC.n q, RC.is false c]
theorem rr0 (a b : List RC) : rrow [a, b] 0 = a := Eq.trans rfl rfl
theorem rr1 (a b : List RC) : rrow [a, b] 1 = b := Eq.trans rfl rfl
theorem rcF0 (t r : Int) (l : List Cell) (M T q : Int) (c : List Int) : rcAt (frR t r l M T q c) 0 = .n t := Eq.trans rfl rfl
theorem rcF1 (t r : Int) (l : List Cell) (M T q : Int) (c : List Int) : rcAt (frR t r l M T q c) 1 = .n r := Eq.trans rfl rfl
theorem rcF2 (t r : Int) (l : List Cell) (M T q : Int) (c : List Int) : rcAt (frR t r l M T q c) 2 = .r3 false l := Eq.trans rfl rfl
theorem rcF3 (t r : Int) (l : List Cell) (M T q : Int) (c : List Int) : rcAt (frR t r l M T q c) 3 = .n M := Eq.trans rfl rfl
theorem rcF4 (t r : Int) (l : List Cell) (M T q : Int) (c : List Int) : rcAt (frR t r l M T q c) 4 = .n T := Eq.trans rfl rfl
theorem rcF5 (t r : Int) (l : List Cell) (M T q : Int) (c : List Int) : rcAt (frR t r l M T q c) 5 = .n q := Eq.trans rfl rfl
theorem rcF6 (t r : Int) (l : List Cell) (M T q : Int) (c : List Int) : rcAt (frR t r l M T q c) 6 = .is false c := Eq.trans rfl rfl
theorem ngF (x : Int) : RC.num (.n x) = x := Eq.trans rfl rfl
theorem nzF (z : Bool) (l : List Cell) : RC.nil (.r3 z l) = z := Eq.trans rfl rfl
theorem nsF (z : Bool) (l : List Int) : RC.nil (.is z l) = z := Eq.trans rfl rfl
theorem r3F (z : Bool) (l : List Cell) : RC.r3s (.r3 z l) = l := Eq.trans rfl rfl
theorem isF (z : Bool) (l : List Int) : RC.ints (.is z l) = l := Eq.trans rfl rfl
end Go.Proofs.Ytcaapedadpnjoaa
end
section
namespace Go.Proofs.Ytcaapedadpnjoaa
open Go.Ev
theorem qfw (k : Nat) (az : Bool) (a : List Int) : go (k + 1) laws_big [(.arr false (az) (.ints IntKind.u8 (a)))] =
 some [(.bool (decide ((1048576 : Int) < nI (List.length a))))] := by kernel_rfl
theorem qhn (k : Nat) (v0 : Bool) (v1 : List Int) (v2 v3 : Int) : go (k + 1) spec_l18Plan [(.ptr true [(.arr false (v0) (.ints IntKind.u8 (v1))), (.int .i64 (v2)), (.int .i64 (v3))])] =
 (go k spec_l13Border [(.ptr true [(.arr false (v0) (.ints IntKind.u8 (v1))), (.int .i64 (v2)), (.int .i64 (v3))])]).bind fun r0 =>
 (go k spec_l01Below [(.ptr true [(.arr false (v0) (.ints IntKind.u8 (v1))), (.int .i64 (D.toInt (D.cell 1 (nth r0 1)))), (.int .i64 (D.toInt (D.cell 2 (nth r0 1))))]), (.int .i64 ((2 : Int)))]).bind fun r1 =>
 (go k spec_l01Below [(.ptr true [(.arr false (v0) (.ints IntKind.u8 (v1))), (.int .i64 (D.toInt (D.cell 1 (nth r1 1)))), (.int .i64 (D.toInt (D.cell 2 (nth r1 1))))]), (.int .i64 ((900 : Int)))]).bind fun r2 =>
 (go k spec_l01Below [(.ptr true [(.arr false (v0) (.ints IntKind.u8 (v1))), (.int .i64 (D.toInt (D.cell 1 (nth r2 1)))), (.int .i64 (D.toInt (D.cell 2 (nth r2 1))))]), (.int .i64 ((2 : Int)))]).bind fun r3 =>
 (go k spec_l01Below [(.ptr true [(.arr false (v0) (.ints IntKind.u8 (v1))), (.int .i64 (D.toInt (D.cell 1 (nth r3 1)))), (.int .i64 (D.toInt (D.cell 2 (nth r3 1))))]), (.int .i64 ((400 : Int)))]).bind fun r4 =>
 (go k spec_l01Below [(.ptr true [(.arr false (v0) (.ints IntKind.u8 (v1))), (.int .i64 (D.toInt (D.cell 1 (nth r4 1)))), (.int .i64 (D.toInt (D.cell 2 (nth r4 1))))]), (.int .i64 ((2 : Int)))]).bind fun r5 =>
 (go k spec_l01Below [(.ptr true [(.arr false (v0) (.ints IntKind.u8 (v1))), (.int .i64 (D.toInt (D.cell 1 (nth r5 1)))), (.int .i64 (D.toInt (D.cell 2 (nth r5 1))))]), (.int .i64 ((200 : Int)))]).bind fun r6 =>
 (go k spec_l01Below [(.ptr true [(.arr false (v0) (.ints IntKind.u8 (v1))), (.int .i64 (D.toInt (D.cell 1 (nth r6 1)))), (.int .i64 (D.toInt (D.cell 2 (nth r6 1))))]), (.int .i64 ((4000 : Int)))]).bind fun r7 =>
 (go k spec_l01Below [(.ptr true [(.arr false (v0) (.ints IntKind.u8 (v1))), (.int .i64 (D.toInt (D.cell 1 (nth r7 1)))), (.int .i64 (D.toInt (D.cell 2 (nth r7 1))))]), (.int .i64 ((300 : Int)))]).bind fun r8 =>
 (go k spec_l01Below [(.ptr true [(.arr false (v0) (.ints IntKind.u8 (v1))), (.int .i64 (D.toInt (D.cell 1 (nth r8 1)))), (.int .i64 (D.toInt (D.cell 2 (nth r8 1))))]), (.int .i64 ((3 : Int)))]).bind fun r9 =>
 some [(.agg [(.int .i64 (D.toInt (D.cell 0 (nth r0 0)))), (.int .i64 (D.toInt (D.cell 1 (nth r0 0)))), (.int .i64 (D.toInt (D.cell 2 (nth r0 0)))), (.int .i64 (IntKind.wrap .i64 (D.toInt (nth r1 0) * D.toInt (nth r2 0)))), (.int .i64 (IntKind.wrap .i64 (D.toInt (nth r3 0) * D.toInt (nth r4 0)))), (.int .i64 (IntKind.wrap .i64 (D.toInt (nth r5 0) * D.toInt (nth r6 0)))), (.int .i64 (IntKind.wrap .i64 ((200 : Int) + D.toInt (nth r7 0)))), (.int .i64 (D.toInt (nth r8 0))), (.int .i64 (D.toInt (nth r9 0)))]), (.ptr true [(.arr false (v0) (.ints IntKind.u8 (v1))), (.int .i64 (D.toInt (D.cell 1 (nth r9 1)))), (.int .i64 (D.toInt (D.cell 2 (nth r9 1))))])] := by kernel_rfl
theorem qhe (k : Nat) (v0 : Bool) (v1 : List Int) (v2 v3 : Int) : go (k + 1) spec_l13Border [(.ptr true [(.arr false (v0) (.ints IntKind.u8 (v1))), (.int .i64 (v2)), (.int .i64 (v3))])] =
 (go k spec_l01Below [(.ptr true [(.arr false (v0) (.ints IntKind.u8 (v1))), (.int .i64 (v2)), (.int .i64 (v3))]), (.int .i64 ((2 : Int)))]).bind fun r0 =>
 (go k spec_l01Below [(.ptr true [(.arr false (v0) (.ints IntKind.u8 (v1))), (.int .i64 (D.toInt (D.cell 1 (nth r0 1)))), (.int .i64 (D.toInt (D.cell 2 (nth r0 1))))]), (.int .i64 ((3000 : Int)))]).bind fun r1 =>
 (go k spec_l01Below [(.ptr true [(.arr false (v0) (.ints IntKind.u8 (v1))), (.int .i64 (D.toInt (D.cell 1 (nth r1 1)))), (.int .i64 (D.toInt (D.cell 2 (nth r1 1))))]), (.int .i64 ((1001 : Int)))]).bind fun r2 =>
 (go k spec_l01Below [(.ptr true [(.arr false (v0) (.ints IntKind.u8 (v1))), (.int .i64 (D.toInt (D.cell 1 (nth r2 1)))), (.int .i64 (D.toInt (D.cell 2 (nth r2 1))))]), (.int .i64 ((2 : Int)))]).bind fun r3 =>
 (go k spec_l01Below [(.ptr true [(.arr false (v0) (.ints IntKind.u8 (v1))), (.int .i64 (D.toInt (D.cell 1 (nth r3 1)))), (.int .i64 (D.toInt (D.cell 2 (nth r3 1))))]), (.int .i64 ((251 : Int)))]).bind fun r4 =>
 some [(.agg [(.int .i64 (IntKind.wrap .i64 (D.toInt (nth r0 0) * D.toInt (nth r1 0)))), (.int .i64 (D.toInt (nth r2 0))), (.int .i64 (IntKind.wrap .i64 (D.toInt (nth r3 0) * D.toInt (nth r4 0))))]), (.ptr true [(.arr false (v0) (.ints IntKind.u8 (v1))), (.int .i64 (D.toInt (D.cell 1 (nth r4 1)))), (.int .i64 (D.toInt (D.cell 2 (nth r4 1))))])] := by kernel_rfl
def qmr (x0 x1 : Int) (z2 : Bool) (l3 : List Int) (x4 x5 x6 x7 x8 x9 x10 x11 x12 : Int) : St := ⟨fill 32 [(0, (.sl 0 none)), (3, (.int .i64 (x0))), (4, (.int .i64 (x1)))], [(.sl 0 none), .un, (.ptr 1 (0) (0)), (.sl 0 none), .un, .un], [(.arr false (z2) (.ints IntKind.u8 (l3))), (.box true [(.int .i64 (x4)), (.int .i64 (x5)), (.int .i64 (x6)), (.int .i64 (x7)), (.int .i64 (x8)), (.int .i64 (x9)), (.int .i64 (x10)), (.int .i64 (x11)), (.int .i64 (x12))])]⟩
theorem qf5 (k : Nat) (az : Bool) (a : List Int) : go (k + 1) spec_DrawPlan [(.arr false (az) (.ints IntKind.u8 (a)))] =
 lp k spec_DrawPlan [] [] 4200003 k (qmr (IntKind.wrap .i64 ((98231 : Int) + nI (List.length a))) (0 : Int) az a (0 : Int) (0 : Int) (0 : Int) (0 : Int) (0 : Int) (0 : Int) (0 : Int) (0 : Int) (0 : Int)) := by kernel_rfl
theorem qix (k n : Nat) (fu : List (Nat × Nat)) (x0 x1 : Int) (z2 : Bool) (l3 : List Int) (x4 x5 x6 x7 x8 x9 x10 x11 x12 : Int) : lp k spec_DrawPlan [] fu 4200003 (n + 1) (qmr x0 x1 z2 l3 x4 x5 x6 x7 x8 x9 x10 x11 x12) =
 cond (decide (x1 < nI (List.length l3)))
 (cond (decide (x1 < (4000 : Int)))
 (cond (decide ((0 : Int) ≤ x1) && decide (x1 < nI (List.length l3)))
 (lp k spec_DrawPlan [] fu 4200003 n (qmr (bitN BinOp.and .i64 (IntKind.wrap .i64 (IntKind.wrap .i64 (IntKind.wrap .i64 (x0 * (131 : Int)) + IntKind.wrap .i64 (List.getD l3 (Int.toNat x1) (0 : Int))) + (7 : Int))) (1073741823 : Int)) (IntKind.wrap .i64 (x1 + (1 : Int))) z2 l3 x4 x5 x6 x7 x8 x9 x10 x11 x12))
 (none))
 ((go k spec_l18Plan [(.ptr true [(.arr false (z2) (.ints IntKind.u8 (l3))), (.int .i64 (0 : Int)), (.int .i64 (x0))])]).bind fun r0 =>
 some [(.agg [(.int .i64 (D.toInt (D.cell 0 (nth r0 0)))), (.int .i64 (D.toInt (D.cell 1 (nth r0 0)))), (.int .i64 (D.toInt (D.cell 2 (nth r0 0)))), (.int .i64 (D.toInt (D.cell 3 (nth r0 0)))), (.int .i64 (D.toInt (D.cell 4 (nth r0 0)))), (.int .i64 (D.toInt (D.cell 5 (nth r0 0)))), (.int .i64 (D.toInt (D.cell 6 (nth r0 0)))), (.int .i64 (D.toInt (D.cell 7 (nth r0 0)))), (.int .i64 (D.toInt (D.cell 8 (nth r0 0))))])]))
 ((go k spec_l18Plan [(.ptr true [(.arr false (z2) (.ints IntKind.u8 (l3))), (.int .i64 (0 : Int)), (.int .i64 (x0))])]).bind fun r1 =>
 some [(.agg [(.int .i64 (D.toInt (D.cell 0 (nth r1 0)))), (.int .i64 (D.toInt (D.cell 1 (nth r1 0)))), (.int .i64 (D.toInt (D.cell 2 (nth r1 0)))), (.int .i64 (D.toInt (D.cell 3 (nth r1 0)))), (.int .i64 (D.toInt (D.cell 4 (nth r1 0)))), (.int .i64 (D.toInt (D.cell 5 (nth r1 0)))), (.int .i64 (D.toInt (D.cell 6 (nth r1 0)))), (.int .i64 (D.toInt (D.cell 7 (nth r1 0)))), (.int .i64 (D.toInt (D.cell 8 (nth r1 0))))])]) := by kernel_rfl

end Go.Proofs.Ytcaapedadpnjoaa
end
section
namespace Go.Proofs.Ytcaapedadpnjoaa
open Go.Ev
theorem qf1 (k : Nat) (a0 a1 a2 : Int) : go (k + 1) spec_BorderOk [(.agg [(.int .i64 (a0)), (.int .i64 (a1)), (.int .i64 (a2))])] =
 (go k spec_l01In [(.int .i64 (a0)), (.int .i64 (0 : Int)), (.int .i64 ((10000 : Int)))]).bind fun r0 =>
 cond (bit (nth r0 0))
 ((go k spec_l01In [(.int .i64 (a1)), (.int .i64 (0 : Int)), (.int .i64 ((1000 : Int)))]).bind fun r1 =>
 cond (bit (nth r1 0))
 ((go k spec_l01In [(.int .i64 (a2)), (.int .i64 (0 : Int)), (.int .i64 ((250 : Int)))]).bind fun r2 =>
 some [(.bool (bit (nth r2 0)))])
 (some [(.bool (false))]))
 (some [(.bool (false))]) := by kernel_rfl
theorem qgg (k : Nat) (a0 a1 a2 a3 a4 a5 a6 a7 a8 : Int) : go (k + 1) spec_PlanOk [(.agg [(.int .i64 (a0)), (.int .i64 (a1)), (.int .i64 (a2)), (.int .i64 (a3)), (.int .i64 (a4)), (.int .i64 (a5)), (.int .i64 (a6)), (.int .i64 (a7)), (.int .i64 (a8))])] =
 (go k spec_BorderOk [(.agg [(.int .i64 (a0)), (.int .i64 (a1)), (.int .i64 (a2))])]).bind fun r0 =>
 cond (bit (nth r0 0))
 ((go k spec_l01In [(.int .i64 (a3)), (.int .i64 (0 : Int)), (.int .i64 ((10000 : Int)))]).bind fun r1 =>
 cond (bit (nth r1 0))
 ((go k spec_l01In [(.int .i64 (a4)), (.int .i64 (0 : Int)), (.int .i64 ((10000 : Int)))]).bind fun r2 =>
 cond (bit (nth r2 0))
 ((go k spec_l01In [(.int .i64 (a5)), (.int .i64 (0 : Int)), (.int .i64 ((1000 : Int)))]).bind fun r3 =>
 cond (bit (nth r3 0))
 ((go k spec_l01In [(.int .i64 (a6)), (.int .i64 (0 : Int)), (.int .i64 ((1000000 : Int)))]).bind fun r4 =>
 cond (bit (nth r4 0))
 ((go k spec_l01In [(.int .i64 (a7)), (.int .i64 (0 : Int)), (.int .i64 ((1000000 : Int)))]).bind fun r5 =>
 cond (bit (nth r5 0))
 ((go k spec_l01In [(.int .i64 (a8)), (.int .i64 (0 : Int)), (.int .i64 ((100 : Int)))]).bind fun r6 =>
 some [(.bool (bit (nth r6 0)))])
 (some [(.bool (false))]))
 (some [(.bool (false))]))
 (some [(.bool (false))]))
 (some [(.bool (false))]))
 (some [(.bool (false))]))
 (some [(.bool (false))]) := by kernel_rfl

end Go.Proofs.Ytcaapedadpnjoaa
end
section
namespace Go.Proofs.Ytcaapedadpnjoaa
open Go.Ev
def qa6 (a b c : Int) : Bool := inR a 0 10000 && (inR b 0 1000 && inR c 0 250)
theorem qb2 (k : Nat) (hk : 2000000 ≤ k) (a0 : Int) (a1 : Int) (a2 : Int) : go (k + 2) spec_BorderOk [(.agg [(.int .i64 (a0)), (.int .i64 (a1)), (.int .i64 (a2))])] = some [.bool (qa6 a0 a1 a2)] := by
  rw [qf1]
  simp (disch := omega) only [qaz, nth0, nth1, nth2, nth3, bit, qdu, qdv, qd6, qeb, qec, qed, qee, qef, qeg, qeh, qdw, qdx, qdy, qdz, qd0, qd1, qd2, qd3, qd4, qd5, qd7, qd8, qd9, qea, qo2, qo1, qo3, qlg, ql2, ql3, qh9, qa5, qod, nI, qet, qer, Bool.not_true, Bool.not_false, Bool.and_true, Bool.true_and, Bool.and_false, Bool.false_and, Bool.or_true, Bool.true_or, Bool.or_false, Bool.false_or, beq_self_eq_true, dTT, dFF, dT, dF, bigI, big0, qlf, qpp, qpq, List.length_set, List.length_replicate, Int.toNat_natCast, qds, qdt, imax, imin, qct, qev]
  rfl
def qlu (a0 a1 a2 a3 a4 a5 a6 a7 a8 : Int) : Bool := qa6 a0 a1 a2 && (inR a3 0 10000 && (inR a4 0 10000 && (inR a5 0 1000 && (inR a6 0 1000000 && (inR a7 0 1000000 && inR a8 0 100)))))
theorem qch (k : Nat) (hk : 2000000 ≤ k) (a0 : Int) (a1 : Int) (a2 : Int) (a3 : Int) (a4 : Int) (a5 : Int) (a6 : Int) (a7 : Int) (a8 : Int) : go (k + 3) spec_PlanOk [(.agg [(.int .i64 (a0)), (.int .i64 (a1)), (.int .i64 (a2)), (.int .i64 (a3)), (.int .i64 (a4)), (.int .i64 (a5)), (.int .i64 (a6)), (.int .i64 (a7)), (.int .i64 (a8))])] = some [.bool (qlu a0 a1 a2 a3 a4 a5 a6 a7 a8)] := by
  rw [qgg]
  simp (disch := omega) only [qaz, nth0, nth1, nth2, nth3, bit, qdu, qdv, qd6, qeb, qec, qed, qee, qef, qeg, qeh, qdw, qdx, qdy, qdz, qd0, qd1, qd2, qd3, qd4, qd5, qd7, qd8, qd9, qea, qo2, qo1, qo3, qlg, ql2, ql3, qh9, qa5, qod, nI, qet, qer, Bool.not_true, Bool.not_false, Bool.and_true, Bool.true_and, Bool.and_false, Bool.false_and, Bool.or_true, Bool.true_or, Bool.or_false, Bool.false_or, beq_self_eq_true, dTT, dFF, dT, dF, bigI, big0, qlf, qpp, qpq, List.length_set, List.length_replicate, Int.toNat_natCast, qds, qdt, imax, imin, qct, qb2, qev]
  rfl
end Go.Proofs.Ytcaapedadpnjoaa
end
section
namespace Go.Proofs.Ytcaapedadpnjoaa
open Go.Ev
def qjj (a b c d : Int) : Bool := inR a 0 1000000000000000 && (inR b 0 1000000000000000 && (inR c 0 1000000000000000 && inR d 0 1000000000000000))
def qpo (a0 : Int) (a1 : List Cell) (a2 a3 a4 : List Int) (b0 b1 b2 b3 b4 b5 b6 b7 b8 s c0 c1 c2 c3 f g : Int) : Bool :=
  stOk a0 a1 a2 a3 a4 && (qlu b0 b1 b2 b3 b4 b5 b6 b7 b8 && (inR s 0 100000 && (qjj c0 c1 c2 c3 && (decide (isum a2 - c0 + c1 = f) && decide (isum a3 - c2 + c3 = g)))))
end Go.Proofs.Ytcaapedadpnjoaa
end
section
namespace Go.Proofs.Ytcaapedadpnjoaa
open Go.Ev
set_option maxRecDepth 20000
structure Wd where
  r : Int
  s : S3
  b : List Int
  p : Pl
  k : Int
  ld : Ld
  f : Int
  g : Int
def wdOk (w : Wd) : Bool := qpo w.r w.s.1 w.s.2.1 w.s.2.2 w.b w.p.bi w.p.bs w.p.bo w.p.rain w.p.loss w.p.dec w.p.high w.p.low w.p.every w.k w.ld.mi w.ld.mo w.ld.ti w.ld.ou w.f w.g
structure LdB (l : Ld) (B : Int) : Prop where
  mi : 0 ≤ l.mi ∧ l.mi ≤ B
  mo : 0 ≤ l.mo ∧ l.mo ≤ B
  ti : 0 ≤ l.ti ∧ l.ti ≤ B
  ou : 0 ≤ l.ou ∧ l.ou ≤ B
end Go.Proofs.Ytcaapedadpnjoaa
end
section
namespace Go.Proofs.Ytcaapedadpnjoaa
open Go.Ev
set_option maxRecDepth 20000
structure Good (w : Wd) (K : Nat) : Prop where
  F : StF w.r w.s.1 w.s.2.1 w.s.2.2 w.b
  p : qlu w.p.bi w.p.bs w.p.bo w.p.rain w.p.loss w.p.dec w.p.high w.p.low w.p.every = true
  k : 0 ≤ w.k ∧ w.k ≤ K
  L : LdB w.ld (40000000000 * K)
  f : isum w.s.2.1 - w.ld.mi + w.ld.mo = w.f
  g : isum w.s.2.2 - w.ld.ti + w.ld.ou = w.g
theorem Good.ok {w : Wd} {K : Nat} (G : Good w K) (hK : K ≤ 10000) : wdOk w = true := by
  have a := G.k; have b1 := G.L.mi; have b2 := G.L.mo; have b3 := G.L.ti; have b4 := G.L.ou
  unfold wdOk qpo qjj
  simp only [Bool.and_eq_true, decide_eq_true_eq]
  exact ⟨stF.2 G.F, G.p, qh7.2 (by omega), ⟨qh7.2 (by omega), qh7.2 (by omega), qh7.2 (by omega), qh7.2 (by omega)⟩, G.f, G.g⟩
end Go.Proofs.Ytcaapedadpnjoaa
end
section
namespace Go.Proofs.Ytcaapedadpnjoaa
open Go.Ev
set_option maxRecDepth 20000
theorem qky : ∀ (m t : List Int) (x y : Int), m.length = t.length → qku m t = true → 0 ≤ x → x ≤ 10000000 → 0 ≤ y → y ≤ 1000 * x → qku (m ++ [x]) (t ++ [y]) = true
  | [], [], x, y, _, _, h1, h2, h3, h4 => by simp only [List.nil_append, qku, Bool.and_eq_true, qh7]; exact ⟨⟨h1, h2⟩, ⟨h3, h4⟩, trivial⟩
  | [], _ :: _, _, _, h, _, _, _, _, _ => by simp at h
  | _ :: _, [], _, _, h, _, _, _, _, _ => by simp at h
  | a :: m, b :: t, x, y, hl, h, h1, h2, h3, h4 => by
    simp only [List.cons_append, qku, Bool.and_eq_true] at h ⊢
    exact ⟨h.1, h.2.1, qky m t x y (by simpa using hl) h.2.2 h1 h2 h3 h4⟩
theorem qay : ∀ (a : List Int) (x : Int), qaw a = true → 0 ≤ x → x ≤ 1000000 → qaw (a ++ [x]) = true
  | [], x, _, h1, h2 => by simp only [List.nil_append, qaw, Bool.and_eq_true, qh7]; exact ⟨⟨h1, h2⟩, trivial⟩
  | a :: l, x, h, h1, h2 => by
    simp only [List.cons_append, qaw, Bool.and_eq_true] at h ⊢
    exact ⟨h.1, qay l x h.2 h1 h2⟩
theorem qkm (k : Nat) (hk : 2000000 ≤ k) (fu : List (Nat × Nat)) (v0 : Bool) (v1 : List Int) (v2 v3 : Int) (x0 : Int) (hx : 1 ≤ x0) (hx' : x0 ≤ 20000) (z : Bool) (l : List Int) (hl : (l.length : Int) ≤ 1048576) (z6 : Bool) (l7 : List Cell) (z8 : Bool) (l9 : List Int) (z10 : Bool) (l11 : List Int) (z12 : Bool) (l13 : List Int) (x14 : Int) (c : List Cell) (hc : 1 ≤ c.length) (hc' : c.length ≤ 128) (x17 : Int) (bd : List Int) (r : Int) :
    ∀ (n t : Nat) (i h : Int) (zm zt : Bool) (m tr : List Int), t ≤ c.length → c.length - t < n → 0 ≤ i → i ≤ l.length → (zm = false ∨ t = 0) → (zt = false ∨ t = 0) → m.length = t → tr.length = t → qku m tr = true → isum m ≤ 20000 * t →
    ∃ (m' t' : List Int) (i' h' : Int), lp (k + 10) spec_l07State [(.ptr true [(.arr false (v0) (.ints IntKind.u8 (v1))), (.int .i64 (v2)), (.int .i64 (v3))])] fu 9 (n) (qm1 x0 (t : Int) z l i h z6 l7 z8 l9 z10 l11 z12 l13 x14 false c x17 zm m zt tr false bd r) = some [.agg [.int .i64 (r), .arr true (false) (.r3 (c)), .arr true (false) (.ints .i64 (m')), .arr true (false) (.ints .i64 (t')), .arr true (false) (.ints .i64 (bd))], .ptr true [.arr false (z) (.ints .u8 (l)), .int .i64 (i'), .int .i64 (h')]] ∧ (0 ≤ i' ∧ i' ≤ l.length) ∧ m'.length = c.length ∧ t'.length = c.length ∧ qku m' t' = true ∧ isum m' ≤ 2560000
  | 0, t, i, h, zm, zt, m, tr, ht, hn, h0, h1, hzm, hzt, lm, lt, ok, sm => by omega
  | n + 1, t, i, h, zm, zt, m, tr, ht, hn, h0, h1, hzm, hzt, lm, lt, ok, sm => by
    have e := qi7 (k + 10) n fu v0 v1 v2 v3 x0 (t : Int) z l i h z6 l7 z8 l9 z10 l11 z12 l13 x14 false c x17 zm m zt tr false bd r
    by_cases g : t < c.length
    · have la : ∀ x : Int, (m ++ [x]).length = t + 1 := fun x => by rw [List.length_append, lm]; rfl
      have lb : ∀ x : Int, (tr ++ [x]).length = t + 1 := fun x => by rw [List.length_append, lt]; rfl
      have step : ∀ (x y : Int), 0 ≤ x → x < 20000 → 0 ≤ y → y ≤ 1000 * x → ∀ (i2 k2 : Int), 0 ≤ i2 → i2 ≤ l.length → _ := fun x y hx0 hx1 hy0 hy1 i2 k2 hi0 hi1 =>
        qkm k hk fu v0 v1 v2 v3 x0 hx hx' z l hl z6 l7 z8 l9 z10 l11 z12 l13 x14 c hc hc' x17 bd r n (t + 1) i2 k2 false false (m ++ [x]) (tr ++ [y]) (by omega) (by omega) hi0 hi1 (Or.inl rfl) (Or.inl rfl) (la x) (lb y) (qky m tr x y (by omega) ok (by omega) (by omega) hy0 hy1) (by rw [qib]; simp only [isum]; omega)
      obtain ⟨u1, i1, k1, e1, b1, q1, r1⟩ := qcr (k + 8) (by omega) z l i h x0 hl h0 h1 hx (by omega)
      obtain ⟨u2, i2, k2, e2, q2, r2⟩ := qcu (k + 7) (by omega) z l i1 k1 6 hl q1 r1 (by omega) (by omega)
      cases u2
      · obtain ⟨u3, i3, k3, e3, b3, q3, r3⟩ := qcr (k + 8) (by omega) z l i2 k2 200 hl q2 r2 (by omega) (by omega)
        obtain ⟨u4, i4, k4, e4, b4, q4, r4⟩ := qcr (k + 8) (by omega) z l i3 k3 (u1 + 1) hl q3 r3 (by omega) (by omega)
        have p0 : 0 ≤ u1 * u3 := Int.mul_nonneg b1.1 b3.1
        have p1 : u1 * u3 ≤ u1 * 199 := Int.mul_le_mul_of_nonneg_left (by omega) b1.1
        obtain ⟨m', t', i', h', e5, p5⟩ := step u1 (u1 * u3 + u4) (by omega) (by omega) (by omega) (by omega) i4 k4 q4 r4
        simp (disch := omega) only [qaz, nth0, nth1, nth2, nth3, bit, qdu, qdv, qd6, qeb, qec, qed, qee, qef, qeg, qeh, qdw, qdx, qdy, qdz, qd0, qd1, qd2, qd3, qd4, qd5, qd7, qd8, qd9, qea, qo2, qo1, qo3, qlg, ql2, ql3, qh9, qa5, qod, nI, qet, qer, Bool.not_true, Bool.not_false, Bool.and_true, Bool.true_and, Bool.and_false, Bool.false_and, Bool.or_true, Bool.true_or, Bool.or_false, Bool.false_or, beq_self_eq_true, dTT, dFF, dT, dF, bigI, big0, qlf, qpp, qpq, List.length_set, List.length_replicate, Int.toNat_natCast, qds, qdt, imax, imin, e1, qlw, qlx, qly, e2, e3, e4, la, lb, e5] at e
        exact ⟨m', t', i', h', e, p5⟩
      · obtain ⟨u0, i0, k0, e0, b0, q0, r0⟩ := qcr (k + 8) (by omega) z l i2 k2 3 hl q2 r2 (by omega) (by omega)
        obtain ⟨u3, i3, k3, e3, b3, q3, r3⟩ := qcr (k + 8) (by omega) z l i0 k0 200 hl q0 r0 (by omega) (by omega)
        obtain ⟨u4, i4, k4, e4, b4, q4, r4⟩ := qcr (k + 8) (by omega) z l i3 k3 (u0 + 1) hl q3 r3 (by omega) (by omega)
        have p0 : 0 ≤ u0 * u3 := Int.mul_nonneg b0.1 b3.1
        have p1 : u0 * u3 ≤ u0 * 199 := Int.mul_le_mul_of_nonneg_left (by omega) b0.1
        obtain ⟨m', t', i', h', e5, p5⟩ := step u0 (u0 * u3 + u4) (by omega) (by omega) (by omega) (by omega) i4 k4 q4 r4
        simp (disch := omega) only [qaz, nth0, nth1, nth2, nth3, bit, qdu, qdv, qd6, qeb, qec, qed, qee, qef, qeg, qeh, qdw, qdx, qdy, qdz, qd0, qd1, qd2, qd3, qd4, qd5, qd7, qd8, qd9, qea, qo2, qo1, qo3, qlg, ql2, ql3, qh9, qa5, qod, nI, qet, qer, Bool.not_true, Bool.not_false, Bool.and_true, Bool.true_and, Bool.and_false, Bool.false_and, Bool.or_true, Bool.true_or, Bool.or_false, Bool.false_or, beq_self_eq_true, dTT, dFF, dT, dF, bigI, big0, qlf, qpp, qpq, List.length_set, List.length_replicate, Int.toNat_natCast, qds, qdt, imax, imin, e1, qlw, qlx, qly, e2, e0, e3, e4, la, lb, e5] at e
        exact ⟨m', t', i', h', e, p5⟩
    · have : zm = false := by rcases hzm with h | h <;> omega
      subst this
      have : zt = false := by rcases hzt with h | h <;> omega
      subst this
      simp (disch := omega) only [qaz, nth0, nth1, nth2, nth3, bit, qdu, qdv, qd6, qeb, qec, qed, qee, qef, qeg, qeh, qdw, qdx, qdy, qdz, qd0, qd1, qd2, qd3, qd4, qd5, qd7, qd8, qd9, qea, qo2, qo1, qo3, qlg, ql2, ql3, qh9, qa5, qod, nI, qet, qer, Bool.not_true, Bool.not_false, Bool.and_true, Bool.true_and, Bool.and_false, Bool.false_and, Bool.or_true, Bool.true_or, Bool.or_false, Bool.false_or, beq_self_eq_true, dTT, dFF, dT, dF, bigI, big0, qlf, qpp, qpq, List.length_set, List.length_replicate, Int.toNat_natCast, qds, qdt, imax, imin] at e
      exact ⟨m, tr, i, h, e, ⟨h0, h1⟩, by omega, by omega, ok, by omega⟩
theorem qkl (k : Nat) (hk : 2000000 ≤ k) (fu : List (Nat × Nat)) (v0 : Bool) (v1 : List Int) (v2 v3 : Int) (z : Bool) (l : List Int) (hl : (l.length : Int) ≤ 1048576) (z6 : Bool) (l7 : List Cell) (z8 : Bool) (l9 : List Int) (z10 : Bool) (l11 : List Int) (z12 : Bool) (l13 : List Int) (x14 : Int) (c : List Cell) (R : Nat) (hR : 1 ≤ R) (hR' : R ≤ 3) (hm : qk3 R 0 c = true) (hu : unb c < 0) :
    ∀ (n t : Nat) (i h : Int) (zb : Bool) (bd : List Int), t ≤ R → R - t < n → 0 ≤ i → i ≤ l.length → (zb = false ∨ t = 0) → bd.length = t → qaw bd = true →
    ∃ (m' t' bd' : List Int) (i' h' : Int), lp (k + 10) spec_l07State [(.ptr true [(.arr false (v0) (.ints IntKind.u8 (v1))), (.int .i64 (v2)), (.int .i64 (v3))])] fu 4 (n) (qm0 (t : Int) z l i h z6 l7 z8 l9 z10 l11 z12 l13 x14 false c (R : Int) true [] true [] zb bd (R : Int)) = some [.agg [.int .i64 ((R : Int)), .arr true (false) (.r3 (c)), .arr true (false) (.ints .i64 (m')), .arr true (false) (.ints .i64 (t')), .arr true (false) (.ints .i64 (bd'))], .ptr true [.arr false (z) (.ints .u8 (l)), .int .i64 (i'), .int .i64 (h')]] ∧ (0 ≤ i' ∧ i' ≤ l.length) ∧ StF (R : Int) c m' t' bd' ∧ isum m' ≤ 2560000
  | 0, t, i, h, zb, bd, ht, hn, h0, h1, hz, lb, ok => by omega
  | n + 1, t, i, h, zb, bd, ht, hn, h0, h1, hz, lb, ok => by
    have e := qi6 (k + 10) n fu v0 v1 v2 v3 (t : Int) z l i h z6 l7 z8 l9 z10 l11 z12 l13 x14 false c (R : Int) true [] true [] zb bd (R : Int)
    by_cases g : t < R
    · have la : ∀ x : Int, (bd ++ [x]).length = t + 1 := fun x => by rw [List.length_append, lb]; rfl
      obtain ⟨u1, i1, k1, e1, b1, q1, r1⟩ := qcr (k + 8) (by omega) z l i h 4 hl h0 h1 (by omega) (by omega)
      obtain ⟨u2, i2, k2, e2, b2, q2, r2⟩ := qcr (k + 8) (by omega) z l i1 k1 5000 hl q1 r1 (by omega) (by omega)
      have p0 : 0 ≤ u1 * u2 := Int.mul_nonneg b1.1 b2.1
      have p1 : u1 * u2 ≤ u1 * 4999 := Int.mul_le_mul_of_nonneg_left (by omega) b1.1
      obtain ⟨m', t', bd', i', h', e5, p5⟩ := qkl k hk fu v0 v1 v2 v3 z l hl z6 l7 z8 l9 z10 l11 z12 l13 x14 c R hR hR' hm hu n (t + 1) i2 k2 false (bd ++ [u1 * u2]) (by omega) (by omega) q2 r2 (Or.inl rfl) (la _) (qay bd _ ok p0 (by omega))
      simp (disch := omega) only [qaz, nth0, nth1, nth2, nth3, bit, qdu, qdv, qd6, qeb, qec, qed, qee, qef, qeg, qeh, qdw, qdx, qdy, qdz, qd0, qd1, qd2, qd3, qd4, qd5, qd7, qd8, qd9, qea, qo2, qo1, qo3, qlg, ql2, ql3, qh9, qa5, qod, nI, qet, qer, Bool.not_true, Bool.not_false, Bool.and_true, Bool.true_and, Bool.and_false, Bool.false_and, Bool.or_true, Bool.true_or, Bool.or_false, Bool.false_or, beq_self_eq_true, dTT, dFF, dT, dF, bigI, big0, qlf, qpp, qpq, List.length_set, List.length_replicate, Int.toNat_natCast, qds, qdt, imax, imin, e1, qlw, qlx, qly, e2, la, e5] at e
      exact ⟨m', t', bd', i', h', e, p5⟩
    · have : zb = false := by rcases hz with h | h <;> omega
      subst this
      obtain ⟨u1, i1, k1, e1, b1, q1, r1⟩ := qcr (k + 8) (by omega) z l i h 20000 hl h0 h1 (by omega) (by omega)
      have ml := qk8 hm
      obtain ⟨m', t', i', h', e5, p5, lm, lt, mk, sm⟩ := qkm k hk fu v0 v1 v2 v3 (1 + u1) (by omega) (by omega) z l hl z6 l7 z8 l9 z10 l11 z12 l13 x14 c ml.1 ml.2 (R : Int) bd (R : Int) (k + 10) 0 i1 k1 true true [] [] (by omega) (by omega) q1 r1 (Or.inr rfl) (Or.inr rfl) rfl rfl rfl (by simp [isum])
      rw [show ((0 : Nat) : Int) = 0 from rfl] at e5
      simp (disch := omega) only [qaz, nth0, nth1, nth2, nth3, bit, qdu, qdv, qd6, qeb, qec, qed, qee, qef, qeg, qeh, qdw, qdx, qdy, qdz, qd0, qd1, qd2, qd3, qd4, qd5, qd7, qd8, qd9, qea, qo2, qo1, qo3, qlg, ql2, ql3, qh9, qa5, qod, nI, qet, qer, Bool.not_true, Bool.not_false, Bool.and_true, Bool.true_and, Bool.and_false, Bool.false_and, Bool.or_true, Bool.true_or, Bool.or_false, Bool.false_or, beq_self_eq_true, dTT, dFF, dT, dF, bigI, big0, qlf, qpp, qpq, List.length_set, List.length_replicate, Int.toNat_natCast, qds, qdt, imax, imin, e1, qlw, qlx, qly, e5] at e
      exact ⟨m', t', bd, i', h', e, p5, ⟨hm, hu, lm, lt, by omega, mk, ok, by omega⟩, sm⟩
theorem qc7 (k : Nat) (hk : 2000000 ≤ k) (z : Bool) (l : List Int) (i h : Int) (hl : (l.length : Int) ≤ 1048576) (h0 : 0 ≤ i) (h1 : i ≤ l.length) :
    ∃ (r : Int) (c : List Cell) (m t b : List Int) (i' h' : Int), go (k + 11) spec_l07State [.ptr true [.arr false (z) (.ints .u8 (l)), .int .i64 (i), .int .i64 (h)]] = some [.agg [.int .i64 (r), .arr true (false) (.r3 (c)), .arr true (false) (.ints .i64 (m)), .arr true (false) (.ints .i64 (t)), .arr true (false) (.ints .i64 (b))], .ptr true [.arr false (z) (.ints .u8 (l)), .int .i64 (i'), .int .i64 (h')]] ∧ (0 ≤ i' ∧ i' ≤ l.length) ∧ StF r c m t b ∧ r ≤ 3 ∧ isum m ≤ 2560000 := by
  have e := qg3 (k + 10) z l i h
  obtain ⟨r, c, i1, k1, e1, q1, hm, hu, r3⟩ := qc2 k (by omega) z l i h hl h0 h1
  have rr := (qk7 _ _ _ hm).1
  obtain ⟨R, rfl⟩ : ∃ R : Nat, r = (R : Int) := ⟨r.toNat, by omega⟩
  obtain ⟨m', t', bd', i', h', e5, p5, S, sm⟩ := qkl k hk [] z l i h z l hl true [] true [] true [] true [] 0 c R (by omega) (by omega) hm hu (k + 10) 0 i1 k1 true [] (by omega) (by omega) q1.1 q1.2 (Or.inr rfl) rfl rfl
  rw [show ((0 : Nat) : Int) = 0 from rfl] at e5
  simp (disch := omega) only [qaz, nth0, nth1, nth2, nth3, bit, qdu, qdv, qd6, qeb, qec, qed, qee, qef, qeg, qeh, qdw, qdx, qdy, qdz, qd0, qd1, qd2, qd3, qd4, qd5, qd7, qd8, qd9, qea, qo2, qo1, qo3, qlg, ql2, ql3, qh9, qa5, qod, nI, qet, qer, Bool.not_true, Bool.not_false, Bool.and_true, Bool.true_and, Bool.and_false, Bool.false_and, Bool.or_true, Bool.true_or, Bool.or_false, Bool.false_or, beq_self_eq_true, dTT, dFF, dT, dF, bigI, big0, qlf, qpp, qpq, List.length_set, List.length_replicate, Int.toNat_natCast, qds, qdt, imax, imin, e1, qlw, qlx, qly, e5] at e
  exact ⟨_, _, _, _, _, _, _, e, p5, S, r3, sm⟩
theorem qj9 (k : Nat) (hk : 2000000 ≤ k) (fu : List (Nat × Nat)) (z : Bool) (l : List Int) (hl : (l.length : Int) ≤ 1048576) (z4 : Bool) (l5 : List Cell) (z6 : Bool) (l7 : List Int) (z8 : Bool) (l9 : List Int) (z10 : Bool) (l11 : List Int) (x12 : Int) :
    ∀ (n t : Nat) (h : Int), t ≤ l.length → l.length - t < n →
    ∃ (r : Int) (c : List Cell) (m t' b : List Int), lp (k + 11) spec_DrawState [] fu 4200003 (n) (qms h (t : Int) z l z4 l5 z6 l7 z8 l9 z10 l11 x12) = some [.agg [.int .i64 (r), .arr true (false) (.r3 (c)), .arr true (false) (.ints .i64 (m)), .arr true (false) (.ints .i64 (t')), .arr true (false) (.ints .i64 (b))]] ∧ StF r c m t' b ∧ r ≤ 3 ∧ isum m ≤ 2560000
  | 0, t, h, ht, hn => by omega
  | n + 1, t, h, ht, hn => by
    have e := qiy (k + 11) n fu h (t : Int) z l z4 l5 z6 l7 z8 l9 z10 l11 x12
    obtain ⟨r, c, m, t', b, i1, h1, e1, p1, S1, r3⟩ := qc7 k (by omega) z l 0 h hl (by omega) (by omega)
    by_cases g : t < l.length
    · by_cases g2 : (t : Int) < 4000
      · simp (disch := omega) only [qaz, nth0, nth1, nth2, nth3, bit, qdu, qdv, qd6, qeb, qec, qed, qee, qef, qeg, qeh, qdw, qdx, qdy, qdz, qd0, qd1, qd2, qd3, qd4, qd5, qd7, qd8, qd9, qea, qo2, qo1, qo3, qlg, ql2, ql3, qh9, qa5, qod, nI, qet, qer, Bool.not_true, Bool.not_false, Bool.and_true, Bool.true_and, Bool.and_false, Bool.false_and, Bool.or_true, Bool.true_or, Bool.or_false, Bool.false_or, beq_self_eq_true, dTT, dFF, dT, dF, bigI, big0, qlf, qpp, qpq, List.length_set, List.length_replicate, Int.toNat_natCast, qds, qdt, imax, imin] at e
        obtain ⟨r, c, m, t', b, e3, p3⟩ := qj9 k hk fu z l hl z4 l5 z6 l7 z8 l9 z10 l11 x12 n (t + 1) _ (by omega) (by omega)
        exact ⟨r, c, m, t', b, e.trans e3, p3⟩
      · simp (disch := omega) only [qaz, nth0, nth1, nth2, nth3, bit, qdu, qdv, qd6, qeb, qec, qed, qee, qef, qeg, qeh, qdw, qdx, qdy, qdz, qd0, qd1, qd2, qd3, qd4, qd5, qd7, qd8, qd9, qea, qo2, qo1, qo3, qlg, ql2, ql3, qh9, qa5, qod, nI, qet, qer, Bool.not_true, Bool.not_false, Bool.and_true, Bool.true_and, Bool.and_false, Bool.false_and, Bool.or_true, Bool.true_or, Bool.or_false, Bool.false_or, beq_self_eq_true, dTT, dFF, dT, dF, bigI, big0, qlf, qpp, qpq, List.length_set, List.length_replicate, Int.toNat_natCast, qds, qdt, imax, imin, e1, qlw, qlx, qly] at e
        exact ⟨_, _, _, _, _, e, S1, r3⟩
    · simp (disch := omega) only [qaz, nth0, nth1, nth2, nth3, bit, qdu, qdv, qd6, qeb, qec, qed, qee, qef, qeg, qeh, qdw, qdx, qdy, qdz, qd0, qd1, qd2, qd3, qd4, qd5, qd7, qd8, qd9, qea, qo2, qo1, qo3, qlg, ql2, ql3, qh9, qa5, qod, nI, qet, qer, Bool.not_true, Bool.not_false, Bool.and_true, Bool.true_and, Bool.and_false, Bool.false_and, Bool.or_true, Bool.true_or, Bool.or_false, Bool.false_or, beq_self_eq_true, dTT, dFF, dT, dF, bigI, big0, qlf, qpp, qpq, List.length_set, List.length_replicate, Int.toNat_natCast, qds, qdt, imax, imin, e1, qlw, qlx, qly] at e
      exact ⟨_, _, _, _, _, e, S1, r3⟩
theorem qb7 (k : Nat) (hk : 2000000 ≤ k) (z : Bool) (l : List Int) (hl : (l.length : Int) ≤ 1048576) :
    ∃ (r : Int) (c : List Cell) (m t b : List Int), go (k + 12) spec_DrawState [.arr false z (.ints .u8 l)] = some [.agg [.int .i64 (r), .arr true (false) (.r3 (c)), .arr true (false) (.ints .i64 (m)), .arr true (false) (.ints .i64 (t)), .arr true (false) (.ints .i64 (b))]] ∧ StF r c m t b ∧ r ≤ 3 ∧ isum m ≤ 2560000 := by
  have e := qf6 (k + 11) z l
  obtain ⟨r, c, m, t, b, e3, p3⟩ := qj9 k hk [] z l hl true [] true [] true [] true [] 0 (k + 11) 0 (IntKind.wrap .i64 (98231 + nI l.length)) (by omega) (by omega)
  rw [show ((0 : Nat) : Int) = 0 from rfl] at e3
  exact ⟨r, c, m, t, b, e.trans e3, p3⟩
def qad (p : List Int) : Prop := p.length = 12 ∧ ∀ x ∈ p, 0 ≤ x ∧ x < 10000
theorem qj7 (k : Nat) (hk : 2000000 ≤ k) (fu : List (Nat × Nat)) (z : Bool) (l : List Int) (hl : (l.length : Int) ≤ 1048576) :
    ∀ (n t : Nat) (i h : Int) (q : Bool) (p : List Int), t ≤ 12 → 12 - t < n → 0 ≤ i → i ≤ l.length → q = false → p.length = t → (∀ x ∈ p, 0 ≤ x ∧ x < 10000) →
    ∃ p' : List Int, lp (k + 2) spec_DrawPlaces [] fu 4 (n) (qmp (t : Int) z l i h q p) = some [.arr true false (.ints .i64 p')] ∧ qad p'
  | 0, t, i, h, q, p, ht, hn, h0, h1, hq, hp, hx => by omega
  | n + 1, t, i, h, q, p, ht, hn, h0, h1, hq, hp, hx => by
    have e := qiv (k + 2) n fu (t : Int) z l i h q p
    subst hq
    by_cases g : t < 12
    · have la : ∀ x : Int, (p ++ [x]).length = t + 1 := fun x => by rw [List.length_append, hp]; rfl
      obtain ⟨u1, i1, k1, e1, b1, q1, r1⟩ := qcr k (by omega) z l i h 10000 hl h0 h1 (by omega) (by omega)
      obtain ⟨p', e2, p2⟩ := qj7 k hk fu z l hl n (t + 1) i1 k1 false (p ++ [u1]) (by omega) (by omega) q1 r1 rfl (la _) (fun x hx' => by
        rcases List.mem_append.1 hx' with h | h
        · exact hx x h
        · rw [List.mem_singleton] at h; omega)
      simp (disch := omega) only [qaz, nth0, nth1, nth2, nth3, bit, qdu, qdv, qd6, qeb, qec, qed, qee, qef, qeg, qeh, qdw, qdx, qdy, qdz, qd0, qd1, qd2, qd3, qd4, qd5, qd7, qd8, qd9, qea, qo2, qo1, qo3, qlg, ql2, ql3, qh9, qa5, qod, nI, qet, qer, Bool.not_true, Bool.not_false, Bool.and_true, Bool.true_and, Bool.and_false, Bool.false_and, Bool.or_true, Bool.true_or, Bool.or_false, Bool.false_or, beq_self_eq_true, dTT, dFF, dT, dF, bigI, big0, qlf, qpp, qpq, List.length_set, List.length_replicate, Int.toNat_natCast, qds, qdt, imax, imin, e1, qlw, qlx, qly, la, e2] at e
      exact ⟨p', e, p2⟩
    · simp (disch := omega) only [qaz, nth0, nth1, nth2, nth3, bit, qdu, qdv, qd6, qeb, qec, qed, qee, qef, qeg, qeh, qdw, qdx, qdy, qdz, qd0, qd1, qd2, qd3, qd4, qd5, qd7, qd8, qd9, qea, qo2, qo1, qo3, qlg, ql2, ql3, qh9, qa5, qod, nI, qet, qer, Bool.not_true, Bool.not_false, Bool.and_true, Bool.true_and, Bool.and_false, Bool.false_and, Bool.or_true, Bool.true_or, Bool.or_false, Bool.false_or, beq_self_eq_true, dTT, dFF, dT, dF, bigI, big0, qlf, qpp, qpq, List.length_set, List.length_replicate, Int.toNat_natCast, qds, qdt, imax, imin] at e
      exact ⟨p, e, by omega, hx⟩
theorem qj6 (k : Nat) (hk : 2000000 ≤ k) (fu : List (Nat × Nat)) (z : Bool) (l : List Int) (hl : (l.length : Int) ≤ 1048576) (z4 : Bool) (l5 : List Int) :
    ∀ (n t : Nat) (h : Int), t ≤ l.length → l.length - t < n →
    ∃ p : List Int, lp (k + 2) spec_DrawPlaces [] fu 4200003 (n) (qmq h (t : Int) z l z4 l5) = some [.arr true false (.ints .i64 p)] ∧ qad p
  | 0, t, h, ht, hn => by omega
  | n + 1, t, h, ht, hn => by
    have e := qiw (k + 2) n fu h (t : Int) z l z4 l5
    obtain ⟨p, e1, p1⟩ := qj7 k hk fu z l hl (k + 2) 0 0 h false [] (by omega) (by omega) (by omega) (by omega) rfl rfl (fun x hx => by cases hx)
    rw [show ((0 : Nat) : Int) = 0 from rfl] at e1
    by_cases g : t < l.length
    · by_cases g2 : (t : Int) < 4000
      · simp (disch := omega) only [qaz, nth0, nth1, nth2, nth3, bit, qdu, qdv, qd6, qeb, qec, qed, qee, qef, qeg, qeh, qdw, qdx, qdy, qdz, qd0, qd1, qd2, qd3, qd4, qd5, qd7, qd8, qd9, qea, qo2, qo1, qo3, qlg, ql2, ql3, qh9, qa5, qod, nI, qet, qer, Bool.not_true, Bool.not_false, Bool.and_true, Bool.true_and, Bool.and_false, Bool.false_and, Bool.or_true, Bool.true_or, Bool.or_false, Bool.false_or, beq_self_eq_true, dTT, dFF, dT, dF, bigI, big0, qlf, qpp, qpq, List.length_set, List.length_replicate, Int.toNat_natCast, qds, qdt, imax, imin] at e
        obtain ⟨p, e3, p3⟩ := qj6 k hk fu z l hl z4 l5 n (t + 1) _ (by omega) (by omega)
        exact ⟨p, e.trans e3, p3⟩
      · simp (disch := omega) only [qaz, nth0, nth1, nth2, nth3, bit, qdu, qdv, qd6, qeb, qec, qed, qee, qef, qeg, qeh, qdw, qdx, qdy, qdz, qd0, qd1, qd2, qd3, qd4, qd5, qd7, qd8, qd9, qea, qo2, qo1, qo3, qlg, ql2, ql3, qh9, qa5, qod, nI, qet, qer, Bool.not_true, Bool.not_false, Bool.and_true, Bool.true_and, Bool.and_false, Bool.false_and, Bool.or_true, Bool.true_or, Bool.or_false, Bool.false_or, beq_self_eq_true, dTT, dFF, dT, dF, bigI, big0, qlf, qpp, qpq, List.length_set, List.length_replicate, Int.toNat_natCast, qds, qdt, imax, imin, e1] at e
        exact ⟨_, e, p1⟩
    · simp (disch := omega) only [qaz, nth0, nth1, nth2, nth3, bit, qdu, qdv, qd6, qeb, qec, qed, qee, qef, qeg, qeh, qdw, qdx, qdy, qdz, qd0, qd1, qd2, qd3, qd4, qd5, qd7, qd8, qd9, qea, qo2, qo1, qo3, qlg, ql2, ql3, qh9, qa5, qod, nI, qet, qer, Bool.not_true, Bool.not_false, Bool.and_true, Bool.true_and, Bool.and_false, Bool.false_and, Bool.or_true, Bool.true_or, Bool.or_false, Bool.false_or, beq_self_eq_true, dTT, dFF, dT, dF, bigI, big0, qlf, qpp, qpq, List.length_set, List.length_replicate, Int.toNat_natCast, qds, qdt, imax, imin, e1] at e
      exact ⟨_, e, p1⟩
theorem qb5 (k : Nat) (hk : 2000000 ≤ k) (z : Bool) (l : List Int) (hl : (l.length : Int) ≤ 1048576) :
    ∃ p : List Int, go (k + 3) spec_DrawPlaces [.arr false z (.ints .u8 l)] = some [.arr true false (.ints .i64 p)] ∧ qad p := by
  have e := qf4 (k + 2) z l
  obtain ⟨p, e3, p3⟩ := qj6 k hk [] z l hl true [] (k + 2) 0 (IntKind.wrap .i64 (98231 + nI l.length)) (by omega) (by omega)
  rw [show ((0 : Nat) : Int) = 0 from rfl] at e3
  exact ⟨p, e.trans e3, p3⟩
end Go.Proofs.Ytcaapedadpnjoaa
end
section
namespace Go.Proofs.Ytcaapedadpnjoaa
open Go.Ev
set_option maxRecDepth 20000
theorem qbz (k : Nat) (hk : 2000000 ≤ k) (z : Bool) (l : List Int) : go (k + 1) laws_big [.arr false z (.ints .u8 l)] = some [.bool (decide (1048576 < (l.length : Int)))] := by
  rw [qfw]
theorem qle {u v B : Int} (hu : 0 ≤ u ∧ u < 2) (hv : 0 ≤ v ∧ v < B) : 0 ≤ u * v ∧ u * v < B := by
  have h1 : 0 ≤ u * v := Int.mul_nonneg hu.1 hv.1
  have h2 : u * v ≤ 1 * v := Int.mul_le_mul_of_nonneg_right (by omega) hv.1
  omega
theorem qdg (k : Nat) (hk : 2000000 ≤ k) (z : Bool) (l : List Int) (i h : Int) (hl : (l.length : Int) ≤ 1048576) (h0 : 0 ≤ i) (h1 : i ≤ l.length) :
    ∃ (b0 b1 b2 i' h' : Int), go (k + 3) spec_l13Border [.ptr true [.arr false (z) (.ints .u8 (l)), .int .i64 (i), .int .i64 (h)]] = some [.agg [.int .i64 b0, .int .i64 b1, .int .i64 b2], .ptr true [.arr false (z) (.ints .u8 (l)), .int .i64 (i'), .int .i64 (h')]] ∧ (0 ≤ i' ∧ i' ≤ l.length) ∧ qa6 b0 b1 b2 = true ∧ b0 ≤ 3000 := by
  have e := qhe (k + 2) z l i h
  obtain ⟨u1, i1, k1, e1, b1, q1, r1⟩ := qcr k (by omega) z l i h 2 hl h0 h1 (by omega) (by omega)
  obtain ⟨u2, i2, k2, e2, b2, q2, r2⟩ := qcr k (by omega) z l i1 k1 3000 hl q1 r1 (by omega) (by omega)
  obtain ⟨u3, i3, k3, e3, b3, q3, r3⟩ := qcr k (by omega) z l i2 k2 1001 hl q2 r2 (by omega) (by omega)
  obtain ⟨u4, i4, k4, e4, b4, q4, r4⟩ := qcr k (by omega) z l i3 k3 2 hl q3 r3 (by omega) (by omega)
  obtain ⟨u5, i5, k5, e5, b5, q5, r5⟩ := qcr k (by omega) z l i4 k4 251 hl q4 r4 (by omega) (by omega)
  have m1 := qle b1 b2; have m2 := qle b4 b5
  simp (disch := omega) only [qaz, nth0, nth1, nth2, nth3, bit, qdu, qdv, qd6, qeb, qec, qed, qee, qef, qeg, qeh, qdw, qdx, qdy, qdz, qd0, qd1, qd2, qd3, qd4, qd5, qd7, qd8, qd9, qea, qo2, qo1, qo3, qlg, ql2, ql3, qh9, qa5, qod, nI, qet, qer, Bool.not_true, Bool.not_false, Bool.and_true, Bool.true_and, Bool.and_false, Bool.false_and, Bool.or_true, Bool.true_or, Bool.or_false, Bool.false_or, beq_self_eq_true, dTT, dFF, dT, dF, bigI, big0, qlf, qpp, qpq, List.length_set, List.length_replicate, Int.toNat_natCast, qds, qdt, imax, imin, e1, e2, e3, e4, e5, qlw, qlx, qly] at e
  exact ⟨_, _, _, _, _, e, ⟨q5, r5⟩, by simp only [qa6, Bool.and_eq_true, qh7]; omega, by omega⟩
structure PlD (p : Pl) : Prop where
  ok : qlu p.bi p.bs p.bo p.rain p.loss p.dec p.high p.low p.every = true
  bi : p.bi ≤ 3000
  rain : p.rain ≤ 900
theorem qdl (k : Nat) (hk : 2000000 ≤ k) (z : Bool) (l : List Int) (i h : Int) (hl : (l.length : Int) ≤ 1048576) (h0 : 0 ≤ i) (h1 : i ≤ l.length) :
    ∃ (p : Pl) (i' h' : Int), go (k + 4) spec_l18Plan [.ptr true [.arr false (z) (.ints .u8 (l)), .int .i64 (i), .int .i64 (h)]] = some [plD p, .ptr true [.arr false (z) (.ints .u8 (l)), .int .i64 (i'), .int .i64 (h')]] ∧ (0 ≤ i' ∧ i' ≤ l.length) ∧ PlD p := by
  have e := qhn (k + 3) z l i h
  obtain ⟨c0, c1, c2, i1, k1, e1, ⟨q1, r1⟩, hb, hc⟩ := qdg k (by omega) z l i h hl h0 h1
  obtain ⟨u2, i2, k2, e2, b2, q2, r2⟩ := qcr (k + 1) (by omega) z l i1 k1 2 hl q1 r1 (by omega) (by omega)
  obtain ⟨u3, i3, k3, e3, b3, q3, r3⟩ := qcr (k + 1) (by omega) z l i2 k2 900 hl q2 r2 (by omega) (by omega)
  obtain ⟨u4, i4, k4, e4, b4, q4, r4⟩ := qcr (k + 1) (by omega) z l i3 k3 2 hl q3 r3 (by omega) (by omega)
  obtain ⟨u5, i5, k5, e5, b5, q5, r5⟩ := qcr (k + 1) (by omega) z l i4 k4 400 hl q4 r4 (by omega) (by omega)
  obtain ⟨u6, i6, k6, e6, b6, q6, r6⟩ := qcr (k + 1) (by omega) z l i5 k5 2 hl q5 r5 (by omega) (by omega)
  obtain ⟨u7, i7, k7, e7, b7, q7, r7⟩ := qcr (k + 1) (by omega) z l i6 k6 200 hl q6 r6 (by omega) (by omega)
  obtain ⟨u8, i8, k8, e8, b8, q8, r8⟩ := qcr (k + 1) (by omega) z l i7 k7 4000 hl q7 r7 (by omega) (by omega)
  obtain ⟨u9, i9, k9, e9, b9, q9, r9⟩ := qcr (k + 1) (by omega) z l i8 k8 300 hl q8 r8 (by omega) (by omega)
  obtain ⟨u10, i10, k10, e10, b10, q10, r10⟩ := qcr (k + 1) (by omega) z l i9 k9 3 hl q9 r9 (by omega) (by omega)
  have m1 := qle b2 b3; have m2 := qle b4 b5; have m3 := qle b6 b7
  simp (disch := omega) only [qaz, nth0, nth1, nth2, nth3, bit, qdu, qdv, qd6, qeb, qec, qed, qee, qef, qeg, qeh, qdw, qdx, qdy, qdz, qd0, qd1, qd2, qd3, qd4, qd5, qd7, qd8, qd9, qea, qo2, qo1, qo3, qlg, ql2, ql3, qh9, qa5, qod, nI, qet, qer, Bool.not_true, Bool.not_false, Bool.and_true, Bool.true_and, Bool.and_false, Bool.false_and, Bool.or_true, Bool.true_or, Bool.or_false, Bool.false_or, beq_self_eq_true, dTT, dFF, dT, dF, bigI, big0, qlf, qpp, qpq, List.length_set, List.length_replicate, Int.toNat_natCast, qds, qdt, imax, imin, e1, e2, e3, e4, e5, e6, e7, e8, e9, e10, qlw, qlx, qly] at e
  refine ⟨⟨c0, c1, c2, u2 * u3, u4 * u5, u6 * u7, 200 + u8, u9, u10⟩, _, _, e, ⟨q10, r10⟩, ⟨?_, hc, by show u2 * u3 ≤ 900; omega⟩⟩
  simp only [qlu, Bool.and_eq_true, qh7]; exact ⟨hb, by omega, by omega, by omega, by omega, by omega, by omega⟩
theorem qj8 (k : Nat) (hk : 2000000 ≤ k) (fu : List (Nat × Nat)) (z : Bool) (l : List Int) (hl : (l.length : Int) ≤ 1048576) (x4 x5 x6 x7 x8 x9 x10 x11 x12 : Int) :
    ∀ (n t : Nat) (h : Int), t ≤ l.length → l.length - t < n →
    ∃ (p : Pl), lp (k + 4) spec_DrawPlan [] fu 4200003 (n) (qmr h (t : Int) z l x4 x5 x6 x7 x8 x9 x10 x11 x12) = some [plD p] ∧ PlD p
  | 0, t, h, ht, hn => by omega
  | n + 1, t, h, ht, hn => by
    have e := qix (k + 4) n fu h (t : Int) z l x4 x5 x6 x7 x8 x9 x10 x11 x12
    obtain ⟨p, i1, h1, e1, q1, p1⟩ := qdl k (by omega) z l 0 h hl (by omega) (by omega)
    by_cases g : t < l.length
    · by_cases g2 : (t : Int) < 4000
      · simp (disch := omega) only [qaz, nth0, nth1, nth2, nth3, bit, qdu, qdv, qd6, qeb, qec, qed, qee, qef, qeg, qeh, qdw, qdx, qdy, qdz, qd0, qd1, qd2, qd3, qd4, qd5, qd7, qd8, qd9, qea, qo2, qo1, qo3, qlg, ql2, ql3, qh9, qa5, qod, nI, qet, qer, Bool.not_true, Bool.not_false, Bool.and_true, Bool.true_and, Bool.and_false, Bool.false_and, Bool.or_true, Bool.true_or, Bool.or_false, Bool.false_or, beq_self_eq_true, dTT, dFF, dT, dF, bigI, big0, qlf, qpp, qpq, List.length_set, List.length_replicate, Int.toNat_natCast, qds, qdt, imax, imin] at e
        obtain ⟨p, e3, p3⟩ := qj8 k hk fu z l hl x4 x5 x6 x7 x8 x9 x10 x11 x12 n (t + 1) _ (by omega) (by omega)
        exact ⟨p, e.trans e3, p3⟩
      · simp (disch := omega) only [qaz, nth0, nth1, nth2, nth3, bit, qdu, qdv, qd6, qeb, qec, qed, qee, qef, qeg, qeh, qdw, qdx, qdy, qdz, qd0, qd1, qd2, qd3, qd4, qd5, qd7, qd8, qd9, qea, qo2, qo1, qo3, qlg, ql2, ql3, qh9, qa5, qod, nI, qet, qer, Bool.not_true, Bool.not_false, Bool.and_true, Bool.true_and, Bool.and_false, Bool.false_and, Bool.or_true, Bool.true_or, Bool.or_false, Bool.false_or, beq_self_eq_true, dTT, dFF, dT, dF, bigI, big0, qlf, qpp, qpq, List.length_set, List.length_replicate, Int.toNat_natCast, qds, qdt, imax, imin, e1, qlw, qlx, qly] at e
        exact ⟨p, e, p1⟩
    · simp (disch := omega) only [qaz, nth0, nth1, nth2, nth3, bit, qdu, qdv, qd6, qeb, qec, qed, qee, qef, qeg, qeh, qdw, qdx, qdy, qdz, qd0, qd1, qd2, qd3, qd4, qd5, qd7, qd8, qd9, qea, qo2, qo1, qo3, qlg, ql2, ql3, qh9, qa5, qod, nI, qet, qer, Bool.not_true, Bool.not_false, Bool.and_true, Bool.true_and, Bool.and_false, Bool.false_and, Bool.or_true, Bool.true_or, Bool.or_false, Bool.false_or, beq_self_eq_true, dTT, dFF, dT, dF, bigI, big0, qlf, qpp, qpq, List.length_set, List.length_replicate, Int.toNat_natCast, qds, qdt, imax, imin, e1, qlw, qlx, qly] at e
      exact ⟨p, e, p1⟩
theorem qb6 (k : Nat) (hk : 2000000 ≤ k) (z : Bool) (l : List Int) (hl : (l.length : Int) ≤ 1048576) :
    ∃ (p : Pl), go (k + 5) spec_DrawPlan [.arr false z (.ints .u8 l)] = some [plD p] ∧ PlD p := by
  have e := qf5 (k + 4) z l
  obtain ⟨p, e3, p3⟩ := qj8 k hk [] z l hl 0 0 0 0 0 0 0 0 0 (k + 4) 0 (IntKind.wrap .i64 (98231 + nI l.length)) (by omega) (by omega)
  rw [show ((0 : Nat) : Int) = 0 from rfl] at e3
  exact ⟨p, e.trans e3, p3⟩
end Go.Proofs.Ytcaapedadpnjoaa
end
section
namespace Go.Proofs.Ytcaapedadpnjoaa
open Go.Ev
set_option maxRecDepth 20000
theorem qlt {p : Pl} (h : qlu p.bi p.bs p.bo p.rain p.loss p.dec p.high p.low p.every = true) : PlF p := by
  simp only [qlu, qa6, Bool.and_eq_true, qh7] at h
  exact ⟨by omega, by omega, by omega, by omega, by omega, by omega, by omega, by omega, by omega⟩
end Go.Proofs.Ytcaapedadpnjoaa
end
section
namespace Go.Proofs.Ytcaapedadpnjoaa
open Go.Ev
set_option maxRecDepth 20000
abbrev ZF : List RK := [.n, .n, .r3, .n, .n, .n, .is]
structure FrH (r q : Int) (l : List Cell) (m : List Int) : Prop where
  hq : inR q 1 1000000 = true
  hm : ∀ x ∈ m, 0 ≤ x ∧ x ≤ 10000000
  hl : l.length ≤ 128
  ml : m.length = l.length
  h : qk3 r 0 l = true
theorem FrH.of {r q : Int} {l : List Cell} {m t b : List Int} (F : StF r l m t b) (hq : inR q 1 1000000 = true) : FrH r q l m := by
  have L := F.len
  exact ⟨hq, F.m7, by omega, F.ml, F.mesh⟩
theorem tn0 : Int.toNat 0 = 0 := Eq.trans rfl rfl
theorem tn1 : Int.toNat 1 = 1 := Eq.trans rfl rfl
theorem gl0 (x : Int × Int × Int × Int) : List.getD [x] 0 zz4 = x := Eq.trans rfl rfl
theorem ln1 (x : Int × Int × Int × Int) : (([x].length : Nat) : Int) = 1 := Eq.trans rfl rfl
theorem ln2 (a b : List RC) : (([a, b].length : Nat) : Int) = 2 := Eq.trans rfl rfl
theorem fh_0 (k : Nat) (hk : 2000000 ≤ k) (r q : Int) (l0 l1 : List Cell) (m0 m1 : List Int) (M0 T0 M1 T1 : Int) (H0 : FrH r q l0 m0) (x : Int × Int × Int × Int) (N : Nat) :
    lp (k + 7) impl_FramesHold [] [] 4 (N + 1) (qmi 2 0 false [frR 0 r l0 M0 T0 q (comp q m0 0 []), frR 1 r l1 M1 T1 q (comp q m1 0 [])] false [x]) = lp (k + 7) impl_FramesHold [] [] 4 (N) (qmi 2 1 false [frR 0 r l0 M0 T0 q (comp q m0 0 []), frR 1 r l1 M1 T1 q (comp q m1 0 [])] false [x]) := by
  rw [qio]
  have e := qbh k (by omega) 0 r false false l0 M0 T0 q m0 H0.hq H0.hm H0.hl H0.ml H0.h
  simp (disch := omega) only [qaz, nth0, nth1, nth2, nth3, bit, qdu, qdv, qd6, qeb, qec, qed, qee, qef, qeg, qeh, qdw, qdx, qdy, qdz, qd0, qd1, qd2, qd3, qd4, qd5, qd7, qd8, qd9, qea, qo2, qo1, qo3, qlg, ql2, ql3, qh9, qa5, qod, nI, qet, qer, Bool.not_true, Bool.not_false, Bool.and_true, Bool.true_and, Bool.and_false, Bool.false_and, Bool.or_true, Bool.true_or, Bool.or_false, Bool.false_or, beq_self_eq_true, dTT, dFF, dT, dF, bigI, big0, qlf, qpp, qpq, List.length_set, List.length_replicate, Int.toNat_natCast, qds, qdt, imax, imin, ln2, tn0, rr0, rcF0, rcF1, rcF2, rcF3, rcF4, rcF5, rcF6, ngF, nzF, nsF, r3F, isF, e, Int.zero_add]
theorem fh_2 (k : Nat) (hk : 2000000 ≤ k) (a b : List RC) (x : Int × Int × Int × Int) (N : Nat) : lp (k + 7) impl_FramesHold [] [] 4 (N + 1) (qmi 2 2 false [a, b] false [x]) = some [.bool true] := by
  rw [qio]
  simp (disch := omega) only [qaz, nth0, nth1, nth2, nth3, bit, qdu, qdv, qd6, qeb, qec, qed, qee, qef, qeg, qeh, qdw, qdx, qdy, qdz, qd0, qd1, qd2, qd3, qd4, qd5, qd7, qd8, qd9, qea, qo2, qo1, qo3, qlg, ql2, ql3, qh9, qa5, qod, nI, qet, qer, Bool.not_true, Bool.not_false, Bool.and_true, Bool.true_and, Bool.and_false, Bool.false_and, Bool.or_true, Bool.true_or, Bool.or_false, Bool.false_or, beq_self_eq_true, dTT, dFF, dT, dF, bigI, big0, qlf, qpp, qpq, List.length_set, List.length_replicate, Int.toNat_natCast, qds, qdt, imax, imin]
theorem fh_1 (k : Nat) (hk : 2000000 ≤ k) (r q : Int) (l0 l1 : List Cell) (m0 m1 : List Int) (M0 T0 M1 T1 : Int) (H1 : FrH r q l1 m1) (mi mo ti ou : Int) (b0 : 0 ≤ M0 ∧ M0 ≤ 10000000) (b1 : 0 ≤ mi ∧ mi ≤ 40000000) (b2 : 0 ≤ mo ∧ mo ≤ 40000000) (b3 : 0 ≤ T0 ∧ T0 ≤ 10000000000) (b4 : 0 ≤ ti ∧ ti ≤ 40000000000) (b5 : 0 ≤ ou ∧ ou ≤ 40000000000) (N : Nat) :
    lp (k + 7) impl_FramesHold [] [] 4 (N + 2) (qmi 2 1 false [frR 0 r l0 M0 T0 q (comp q m0 0 []), frR 1 r l1 M1 T1 q (comp q m1 0 [])] false [(mi, mo, ti, ou)]) = some [.bool (decide (M1 = M0 + mi - mo) && decide (T1 = T0 + ti - ou))] := by
  rw [qio]
  have e := qbh k (by omega) 1 r false false l1 M1 T1 q m1 H1.hq H1.hm H1.hl H1.ml H1.h
  have e2 := fh_2 k hk (frR 0 r l0 M0 T0 q (comp q m0 0 [])) (frR 1 r l1 M1 T1 q (comp q m1 0 [])) (mi, mo, ti, ou) N
  by_cases g : M1 = M0 + mi - mo
  · by_cases g2 : T1 = T0 + ti - ou
    · simp (disch := omega) only [qaz, nth0, nth1, nth2, nth3, bit, qdu, qdv, qd6, qeb, qec, qed, qee, qef, qeg, qeh, qdw, qdx, qdy, qdz, qd0, qd1, qd2, qd3, qd4, qd5, qd7, qd8, qd9, qea, qo2, qo1, qo3, qlg, ql2, ql3, qh9, qa5, qod, nI, qet, qer, Bool.not_true, Bool.not_false, Bool.and_true, Bool.true_and, Bool.and_false, Bool.false_and, Bool.or_true, Bool.true_or, Bool.or_false, Bool.false_or, beq_self_eq_true, dTT, dFF, dT, dF, bigI, big0, qlf, qpp, qpq, List.length_set, List.length_replicate, Int.toNat_natCast, qds, qdt, imax, imin, ln1, ln2, tn0, tn1, rr0, rr1, rcF0, rcF1, rcF2, rcF3, rcF4, rcF5, rcF6, ngF, nzF, nsF, r3F, isF, e, Int.sub_self, gl0, show (1 : Int) + 1 = 2 by decide, e2]
    · simp (disch := omega) only [qaz, nth0, nth1, nth2, nth3, bit, qdu, qdv, qd6, qeb, qec, qed, qee, qef, qeg, qeh, qdw, qdx, qdy, qdz, qd0, qd1, qd2, qd3, qd4, qd5, qd7, qd8, qd9, qea, qo2, qo1, qo3, qlg, ql2, ql3, qh9, qa5, qod, nI, qet, qer, Bool.not_true, Bool.not_false, Bool.and_true, Bool.true_and, Bool.and_false, Bool.false_and, Bool.or_true, Bool.true_or, Bool.or_false, Bool.false_or, beq_self_eq_true, dTT, dFF, dT, dF, bigI, big0, qlf, qpp, qpq, List.length_set, List.length_replicate, Int.toNat_natCast, qds, qdt, imax, imin, ln1, ln2, tn0, tn1, rr0, rr1, rcF0, rcF1, rcF2, rcF3, rcF4, rcF5, rcF6, ngF, nzF, nsF, r3F, isF, e, Int.sub_self, gl0]
  · simp (disch := omega) only [qaz, nth0, nth1, nth2, nth3, bit, qdu, qdv, qd6, qeb, qec, qed, qee, qef, qeg, qeh, qdw, qdx, qdy, qdz, qd0, qd1, qd2, qd3, qd4, qd5, qd7, qd8, qd9, qea, qo2, qo1, qo3, qlg, ql2, ql3, qh9, qa5, qod, nI, qet, qer, Bool.not_true, Bool.not_false, Bool.and_true, Bool.true_and, Bool.and_false, Bool.false_and, Bool.or_true, Bool.true_or, Bool.or_false, Bool.false_or, beq_self_eq_true, dTT, dFF, dT, dF, bigI, big0, qlf, qpp, qpq, List.length_set, List.length_replicate, Int.toNat_natCast, qds, qdt, imax, imin, ln1, ln2, tn0, tn1, rr0, rr1, rcF0, rcF1, rcF2, rcF3, rcF4, rcF5, rcF6, ngF, nzF, nsF, r3F, isF, e, Int.sub_self, gl0]
theorem qa7 (k : Nat) (hk : 2000000 ≤ k) (r q : Int) (l0 l1 : List Cell) (m0 m1 : List Int) (M0 T0 M1 T1 : Int) (H0 : FrH r q l0 m0) (H1 : FrH r q l1 m1) (mi mo ti ou : Int) (b0 : 0 ≤ M0 ∧ M0 ≤ 10000000) (b1 : 0 ≤ mi ∧ mi ≤ 40000000) (b2 : 0 ≤ mo ∧ mo ≤ 40000000) (b3 : 0 ≤ T0 ∧ T0 ≤ 10000000000) (b4 : 0 ≤ ti ∧ ti ≤ 40000000000) (b5 : 0 ≤ ou ∧ ou ≤ 40000000000) :
    go (k + 8) impl_FramesHold [.rows false ZF [frR 0 r l0 M0 T0 q (comp q m0 0 []), frR 1 r l1 M1 T1 q (comp q m1 0 [])], .arr false false (.r4 [(mi, mo, ti, ou)])] = some [.bool (decide (M1 = M0 + mi - mo) && decide (T1 = T0 + ti - ou))] := by
  rw [qe8]
  have E := (fh_0 k hk r q l0 l1 m0 m1 M0 T0 M1 T1 H0 (mi, mo, ti, ou) (k + 7 - 3 + 2)).trans (fh_1 k hk r q l0 l1 m0 m1 M0 T0 M1 T1 H1 mi mo ti ou b0 b1 b2 b3 b4 b5 (k + 7 - 3))
  rw [show k + 7 - 3 + 2 + 1 = k + 7 by omega] at E
  simp (disch := omega) only [qaz, nth0, nth1, nth2, nth3, bit, qdu, qdv, qd6, qeb, qec, qed, qee, qef, qeg, qeh, qdw, qdx, qdy, qdz, qd0, qd1, qd2, qd3, qd4, qd5, qd7, qd8, qd9, qea, qo2, qo1, qo3, qlg, ql2, ql3, qh9, qa5, qod, nI, qet, qer, Bool.not_true, Bool.not_false, Bool.and_true, Bool.true_and, Bool.and_false, Bool.false_and, Bool.or_true, Bool.true_or, Bool.or_false, Bool.false_or, beq_self_eq_true, dTT, dFF, dT, dF, bigI, big0, qlf, qpp, qpq, List.length_set, List.length_replicate, Int.toNat_natCast, qds, qdt, imax, imin, ln1, ln2, show (2 : Int) - 1 = 1 by decide]
  exact E
theorem qci (k : Nat) (hk : 2000000 ≤ k) (r : Int) (s : S3) (b : List Int) (F : StF r s.1 s.2.1 s.2.2 b) (p : Pl) (P : PlD p) (c : Int) (hc : 0 ≤ c ∧ c ≤ 1000000) :
    go (k + 9) spec_RunMacro [.agg [.int .i64 (r), .arr false (false) (.r3 (s.1)), .arr false (false) (.ints .i64 (s.2.1)), .arr false (false) (.ints .i64 (s.2.2)), .arr false (false) (.ints .i64 (b))], plD p, .int .i64 c] = some [.agg [.int .i64 (r), .arr true (false) (.r3 ((mac p b c s).1.1)), .arr true (false) (.ints .i64 ((mac p b c s).1.2.1)), .arr true (false) (.ints .i64 ((mac p b c s).1.2.2)), .arr true (false) (.ints .i64 (b))], ldD (mac p b c s).2] := by
  rw [qgh]
  have fl := F.len; have bl := F.bl; have rr := F.rr
  have eS := qcm (k + 1) (by omega) r false s.1 false s.2.1 false s.2.2 false b (by omega) (by omega)
  rw [stF.2 F] at eS
  have eP := qch (k + 5) (by omega) p.bi p.bs p.bo p.rain p.loss p.dec p.high p.low p.every
  rw [P.ok] at eP
  have eI : inR c 0 1000000 = true := qh7.2 hc
  have eM := qdk k (by omega) r s b F p (qlt P.ok) c (by omega)
  simp (disch := omega) only [qaz, nth0, nth1, nth2, nth3, bit, qdu, qdv, qd6, qeb, qec, qed, qee, qef, qeg, qeh, qdw, qdx, qdy, qdz, qd0, qd1, qd2, qd3, qd4, qd5, qd7, qd8, qd9, qea, qo2, qo1, qo3, qlg, ql2, ql3, qh9, qa5, qod, nI, qet, qer, Bool.not_true, Bool.not_false, Bool.and_true, Bool.true_and, Bool.and_false, Bool.false_and, Bool.or_true, Bool.true_or, Bool.or_false, Bool.false_or, beq_self_eq_true, dTT, dFF, dT, dF, bigI, big0, qlf, qpp, qpq, List.length_set, List.length_replicate, Int.toNat_natCast, qds, qdt, imax, imin, eS, eP, qct, eI, eM]
theorem qa8 (k : Nat) (hk : 2000000 ≤ k) {r : Int} {l : List Cell} {m t b : List Int} (F : StF r l m t b) (c q : Int) (hc : 0 ≤ c) (hq : inR q 1 1000000 = true) :
    go (k + 9) impl_WriteFrame [.agg [.int .i64 (r), .arr false (false) (.r3 (l)), .arr false (false) (.ints .i64 (m)), .arr false (false) (.ints .i64 (t)), .arr false (false) (.ints .i64 (b))], .int .i64 c, .int .i64 q] = some [.agg [.int .i64 c, .int .i64 r, .arr true false (.r3 l), .int .i64 (isum m), .int .i64 (isum t), .int .i64 q, .arr true false (.ints .i64 (comp q m 0 []))], .bool true] := by
  have fl := F.len; have bl := F.bl; have rr := F.rr
  have e := qbm k hk r l m t b c q (by omega) (by omega)
  rw [stF.2 F, hq, dT hc] at e
  exact e
set_option maxHeartbeats 1000000 in
theorem law_FnFrames (k : Nat) (hk : 2000000 ≤ k) (az : Bool) (a : List Int) : go (k + 13) laws_FnFrames [(.arr false (az) (.ints IntKind.u8 (a)))] = some [.bool true] := by
  by_cases h : 1048576 < (a.length : Int)
  · rw [qfv]; simp (disch := omega) only [qaz, nth0, nth1, nth2, nth3, bit, qdu, qdv, qd6, qeb, qec, qed, qee, qef, qeg, qeh, qdw, qdx, qdy, qdz, qd0, qd1, qd2, qd3, qd4, qd5, qd7, qd8, qd9, qea, qo2, qo1, qo3, qlg, ql2, ql3, qh9, qa5, qod, nI, qet, qer, Bool.not_true, Bool.not_false, Bool.and_true, Bool.true_and, Bool.and_false, Bool.false_and, Bool.or_true, Bool.true_or, Bool.or_false, Bool.false_or, beq_self_eq_true, dTT, dFF, dT, dF, bigI, big0, qlf, qpp, qpq, List.length_set, List.length_replicate, Int.toNat_natCast, qds, qdt, imax, imin, qbz]
  have h : (a.length : Int) ≤ 1048576 := by omega
  obtain ⟨r, l, m, t, b, eD, F, hr⟩ := qb7 k (by omega) az a h
  obtain ⟨p, eP, P⟩ := qb6 (k + 7) (by omega) az a h
  obtain ⟨S, eS, hS, pS⟩ := qb5 (k + 9) (by omega) az a h
  have p0 := pS _ (qh4 (show 0 < S.length by omega) 0)
  have t0 : Int.tmod (S.getD 0 0) 300 = S.getD 0 0 % 300 := Int.tmod_eq_emod_of_nonneg p0.1
  obtain ⟨q, hq⟩ : ∃ q, S.getD 0 0 % 300 + 1 = q := ⟨_, rfl⟩
  have iq : inR q 1 1000000 = true := qh7.2 (by omega)
  have eM := qci (k + 3) (by omega) r (l, m, t) b F p P 0 (by omega)
  have MF := qkt (s := (l, m, t)) F (qlt P.ok) 0
  generalize mac p b 0 (l, m, t) = w at eM MF
  obtain ⟨⟨l1, m1, t1⟩, mi, mo, ti, ou⟩ := w
  obtain ⟨F1, L4⟩ := MF
  simp only at eM F1
  have q1 : isum m1 = isum m + mi - mo := L4.m
  have q2 : isum t1 = isum t + ti - ou := L4.t
  have q3 : 0 ≤ mi ∧ mi ≤ 40000000 := L4.mi
  have q4 : 0 ≤ mo ∧ mo ≤ 40000000 := L4.mo
  have q5 : 0 ≤ ti ∧ ti ≤ 40000000000 := L4.ti
  have q6 : 0 ≤ ou ∧ ou ≤ 40000000000 := L4.ou
  have ms := F.msum; have ts := F.tle; have ms1 := F1.msum
  have mn := qig (m := m) fun x hx => (F.m7 x hx).1
  have mn1 := qig (m := m1) fun x hx => (F1.m7 x hx).1
  have G0 := FrH.of F iq; have G1 := FrH.of F1 iq
  have W0 := qa8 (k + 3) (by omega) F 0 q (by omega) iq
  have W1 := qa8 (k + 3) (by omega) F1 1 q (by omega) iq
  have R1 := qbh (k + 5) (by omega) 1 r false false l1 (isum m1) (isum t1) q m1 iq G1.hm G1.hl G1.ml G1.h
  have H1 := qa7 (k + 4) (by omega) r q l l1 m m1 (isum m) (isum t) (isum m1) (isum t1) G0 G1 mi mo ti ou (by omega) q3 q4 ts q5 q6
  rw [dT q1, dT q2, Bool.and_true] at H1
  have H2 := qa7 (k + 4) (by omega) r q l l1 m m1 (isum m) (isum t) (isum m1 + 1) (isum t1) G0 G1 mi mo ti ou (by omega) q3 q4 ts q5 q6
  rw [dF (show ¬ isum m1 + 1 = isum m + mi - mo by omega), Bool.false_and] at H2
  have T0 := qbk (k + 4) (by omega) 0 r false false l (isum t) q m iq G0.hm G0.hl G0.ml G0.h (by omega)
  have T1 := qbk (k + 4) (by omega) 1 r false false l1 (isum t1) q m1 iq G1.hm G1.hl G1.ml G1.h (by omega)
  have dl := qe0 q m1
  have ml1 := F1.ml; have ll1 := F1.len
  rw [qfv]
  simp (disch := omega) only [qaz, nth0, nth1, nth2, nth3, bit, qdu, qdv, qd6, qeb, qec, qed, qee, qef, qeg, qeh, qdw, qdx, qdy, qdz, qd0, qd1, qd2, qd3, qd4, qd5, qd7, qd8, qd9, qea, qo2, qo1, qo3, qlg, ql2, ql3, qh9, qa5, qod, nI, qet, qer, Bool.not_true, Bool.not_false, Bool.and_true, Bool.true_and, Bool.and_false, Bool.false_and, Bool.or_true, Bool.true_or, Bool.or_false, Bool.false_or, beq_self_eq_true, dTT, dFF, dT, dF, bigI, big0, qlf, qpp, qpq, List.length_set, List.length_replicate, Int.toNat_natCast, qds, qdt, imax, imin, qbz, eD, eP, eS, tn0, t0, hq, eM, W0, W1, R1, dl, H1, H2, T0, T1]
end Go.Proofs.Ytcaapedadpnjoaa
end
