/- What the program's functions compute, and plain facts of it (part 3). No condition beyond those that each theorem states. -/
import Derived.Test.YtoldpdhhfmlckaaGreatQD2
set_option linter.unusedVariables false
set_option linter.unusedSimpArgs false
section
namespace Go.Proofs.YtoldpdhhfmlckaaGreat
open Go.Ev
set_option maxRecDepth 20000
abbrev plD (p : Pl) : D := .agg [.int .i64 p.bi, .int .i64 p.bs, .int .i64 p.bo, .int .i64 p.rain, .int .i64 p.loss, .int .i64 p.dec, .int .i64 p.high, .int .i64 p.low, .int .i64 p.every]
theorem qdn (k : Nat) (hk : 2000000 ≤ k) (z1 z2 z3 z4 : Bool) (r : Int) (l : List Cell) (s : S2) (b : List Int) (a : Int) (ha : 0 ≤ a ∧ a ≤ 10000) (F : StF r l s.1 s.2 b) :
    go (k + 5) impl_State_rain [.ptr true [.int .i64 (r), .arr true (z1) (.r3 (l)), .arr true (z2) (.ints .i64 (s.1)), .arr true (z3) (.ints .i64 (s.2)), .arr true (z4) (.ints .i64 (b))], .int .i64 a] = some [ldD (raS a l s).2, .ptr true [.int .i64 (r), .arr true (z1) (.r3 (l)), .arr true (z2) (.ints .i64 ((raS a l s).1.1)), .arr true (z3) (.ints .i64 ((raS a l s).1.2)), .arr true (z4) (.ints .i64 (b))]] := by
  have z := quz a l s
  rw [qdm k hk z1 z2 z3 z4 r l s.1 s.2 b a ha F, quy]
  simp only [ldD, z.1, z.2.1, z.2.2]
theorem qzs {a b : Int} (ha : 0 ≤ a) : Int.tmod a b = a % b := Int.tmod_eq_emod_of_nonneg ha
set_option maxHeartbeats 1000000 in
theorem qdq (k : Nat) (hk : 2000000 ≤ k) (r : Int) (s : S3) (b : List Int) (F : StF r s.1 s.2.1 s.2.2 b) (p : Pl) (P : PlF p) (c : Int) (hc : 0 ≤ c ∧ c ≤ 10000000) :
    go (k + 11) impl_State_runMacro [.ptr true [.int .i64 (r), .arr true (false) (.r3 (s.1)), .arr true (false) (.ints .i64 (s.2.1)), .arr true (false) (.ints .i64 (s.2.2)), .arr true (false) (.ints .i64 (b))], plD p, .int .i64 c] = some [ldD (mac p b c s).2, .ptr true [.int .i64 (r), .arr true (false) (.r3 ((mac p b c s).1.1)), .arr true (false) (.ints .i64 ((mac p b c s).1.2.1)), .arr true (false) (.ints .i64 ((mac p b c s).1.2.2)), .arr true (false) (.ints .i64 (b))]] := by
  rw [qjv]
  obtain ⟨l, s⟩ := s
  change StF r l s.1 s.2 b at F
  have h1 := qbc F P.bi P.bs P.bo
  have e1 := qcx (k + 6) (by omega) false false false false r l s.1 s.2 b F p.bi p.bs p.bo P.bi P.bs P.bo
  obtain ⟨s1, q1⟩ : ∃ x, x = boS p.bi p.bs p.bo s := ⟨_, rfl⟩
  change StF r l (boS p.bi p.bs p.bo s).1.1 (boS p.bi p.bs p.bo s).1.2 b ∧ Led s (boS p.bi p.bs p.bo s).1 (boS p.bi p.bs p.bo s).2 at h1
  change _ = some [ldD (boS p.bi p.bs p.bo s).2, .ptr true [.int .i64 (r), .arr true (false) (.r3 (l)), .arr true (false) (.ints .i64 ((boS p.bi p.bs p.bo s).1.1)), .arr true (false) (.ints .i64 ((boS p.bi p.bs p.bo s).1.2)), .arr true (false) (.ints .i64 (b))]] at e1
  rw [← q1] at h1 e1
  have h2 := qux h1.1 P.rain
  have e2 := qdn (k + 5) (by omega) false false false false r l s1.1 b p.rain P.rain h1.1
  obtain ⟨s2, q2⟩ : ∃ x, x = raS p.rain l s1.1 := ⟨_, rfl⟩
  change StF r l (raS p.rain l s1.1).1.1 (raS p.rain l s1.1).1.2 b ∧ Led s1.1 (raS p.rain l s1.1).1 (raS p.rain l s1.1).2 at h2
  rw [← q2] at h2 e2
  have h3 := qyg h2.1 P.loss
  have e3 := qdt (k + 5) (by omega) false false false false r l s2.1.1 s2.1.2 b p.loss P.loss h2.1
  obtain ⟨s3, q3⟩ : ∃ x, x = soS p.loss l s2.1 := ⟨_, rfl⟩
  change StF r l (soS p.loss l s2.1).1.1 (soS p.loss l s2.1).1.2 b ∧ Led s2.1 (soS p.loss l s2.1).1 (soS p.loss l s2.1).2 at h3
  change _ = some [ldD (soS p.loss l s2.1).2, .ptr true [.int .i64 (r), .arr true (false) (.r3 (l)), .arr true (false) (.ints .i64 ((soS p.loss l s2.1).1.1)), .arr true (false) (.ints .i64 ((soS p.loss l s2.1).1.2)), .arr true (false) (.ints .i64 (b))]] at e3
  rw [← q3] at h3 e3
  have h4 := qhw h3.1 P.dec
  have e4 := qc3 (k + 9) (by omega) false false false false r l s3.1.1 s3.1.2 b p.dec P.dec h3.1
  obtain ⟨s4, q4⟩ : ∃ x, x = deS p.dec l s3.1 := ⟨_, rfl⟩
  change StF r l (deS p.dec l s3.1).1.1 (deS p.dec l s3.1).1.2 b ∧ Led s3.1 (deS p.dec l s3.1).1 (deS p.dec l s3.1).2 at h4
  change _ = some [ldD (deS p.dec l s3.1).2, .ptr true [.int .i64 (r), .arr true (false) (.r3 (l)), .arr true (false) (.ints .i64 ((deS p.dec l s3.1).1.1)), .arr true (false) (.ints .i64 ((deS p.dec l s3.1).1.2)), .arr true (false) (.ints .i64 (b))]] at e4
  rw [← q4] at h4 e4
  have e5 := qdh (k + 3) (by omega) false false false false r l s4.1.1 s4.1.2 b h4.1
  have F5 := (qzq 16 0 s4.1 h4.1).1
  have l1 := h1.2; have l2 := h2.2; have l3 := h3.2; have l4 := h4.2
  have a1 := l1.mi; have a2 := l2.mi; have a3 := l3.mi; have a4 := l4.mi
  have b1 := l1.mo; have b2 := l2.mo; have b3 := l3.mo; have b4 := l4.mo
  have c1 := l1.ti; have c2 := l2.ti; have c3 := l3.ti; have c4 := l4.ti
  have d1 := l1.ou; have d2 := l2.ou; have d3 := l3.ou; have d4 := l4.ou
  have g1 := qb5 (k + 9) s1.2 s2.2 (by omega) (by omega) (by omega) (by omega)
  have g2 := qb5 (k + 9) (s1.2.add s2.2) s3.2 (by simp only [Ld.add]; omega) (by simp only [Ld.add]; omega) (by simp only [Ld.add]; omega) (by simp only [Ld.add]; omega)
  have g3 := qb5 (k + 9) ((s1.2.add s2.2).add s3.2) s4.2 (by simp only [Ld.add]; omega) (by simp only [Ld.add]; omega) (by simp only [Ld.add]; omega) (by simp only [Ld.add]; omega)
  have eq : mac p b c (l, s) = (if 0 < p.every ∧ (c + 1) % p.every = 0 then ada p.high p.low b (l, qzp l b 16 0 s4.1) else (l, qzp l b 16 0 s4.1), ((s1.2.add s2.2).add s3.2).add s4.2) := by
    subst q4; subst q3; subst q2; subst q1; rfl
  have eA := qcv k (by omega) r l (qzp l b 16 0 s4.1).1 (qzp l b 16 0 s4.1).2 b F5 p.high p.low
  have tm : Int.tmod (c + 1) p.every = (c + 1) % p.every := qzs (by omega)
  rw [eq]
  simp (disch := omega) only [e1, q0l, tm, qa9, nth1, qu0, qzu, qu1, qt3, quv, qu2, qob, qu3, qu4, e2, nth0, qgr, qgs, qg3, qg5, g1, e3, e4, e5, g2, g3]
  by_cases w : 0 < p.every
  · by_cases w2 : (c + 1) % p.every = 0
    · rw [if_pos ⟨w, w2⟩]
      simp (disch := omega) only [dT, dF, Bool.not_false, w2, dTT, eA, qa9, nth0, qu0, qzu, qu1, qt3, quv, qu2, qob, qu3, qu4, qhl]
      rfl
    · rw [if_neg (fun h => w2 h.2)]
      simp (disch := omega) only [dT, dF, Bool.not_false, qhj, qhl]
  · rw [if_neg (fun h => w h.1)]
    simp (disch := omega) only [dF, qhj]
end Go.Proofs.YtoldpdhhfmlckaaGreat
end
section
namespace Go.Proofs.YtoldpdhhfmlckaaGreat
open Go.Ev
set_option maxRecDepth 20000
structure Wd where
  r : Int
  s : S3
  b : List Int
  p : Pl
  k : Int
  ld : Ld
  f : Int
  g : Int
def wdOk (w : Wd) : Bool := q0j w.r w.s.1 w.s.2.1 w.s.2.2 w.b w.p.bi w.p.bs w.p.bo w.p.rain w.p.loss w.p.dec w.p.high w.p.low w.p.every w.k w.ld.mi w.ld.mo w.ld.ti w.ld.ou w.f w.g
structure LdB (l : Ld) (B : Int) : Prop where
  mi : 0 ≤ l.mi ∧ l.mi ≤ B
  mo : 0 ≤ l.mo ∧ l.mo ≤ B
  ti : 0 ≤ l.ti ∧ l.ti ≤ B
  ou : 0 ≤ l.ou ∧ l.ou ≤ B
theorem qun {p : Pl} (h : quq p.bi p.bs p.bo p.rain p.loss p.dec p.high p.low p.every = true) : PlF p := by
  simp only [quq, qbf, Bool.and_eq_true, qn9] at h
  exact ⟨by omega, by omega, by omega, by omega, by omega, by omega, by omega, by omega, by omega⟩
end Go.Proofs.YtoldpdhhfmlckaaGreat
end
section
namespace Go.Proofs.YtoldpdhhfmlckaaGreat
open Go.Ev
theorem qkr (k : Nat) (az : Bool) (a : List Int) : go (k + 1) laws_big [(.arr false (az) (.ints IntKind.u8 (a)))] =
 some [(.bool (decide ((1048576 : Int) < nI (List.length a))))] := by kernel_rfl
theorem qm4 (k : Nat) (v0 : Bool) (v1 : List Int) (v2 v3 : Int) : go (k + 1) spec_l18Plan [(.ptr true [(.arr false (v0) (.ints IntKind.u8 (v1))), (.int .i64 (v2)), (.int .i64 (v3))])] =
 (go k spec_l13Border [(.ptr true [(.arr false (v0) (.ints IntKind.u8 (v1))), (.int .i64 (v2)), (.int .i64 (v3))])]).bind fun r0 =>
 (go k spec_l01Below [(.ptr true [(.arr false (v0) (.ints IntKind.u8 (v1))), (.int .i64 (D.toInt (D.cell 1 (nth r0 1)))), (.int .i64 (D.toInt (D.cell 2 (nth r0 1))))]), (.int .i64 ((2 : Int)))]).bind fun r1 =>
 (go k spec_l01Below [(.ptr true [(.arr false (v0) (.ints IntKind.u8 (v1))), (.int .i64 (D.toInt (D.cell 1 (nth r1 1)))), (.int .i64 (D.toInt (D.cell 2 (nth r1 1))))]), (.int .i64 ((900 : Int)))]).bind fun r2 =>
 (go k spec_l01Below [(.ptr true [(.arr false (v0) (.ints IntKind.u8 (v1))), (.int .i64 (D.toInt (D.cell 1 (nth r2 1)))), (.int .i64 (D.toInt (D.cell 2 (nth r2 1))))]), (.int .i64 ((2 : Int)))]).bind fun r3 =>
 (go k spec_l01Below [(.ptr true [(.arr false (v0) (.ints IntKind.u8 (v1))), (.int .i64 (D.toInt (D.cell 1 (nth r3 1)))), (.int .i64 (D.toInt (D.cell 2 (nth r3 1))))]), (.int .i64 ((400 : Int)))]).bind fun r4 =>
 (go k spec_l01Below [(.ptr true [(.arr false (v0) (.ints IntKind.u8 (v1))), (.int .i64 (D.toInt (D.cell 1 (nth r4 1)))), (.int .i64 (D.toInt (D.cell 2 (nth r4 1))))]), (.int .i64 ((2 : Int)))]).bind fun r5 =>
 (go k spec_l01Below [(.ptr true [(.arr false (v0) (.ints IntKind.u8 (v1))), (.int .i64 (D.toInt (D.cell 1 (nth r5 1)))), (.int .i64 (D.toInt (D.cell 2 (nth r5 1))))]), (.int .i64 ((200 : Int)))]).bind fun r6 =>
 (go k spec_l01Below [(.ptr true [(.arr false (v0) (.ints IntKind.u8 (v1))), (.int .i64 (D.toInt (D.cell 1 (nth r6 1)))), (.int .i64 (D.toInt (D.cell 2 (nth r6 1))))]), (.int .i64 ((4000 : Int)))]).bind fun r7 =>
 (go k spec_l01Below [(.ptr true [(.arr false (v0) (.ints IntKind.u8 (v1))), (.int .i64 (D.toInt (D.cell 1 (nth r7 1)))), (.int .i64 (D.toInt (D.cell 2 (nth r7 1))))]), (.int .i64 ((300 : Int)))]).bind fun r8 =>
 (go k spec_l01Below [(.ptr true [(.arr false (v0) (.ints IntKind.u8 (v1))), (.int .i64 (D.toInt (D.cell 1 (nth r8 1)))), (.int .i64 (D.toInt (D.cell 2 (nth r8 1))))]), (.int .i64 ((3 : Int)))]).bind fun r9 =>
 some [(.agg [(.int .i64 (D.toInt (D.cell 0 (nth r0 0)))), (.int .i64 (D.toInt (D.cell 1 (nth r0 0)))), (.int .i64 (D.toInt (D.cell 2 (nth r0 0)))), (.int .i64 (IntKind.wrap .i64 (D.toInt (nth r1 0) * D.toInt (nth r2 0)))), (.int .i64 (IntKind.wrap .i64 (D.toInt (nth r3 0) * D.toInt (nth r4 0)))), (.int .i64 (IntKind.wrap .i64 (D.toInt (nth r5 0) * D.toInt (nth r6 0)))), (.int .i64 (IntKind.wrap .i64 ((200 : Int) + D.toInt (nth r7 0)))), (.int .i64 (D.toInt (nth r8 0))), (.int .i64 (D.toInt (nth r9 0)))]), (.ptr true [(.arr false (v0) (.ints IntKind.u8 (v1))), (.int .i64 (D.toInt (D.cell 1 (nth r9 1)))), (.int .i64 (D.toInt (D.cell 2 (nth r9 1))))])] := by kernel_rfl
theorem qmu (k : Nat) (v0 : Bool) (v1 : List Int) (v2 v3 : Int) : go (k + 1) spec_l13Border [(.ptr true [(.arr false (v0) (.ints IntKind.u8 (v1))), (.int .i64 (v2)), (.int .i64 (v3))])] =
 (go k spec_l01Below [(.ptr true [(.arr false (v0) (.ints IntKind.u8 (v1))), (.int .i64 (v2)), (.int .i64 (v3))]), (.int .i64 ((2 : Int)))]).bind fun r0 =>
 (go k spec_l01Below [(.ptr true [(.arr false (v0) (.ints IntKind.u8 (v1))), (.int .i64 (D.toInt (D.cell 1 (nth r0 1)))), (.int .i64 (D.toInt (D.cell 2 (nth r0 1))))]), (.int .i64 ((3000 : Int)))]).bind fun r1 =>
 (go k spec_l01Below [(.ptr true [(.arr false (v0) (.ints IntKind.u8 (v1))), (.int .i64 (D.toInt (D.cell 1 (nth r1 1)))), (.int .i64 (D.toInt (D.cell 2 (nth r1 1))))]), (.int .i64 ((1001 : Int)))]).bind fun r2 =>
 (go k spec_l01Below [(.ptr true [(.arr false (v0) (.ints IntKind.u8 (v1))), (.int .i64 (D.toInt (D.cell 1 (nth r2 1)))), (.int .i64 (D.toInt (D.cell 2 (nth r2 1))))]), (.int .i64 ((2 : Int)))]).bind fun r3 =>
 (go k spec_l01Below [(.ptr true [(.arr false (v0) (.ints IntKind.u8 (v1))), (.int .i64 (D.toInt (D.cell 1 (nth r3 1)))), (.int .i64 (D.toInt (D.cell 2 (nth r3 1))))]), (.int .i64 ((251 : Int)))]).bind fun r4 =>
 some [(.agg [(.int .i64 (IntKind.wrap .i64 (D.toInt (nth r0 0) * D.toInt (nth r1 0)))), (.int .i64 (D.toInt (nth r2 0))), (.int .i64 (IntKind.wrap .i64 (D.toInt (nth r3 0) * D.toInt (nth r4 0))))]), (.ptr true [(.arr false (v0) (.ints IntKind.u8 (v1))), (.int .i64 (D.toInt (D.cell 1 (nth r4 1)))), (.int .i64 (D.toInt (D.cell 2 (nth r4 1))))])] := by kernel_rfl
end Go.Proofs.YtoldpdhhfmlckaaGreat
end
section
namespace Go.Proofs.YtoldpdhhfmlckaaGreat
open Go.Ev
set_option maxRecDepth 20000
structure Good (w : Wd) (K : Nat) : Prop where
  F : StF w.r w.s.1 w.s.2.1 w.s.2.2 w.b
  p : quq w.p.bi w.p.bs w.p.bo w.p.rain w.p.loss w.p.dec w.p.high w.p.low w.p.every = true
  k : 0 ≤ w.k ∧ w.k ≤ K
  L : LdB w.ld (40000000000 * K)
  f : isum w.s.2.1 - w.ld.mi + w.ld.mo = w.f
  g : isum w.s.2.2 - w.ld.ti + w.ld.ou = w.g
theorem Good.ok {w : Wd} {K : Nat} (G : Good w K) (hK : K ≤ 10000) : wdOk w = true := by
  have a := G.k; have b1 := G.L.mi; have b2 := G.L.mo; have b3 := G.L.ti; have b4 := G.L.ou
  unfold wdOk q0j qqv
  simp only [Bool.and_eq_true, decide_eq_true_eq]
  exact ⟨stF.2 G.F, G.p, qn9.2 (by omega), ⟨qn9.2 (by omega), qn9.2 (by omega), qn9.2 (by omega), qn9.2 (by omega)⟩, G.f, G.g⟩
theorem Good.mono {w : Wd} {K N : Nat} (G : Good w K) (h : K ≤ N) : Good w N := by
  have a := G.k; have b1 := G.L.mi; have b2 := G.L.mo; have b3 := G.L.ti; have b4 := G.L.ou
  exact ⟨G.F, G.p, by omega, ⟨by omega, by omega, by omega, by omega⟩, G.f, G.g⟩
end Go.Proofs.YtoldpdhhfmlckaaGreat
end
section
namespace Go.Proofs.YtoldpdhhfmlckaaGreat
open Go.Ev
set_option maxRecDepth 20000
theorem qdz (k : Nat) (hk : 2000000 ≤ k) (z : Bool) (l : List Int) : go (k + 1) laws_big [.arr false z (.ints .u8 l)] = some [.bool (decide (1048576 < (l.length : Int)))] := by
  rw [qkr]
theorem qtz {u v B : Int} (hu : 0 ≤ u ∧ u < 2) (hv : 0 ≤ v ∧ v < B) : 0 ≤ u * v ∧ u * v < B := by
  have h1 : 0 ≤ u * v := Int.mul_nonneg hu.1 hv.1
  have h2 : u * v ≤ 1 * v := Int.mul_le_mul_of_nonneg_right (by omega) hv.1
  omega
theorem qf6 (k : Nat) (hk : 2000000 ≤ k) (z : Bool) (l : List Int) (i h : Int) (hl : (l.length : Int) ≤ 1048576) (h0 : 0 ≤ i) (h1 : i ≤ l.length) :
    ∃ (b0 b1 b2 i' h' : Int), go (k + 3) spec_l13Border [.ptr true [.arr false (z) (.ints .u8 (l)), .int .i64 (i), .int .i64 (h)]] = some [.agg [.int .i64 b0, .int .i64 b1, .int .i64 b2], .ptr true [.arr false (z) (.ints .u8 (l)), .int .i64 (i'), .int .i64 (h')]] ∧ (0 ≤ i' ∧ i' ≤ l.length) ∧ qbf b0 b1 b2 = true ∧ b0 ≤ 3000 := by
  have e := qmu (k + 2) z l i h
  obtain ⟨u1, i1, k1, e1, b1, q1, r1⟩ := qfh k (by omega) z l i h 2 hl h0 h1 (by omega) (by omega)
  obtain ⟨u2, i2, k2, e2, b2, q2, r2⟩ := qfh k (by omega) z l i1 k1 3000 hl q1 r1 (by omega) (by omega)
  obtain ⟨u3, i3, k3, e3, b3, q3, r3⟩ := qfh k (by omega) z l i2 k2 1001 hl q2 r2 (by omega) (by omega)
  obtain ⟨u4, i4, k4, e4, b4, q4, r4⟩ := qfh k (by omega) z l i3 k3 2 hl q3 r3 (by omega) (by omega)
  obtain ⟨u5, i5, k5, e5, b5, q5, r5⟩ := qfh k (by omega) z l i4 k4 251 hl q4 r4 (by omega) (by omega)
  have m1 := qtz b1 b2; have m2 := qtz b4 b5
  simp (disch := omega) only [e1, qa9, nth1, qut, qzu, quu, e2, nth0, e3, q0l, e4, e5] at e
  exact ⟨_, _, _, _, _, e, ⟨q5, r5⟩, by simp only [qbf, Bool.and_eq_true, qn9]; omega, by omega⟩
structure PlD (p : Pl) : Prop where
  ok : quq p.bi p.bs p.bo p.rain p.loss p.dec p.high p.low p.every = true
  bi : p.bi ≤ 3000
  rain : p.rain ≤ 900
theorem qgc (k : Nat) (hk : 2000000 ≤ k) (z : Bool) (l : List Int) (i h : Int) (hl : (l.length : Int) ≤ 1048576) (h0 : 0 ≤ i) (h1 : i ≤ l.length) :
    ∃ (p : Pl) (i' h' : Int), go (k + 4) spec_l18Plan [.ptr true [.arr false (z) (.ints .u8 (l)), .int .i64 (i), .int .i64 (h)]] = some [plD p, .ptr true [.arr false (z) (.ints .u8 (l)), .int .i64 (i'), .int .i64 (h')]] ∧ (0 ≤ i' ∧ i' ≤ l.length) ∧ PlD p := by
  have e := qm4 (k + 3) z l i h
  obtain ⟨c0, c1, c2, i1, k1, e1, ⟨q1, r1⟩, hb, hc⟩ := qf6 k (by omega) z l i h hl h0 h1
  obtain ⟨u2, i2, k2, e2, b2, q2, r2⟩ := qfh (k + 1) (by omega) z l i1 k1 2 hl q1 r1 (by omega) (by omega)
  obtain ⟨u3, i3, k3, e3, b3, q3, r3⟩ := qfh (k + 1) (by omega) z l i2 k2 900 hl q2 r2 (by omega) (by omega)
  obtain ⟨u4, i4, k4, e4, b4, q4, r4⟩ := qfh (k + 1) (by omega) z l i3 k3 2 hl q3 r3 (by omega) (by omega)
  obtain ⟨u5, i5, k5, e5, b5, q5, r5⟩ := qfh (k + 1) (by omega) z l i4 k4 400 hl q4 r4 (by omega) (by omega)
  obtain ⟨u6, i6, k6, e6, b6, q6, r6⟩ := qfh (k + 1) (by omega) z l i5 k5 2 hl q5 r5 (by omega) (by omega)
  obtain ⟨u7, i7, k7, e7, b7, q7, r7⟩ := qfh (k + 1) (by omega) z l i6 k6 200 hl q6 r6 (by omega) (by omega)
  obtain ⟨u8, i8, k8, e8, b8, q8, r8⟩ := qfh (k + 1) (by omega) z l i7 k7 4000 hl q7 r7 (by omega) (by omega)
  obtain ⟨u9, i9, k9, e9, b9, q9, r9⟩ := qfh (k + 1) (by omega) z l i8 k8 300 hl q8 r8 (by omega) (by omega)
  obtain ⟨u10, i10, k10, e10, b10, q10, r10⟩ := qfh (k + 1) (by omega) z l i9 k9 3 hl q9 r9 (by omega) (by omega)
  have m1 := qtz b2 b3; have m2 := qtz b4 b5; have m3 := qtz b6 b7
  simp (disch := omega) only [e1, qa9, nth1, qut, qzu, quu, e2, nth0, qgr, qgs, qg3, e3, e4, q0l, e5, e6, e7, e8, e9, e10] at e
  refine ⟨⟨c0, c1, c2, u2 * u3, u4 * u5, u6 * u7, 200 + u8, u9, u10⟩, _, _, e, ⟨q10, r10⟩, ⟨?_, hc, by show u2 * u3 ≤ 900; omega⟩⟩
  simp only [quq, Bool.and_eq_true, qn9]; exact ⟨hb, by omega, by omega, by omega, by omega, by omega, by omega⟩
theorem z0 : (0 : Int) ≤ 0 ∧ (0 : Int) ≤ ((0 : Nat) : Int) := by decide
end Go.Proofs.YtoldpdhhfmlckaaGreat
end
