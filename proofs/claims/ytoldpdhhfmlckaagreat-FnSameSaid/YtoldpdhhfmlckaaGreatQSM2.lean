/- What the program's functions compute, and plain facts of it (part 2). No condition beyond those that each theorem states. -/
import Derived.Test.YtoldpdhhfmlckaaGreatQSM1
set_option linter.unusedVariables false
set_option linter.unusedSimpArgs false
section
namespace Go.Proofs.YtoldpdhhfmlckaaGreat
open Go.Ev
set_option maxRecDepth 20000
theorem qgm (k : Nat) (hk : 2000000 ≤ k) (z1 z2 z3 z4 : Bool) (r : Int) (l : List Cell) (s : S2) (b : List Int) (a : Int) (ha : 0 ≤ a ∧ a ≤ 10000) (F : StF r l s.1 s.2 b) :
    go (k + 4) spec_l14Rain [.agg [.int .i64 (r), .arr false (z1) (.r3 (l)), .arr false (z2) (.ints .i64 (s.1)), .arr false (z3) (.ints .i64 (s.2)), .arr false (z4) (.ints .i64 (b))], .int .i64 a] = some [.agg [.int .i64 (r), .arr true (false) (.r3 (l)), .arr true (false) (.ints .i64 ((raS a l s).1.1)), .arr true (false) (.ints .i64 ((raS a l s).1.2)), .arr true (false) (.ints .i64 (b))], ldD (raS a l s).2] := by
  have z := quz a l s
  rw [qgl k hk z1 z2 z3 z4 r l s.1 s.2 b a ha F, quy]
  simp only [ldD, z.1, z.2.1, z.2.2]
set_option maxHeartbeats 1000000 in
theorem qsj (k : Nat) (hk : 2000000 ≤ k) (fu : List (Nat × Nat)) (r : Int) (l : List Cell) (b : List Int) (p : Pl) (P : PlF p) (c : Int) (hc : 0 ≤ c ∧ c ≤ 10000000) (L : Ld) (y1 y2 y3 y4 : Bool) (q1 : List Cell) (q2 q3 q4 : List Int) (p0 p1 p2 p3 p4 : Int) : ∀ (N n i : Nat) (s : S2), i + n = 16 → n < N → StF r l s.1 s.2 b →
    lp (k + 7) spec_l18Macro [] fu 8 (N) (qxv c (i : Int) p.bi p.bs p.bo p.rain p.loss p.dec p.high p.low p.every y1 q1 y2 q2 y3 q3 y4 q4 p0 p1 p2 p3 p4 false l false s.1 false s.2 false b r L.mi L.mo L.ti L.ou) =
      some [.agg [.int .i64 (r), .arr true (false) (.r3 ((if 0 < p.every ∧ (c + 1) % p.every = 0 then ada p.high p.low b (l, qzp l b n i s) else (l, qzp l b n i s)).1)), .arr true (false) (.ints .i64 ((if 0 < p.every ∧ (c + 1) % p.every = 0 then ada p.high p.low b (l, qzp l b n i s) else (l, qzp l b n i s)).2.1)), .arr true (false) (.ints .i64 ((if 0 < p.every ∧ (c + 1) % p.every = 0 then ada p.high p.low b (l, qzp l b n i s) else (l, qzp l b n i s)).2.2)), .arr true (false) (.ints .i64 (b))], ldD L]
  | 0, n, i, s, hi, hN, F => by omega
  | N + 1, 0, i, s, hi, hN, F => by
    rw [qql]
    have : i = 16 := by omega
    subst this
    have LL := F.len
    have tm : Int.tmod (c + 1) p.every = (c + 1) % p.every := qzs (by omega)
    have eA := qga k (by omega) r l s.1 s.2 b F p.high p.low
    rw [show qzp l b 0 16 s = s from rfl]
    simp (disch := omega) only [dF, qgp, q0l, tm, qhj]
    by_cases w : 0 < p.every
    · by_cases w2 : (c + 1) % p.every = 0
      · rw [if_pos ⟨w, w2⟩]
        simp (disch := omega) only [dT, dF, Bool.not_false, w2, dTT, eA, qa9, nth0, qgr, qzu, qgs, qt3, quv, qg3, qob, qg5, qg6, qhl]
        rfl
      · rw [if_neg (fun h => w2 h.2)]
        simp (disch := omega) only [dT, dF, Bool.not_false, qhj, qhl]
    · rw [if_neg (fun h => w h.1)]
      simp (disch := omega) only [dF, qhj]
  | N + 1, n + 1, i, s, hi, hN, F => by
    rw [qql]
    have LL := F.len
    have IH := qsj k hk fu r l b p P c hc L y1 y2 y3 y4 q1 q2 q3 q4 p0 p1 p2 p3 p4 N n (i + 1) (tick l b i s) (by omega) (by omega) (qyz F i)
    have eS := qf5 (k + 2) (by omega) r false false false false l s.1 s.2 b F (i : Int)
    rw [show qzp l b (n + 1) i s = qzp l b n (i + 1) (tick l b i s) from rfl]
    simp only [tick] at IH ⊢
    simp (disch := omega) only [dT, eS, qgp, q0l, qa9, nth0, qgs, qt3, quv, qg3, qob, qg5, qg6, qgr, qzu, IH, qhl]
set_option maxHeartbeats 1000000 in
theorem qgb (k : Nat) (hk : 2000000 ≤ k) (r : Int) (s : S3) (b : List Int) (F : StF r s.1 s.2.1 s.2.2 b) (p : Pl) (P : PlF p) (c : Int) (hc : 0 ≤ c ∧ c ≤ 10000000) :
    go (k + 8) spec_l18Macro [.agg [.int .i64 (r), .arr false (false) (.r3 (s.1)), .arr false (false) (.ints .i64 (s.2.1)), .arr false (false) (.ints .i64 (s.2.2)), .arr false (false) (.ints .i64 (b))], plD p, .int .i64 c] = some [.agg [.int .i64 (r), .arr true (false) (.r3 ((mac p b c s).1.1)), .arr true (false) (.ints .i64 ((mac p b c s).1.2.1)), .arr true (false) (.ints .i64 ((mac p b c s).1.2.2)), .arr true (false) (.ints .i64 (b))], ldD (mac p b c s).2] := by
  rw [qm3]
  obtain ⟨l, s⟩ := s
  change StF r l s.1 s.2 b at F
  have h1 := qbc F P.bi P.bs P.bo
  have e1 := qff (k + 4) (by omega) false false false false r l s.1 s.2 b F p.bi p.bs p.bo P.bi P.bs P.bo
  obtain ⟨s1, q1⟩ : ∃ x, x = boS p.bi p.bs p.bo s := ⟨_, rfl⟩
  change StF r l (boS p.bi p.bs p.bo s).1.1 (boS p.bi p.bs p.bo s).1.2 b ∧ Led s (boS p.bi p.bs p.bo s).1 (boS p.bi p.bs p.bo s).2 at h1
  change _ = some [.agg [.int .i64 (r), .arr true (false) (.r3 (l)), .arr true (false) (.ints .i64 ((boS p.bi p.bs p.bo s).1.1)), .arr true (false) (.ints .i64 ((boS p.bi p.bs p.bo s).1.2)), .arr true (false) (.ints .i64 (b))], ldD (boS p.bi p.bs p.bo s).2] at e1
  rw [← q1] at h1 e1
  have h2 := qux h1.1 P.rain
  have e2 := qgm (k + 3) (by omega) false false false false r l s1.1 b p.rain P.rain h1.1
  obtain ⟨s2, q2⟩ : ∃ x, x = raS p.rain l s1.1 := ⟨_, rfl⟩
  change StF r l (raS p.rain l s1.1).1.1 (raS p.rain l s1.1).1.2 b ∧ Led s1.1 (raS p.rain l s1.1).1 (raS p.rain l s1.1).2 at h2
  rw [← q2] at h2 e2
  have h3 := qyg h2.1 P.loss
  have e3 := qgn (k + 3) (by omega) false false false false r l s2.1.1 s2.1.2 b p.loss P.loss h2.1
  obtain ⟨s3, q3⟩ : ∃ x, x = soS p.loss l s2.1 := ⟨_, rfl⟩
  change StF r l (soS p.loss l s2.1).1.1 (soS p.loss l s2.1).1.2 b ∧ Led s2.1 (soS p.loss l s2.1).1 (soS p.loss l s2.1).2 at h3
  change _ = some [.agg [.int .i64 (r), .arr true (false) (.r3 (l)), .arr true (false) (.ints .i64 ((soS p.loss l s2.1).1.1)), .arr true (false) (.ints .i64 ((soS p.loss l s2.1).1.2)), .arr true (false) (.ints .i64 (b))], ldD (soS p.loss l s2.1).2] at e3
  rw [← q3] at h3 e3
  have h4 := qhw h3.1 P.dec
  have e4 := qfg (k + 4) (by omega) false false false false r l s3.1.1 s3.1.2 b p.dec P.dec h3.1
  obtain ⟨s4, q4⟩ : ∃ x, x = deS p.dec l s3.1 := ⟨_, rfl⟩
  change StF r l (deS p.dec l s3.1).1.1 (deS p.dec l s3.1).1.2 b ∧ Led s3.1 (deS p.dec l s3.1).1 (deS p.dec l s3.1).2 at h4
  change _ = some [.agg [.int .i64 (r), .arr true (false) (.r3 (l)), .arr true (false) (.ints .i64 ((deS p.dec l s3.1).1.1)), .arr true (false) (.ints .i64 ((deS p.dec l s3.1).1.2)), .arr true (false) (.ints .i64 (b))], ldD (deS p.dec l s3.1).2] at e4
  rw [← q4] at h4 e4
  have l1 := h1.2; have l2 := h2.2; have l3 := h3.2; have l4 := h4.2
  have a1 := l1.mi; have a2 := l2.mi; have a3 := l3.mi; have a4 := l4.mi
  have b1 := l1.mo; have b2 := l2.mo; have b3 := l3.mo; have b4 := l4.mo
  have c1 := l1.ti; have c2 := l2.ti; have c3 := l3.ti; have c4 := l4.ti
  have d1 := l1.ou; have d2 := l2.ou; have d3 := l3.ou; have d4 := l4.ou
  have g1 := qeu (k + 6) s1.2 s2.2 (by omega) (by omega) (by omega) (by omega)
  have g2 := qeu (k + 6) s3.2 s4.2 (by omega) (by omega) (by omega) (by omega)
  have g3 := qeu (k + 6) (s1.2.add s2.2) (s3.2.add s4.2) (by simp only [Ld.add]; omega) (by simp only [Ld.add]; omega) (by simp only [Ld.add]; omega) (by simp only [Ld.add]; omega)
  have ll : (s1.2.add s2.2).add (s3.2.add s4.2) = ((s1.2.add s2.2).add s3.2).add s4.2 := by simp only [Ld.add, Int.add_assoc]
  have eq : mac p b c (l, s) = (if 0 < p.every ∧ (c + 1) % p.every = 0 then ada p.high p.low b (l, qzp l b 16 0 s4.1) else (l, qzp l b 16 0 s4.1), (s1.2.add s2.2).add (s3.2.add s4.2)) := by
    rw [ll]; subst q4; subst q3; subst q2; subst q1; rfl
  have eM := qsj k hk [] r l b p P c hc ((s1.2.add s2.2).add (s3.2.add s4.2)) true true true true [] [] [] [] 0 0 0 0 0 (k + 7) 16 0 s4.1 rfl (by omega) h4.1
  rw [show ((0 : Nat) : Int) = 0 from rfl] at eM
  rw [eq]
  simp (disch := omega) only [e1, qa9, nth0, qgr, qzu, qgs, qt3, quv, qg3, qob, qg5, qg6, e2, nth1, e3, g1, e4, g2, g3]
  exact eM
end Go.Proofs.YtoldpdhhfmlckaaGreat
end
section
namespace Go.Proofs.YtoldpdhhfmlckaaGreat
open Go.Ev
def qwz (x0 x1 : Int) (z2 : Bool) (l3 : List (Int × Int × Int)) (z4 : Bool) (l5 : List Int) (z6 : Bool) (l7 : List Int) (z8 : Bool) (l9 : List Int) (x10 x11 x12 x13 x14 x15 x16 x17 x18 x19 x20 x21 x22 x23 x24 x25 x26 : Int) (z27 : Bool) (l28 : List (Int × Int × Int)) (z29 : Bool) (l30 : List Int) (z31 : Bool) (l32 : List Int) (z33 : Bool) (l34 : List Int) (x35 x36 x37 x38 x39 x40 x41 x42 x43 x44 x45 x46 x47 x48 x49 x50 x51 : Int) : St := ⟨fill 49 [(1, (.int .i64 x0)), (4, (.ptr 4 0 0)), (6, (.ptr 9 0 0)), (7, (.int .i64 x1))], [], [(.arr true z2 (.r3 l3)), (.arr true z4 (.ints .i64 l5)), (.arr true z6 (.ints .i64 l7)), (.arr true z8 (.ints .i64 l9)), (.box true [(.int .i64 x10), (.sl 0 none), (.sl 1 none), (.sl 2 none), (.sl 3 none), (.int .i64 x11), (.int .i64 x12), (.int .i64 x13), (.int .i64 x14), (.int .i64 x15), (.int .i64 x16), (.int .i64 x17), (.int .i64 x18), (.int .i64 x19), (.int .i64 x20), (.int .i64 x21), (.int .i64 x22), (.int .i64 x23), (.int .i64 x24), (.int .i64 x25), (.int .i64 x26)]), (.arr true z27 (.r3 l28)), (.arr true z29 (.ints .i64 l30)), (.arr true z31 (.ints .i64 l32)), (.arr true z33 (.ints .i64 l34)), (.box true [(.int .i64 x35), (.sl 5 none), (.sl 6 none), (.sl 7 none), (.sl 8 none), (.int .i64 x36), (.int .i64 x37), (.int .i64 x38), (.int .i64 x39), (.int .i64 x40), (.int .i64 x41), (.int .i64 x42), (.int .i64 x43), (.int .i64 x44), (.int .i64 x45), (.int .i64 x46), (.int .i64 x47), (.int .i64 x48), (.int .i64 x49), (.int .i64 x50), (.int .i64 x51)])]⟩
theorem qk1 (k : Nat) (a0 : Int) (a1z : Bool) (a1 : List (Int × Int × Int)) (a2z : Bool) (a2 : List Int) (a3z : Bool) (a3 : List Int) (a4z : Bool) (a4 : List Int) (a5 a6 a7 a8 a9 a10 a11 a12 a13 a14 a15 a16 a17 a18 a19 a20 b : Int) : go (k + 1) spec_Advance [(.agg [(.int .i64 a0), (.arr false a1z (.r3 a1)), (.arr false a2z (.ints .i64 a2)), (.arr false a3z (.ints .i64 a3)), (.arr false a4z (.ints .i64 a4)), (.int .i64 a5), (.int .i64 a6), (.int .i64 a7), (.int .i64 a8), (.int .i64 a9), (.int .i64 a10), (.int .i64 a11), (.int .i64 a12), (.int .i64 a13), (.int .i64 a14), (.int .i64 a15), (.int .i64 a16), (.int .i64 a17), (.int .i64 a18), (.int .i64 a19), (.int .i64 a20)]), (.int .i64 b)] =
 (go k spec_l36Copy [(.agg [(.int .i64 a0), (.arr false a1z (.r3 a1)), (.arr false a2z (.ints .i64 a2)), (.arr false a3z (.ints .i64 a3)), (.arr false a4z (.ints .i64 a4)), (.int .i64 a5), (.int .i64 a6), (.int .i64 a7), (.int .i64 a8), (.int .i64 a9), (.int .i64 a10), (.int .i64 a11), (.int .i64 a12), (.int .i64 a13), (.int .i64 a14), (.int .i64 a15), (.int .i64 a16), (.int .i64 a17), (.int .i64 a18), (.int .i64 a19), (.int .i64 a20)])]).bind fun r0 =>
 (go k spec_WorldOk [(.agg [(.int .i64 a0), (.arr false a1z (.r3 a1)), (.arr false a2z (.ints .i64 a2)), (.arr false a3z (.ints .i64 a3)), (.arr false a4z (.ints .i64 a4)), (.int .i64 a5), (.int .i64 a6), (.int .i64 a7), (.int .i64 a8), (.int .i64 a9), (.int .i64 a10), (.int .i64 a11), (.int .i64 a12), (.int .i64 a13), (.int .i64 a14), (.int .i64 a15), (.int .i64 a16), (.int .i64 a17), (.int .i64 a18), (.int .i64 a19), (.int .i64 a20)])]).bind fun r1 =>
 cond (!bit (nth r1 0))
 (some [(.agg [(.int .i64 (D.toInt (D.cell 0 (nth r0 0)))), (.arr true (D.nil (D.cell 1 (nth r0 0))) (.r3 (D.r3 (D.cell 1 (nth r0 0))))), (.arr true (D.nil (D.cell 2 (nth r0 0))) (.ints .i64 (D.ints (D.cell 2 (nth r0 0))))), (.arr true (D.nil (D.cell 3 (nth r0 0))) (.ints .i64 (D.ints (D.cell 3 (nth r0 0))))), (.arr true (D.nil (D.cell 4 (nth r0 0))) (.ints .i64 (D.ints (D.cell 4 (nth r0 0))))), (.int .i64 (D.toInt (D.cell 5 (nth r0 0)))), (.int .i64 (D.toInt (D.cell 6 (nth r0 0)))), (.int .i64 (D.toInt (D.cell 7 (nth r0 0)))), (.int .i64 (D.toInt (D.cell 8 (nth r0 0)))), (.int .i64 (D.toInt (D.cell 9 (nth r0 0)))), (.int .i64 (D.toInt (D.cell 10 (nth r0 0)))), (.int .i64 (D.toInt (D.cell 11 (nth r0 0)))), (.int .i64 (D.toInt (D.cell (12 : Nat) (nth r0 0)))), (.int .i64 (D.toInt (D.cell (13 : Nat) (nth r0 0)))), (.int .i64 (D.toInt (D.cell (14 : Nat) (nth r0 0)))), (.int .i64 (D.toInt (D.cell (15 : Nat) (nth r0 0)))), (.int .i64 (D.toInt (D.cell (16 : Nat) (nth r0 0)))), (.int .i64 (D.toInt (D.cell (17 : Nat) (nth r0 0)))), (.int .i64 (D.toInt (D.cell (18 : Nat) (nth r0 0)))), (.int .i64 (D.toInt (D.cell (19 : Nat) (nth r0 0)))), (.int .i64 (D.toInt (D.cell (20 : Nat) (nth r0 0))))]), (.bool false)])
 ((go k spec_l01In [(.int .i64 b), (.int .i64 (0 : Int)), (.int .i64 ((100 : Int)))]).bind fun r2 =>
 cond (!bit (nth r2 0))
 (some [(.agg [(.int .i64 (D.toInt (D.cell 0 (nth r0 0)))), (.arr true (D.nil (D.cell 1 (nth r0 0))) (.r3 (D.r3 (D.cell 1 (nth r0 0))))), (.arr true (D.nil (D.cell 2 (nth r0 0))) (.ints .i64 (D.ints (D.cell 2 (nth r0 0))))), (.arr true (D.nil (D.cell 3 (nth r0 0))) (.ints .i64 (D.ints (D.cell 3 (nth r0 0))))), (.arr true (D.nil (D.cell 4 (nth r0 0))) (.ints .i64 (D.ints (D.cell 4 (nth r0 0))))), (.int .i64 (D.toInt (D.cell 5 (nth r0 0)))), (.int .i64 (D.toInt (D.cell 6 (nth r0 0)))), (.int .i64 (D.toInt (D.cell 7 (nth r0 0)))), (.int .i64 (D.toInt (D.cell 8 (nth r0 0)))), (.int .i64 (D.toInt (D.cell 9 (nth r0 0)))), (.int .i64 (D.toInt (D.cell 10 (nth r0 0)))), (.int .i64 (D.toInt (D.cell 11 (nth r0 0)))), (.int .i64 (D.toInt (D.cell (12 : Nat) (nth r0 0)))), (.int .i64 (D.toInt (D.cell (13 : Nat) (nth r0 0)))), (.int .i64 (D.toInt (D.cell (14 : Nat) (nth r0 0)))), (.int .i64 (D.toInt (D.cell (15 : Nat) (nth r0 0)))), (.int .i64 (D.toInt (D.cell (16 : Nat) (nth r0 0)))), (.int .i64 (D.toInt (D.cell (17 : Nat) (nth r0 0)))), (.int .i64 (D.toInt (D.cell (18 : Nat) (nth r0 0)))), (.int .i64 (D.toInt (D.cell (19 : Nat) (nth r0 0)))), (.int .i64 (D.toInt (D.cell (20 : Nat) (nth r0 0))))]), (.bool false)])
 (lp k spec_Advance [] [] 5 k (qwz b (0 : Int) true [] true [] true [] true [] (0 : Int) (0 : Int) (0 : Int) (0 : Int) (0 : Int) (0 : Int) (0 : Int) (0 : Int) (0 : Int) (0 : Int) (0 : Int) (0 : Int) (0 : Int) (0 : Int) (0 : Int) (0 : Int) (0 : Int) (D.nil (D.cell 1 (nth r0 0))) (D.r3 (D.cell 1 (nth r0 0))) (D.nil (D.cell 2 (nth r0 0))) (D.ints (D.cell 2 (nth r0 0))) (D.nil (D.cell 3 (nth r0 0))) (D.ints (D.cell 3 (nth r0 0))) (D.nil (D.cell 4 (nth r0 0))) (D.ints (D.cell 4 (nth r0 0))) (D.toInt (D.cell 0 (nth r0 0))) (D.toInt (D.cell 5 (nth r0 0))) (D.toInt (D.cell 6 (nth r0 0))) (D.toInt (D.cell 7 (nth r0 0))) (D.toInt (D.cell 8 (nth r0 0))) (D.toInt (D.cell 9 (nth r0 0))) (D.toInt (D.cell 10 (nth r0 0))) (D.toInt (D.cell 11 (nth r0 0))) (D.toInt (D.cell (12 : Nat) (nth r0 0))) (D.toInt (D.cell (13 : Nat) (nth r0 0))) (D.toInt (D.cell (14 : Nat) (nth r0 0))) (D.toInt (D.cell (15 : Nat) (nth r0 0))) (D.toInt (D.cell (16 : Nat) (nth r0 0))) (D.toInt (D.cell (17 : Nat) (nth r0 0))) (D.toInt (D.cell (18 : Nat) (nth r0 0))) (D.toInt (D.cell (19 : Nat) (nth r0 0))) (D.toInt (D.cell (20 : Nat) (nth r0 0)))))) := by kernel_rfl
theorem qpp (k n : Nat) (fu : List (Nat × Nat)) (x0 x1 : Int) (z2 : Bool) (l3 : List (Int × Int × Int)) (z4 : Bool) (l5 : List Int) (z6 : Bool) (l7 : List Int) (z8 : Bool) (l9 : List Int) (x10 x11 x12 x13 x14 x15 x16 x17 x18 x19 x20 x21 x22 x23 x24 x25 x26 : Int) (z27 : Bool) (l28 : List (Int × Int × Int)) (z29 : Bool) (l30 : List Int) (z31 : Bool) (l32 : List Int) (z33 : Bool) (l34 : List Int) (x35 x36 x37 x38 x39 x40 x41 x42 x43 x44 x45 x46 x47 x48 x49 x50 x51 : Int) : lp k spec_Advance [] fu 5 (n + 1) (qwz x0 x1 z2 l3 z4 l5 z6 l7 z8 l9 x10 x11 x12 x13 x14 x15 x16 x17 x18 x19 x20 x21 x22 x23 x24 x25 x26 z27 l28 z29 l30 z31 l32 z33 l34 x35 x36 x37 x38 x39 x40 x41 x42 x43 x44 x45 x46 x47 x48 x49 x50 x51) =
 cond (decide (x1 < x0))
 ((go k spec_l18Macro [(.agg [(.int .i64 x35), (.arr false z27 (.r3 l28)), (.arr false z29 (.ints .i64 l30)), (.arr false z31 (.ints .i64 l32)), (.arr false z33 (.ints .i64 l34))]), (.agg [(.int .i64 x36), (.int .i64 x37), (.int .i64 x38), (.int .i64 x39), (.int .i64 x40), (.int .i64 x41), (.int .i64 x42), (.int .i64 x43), (.int .i64 x44)]), (.int .i64 x45)]).bind fun r0 =>
 (go k spec_LedgerAdd [(.agg [(.int .i64 x46), (.int .i64 x47), (.int .i64 x48), (.int .i64 x49)]), (.agg [(.int .i64 (D.toInt (D.cell 0 (nth r0 1)))), (.int .i64 (D.toInt (D.cell 1 (nth r0 1)))), (.int .i64 (D.toInt (D.cell 2 (nth r0 1)))), (.int .i64 (D.toInt (D.cell 3 (nth r0 1))))])]).bind fun r1 =>
 lp k spec_Advance [] fu 5 n (qwz x0 (IntKind.wrap .i64 (x1 + (1 : Int))) z2 l3 z4 l5 z6 l7 z8 l9 x10 x11 x12 x13 x14 x15 x16 x17 x18 x19 x20 x21 x22 x23 x24 x25 x26 (D.nil (D.cell 1 (nth r0 0))) (D.r3 (D.cell 1 (nth r0 0))) (D.nil (D.cell 2 (nth r0 0))) (D.ints (D.cell 2 (nth r0 0))) (D.nil (D.cell 3 (nth r0 0))) (D.ints (D.cell 3 (nth r0 0))) (D.nil (D.cell 4 (nth r0 0))) (D.ints (D.cell 4 (nth r0 0))) (D.toInt (D.cell 0 (nth r0 0))) x36 x37 x38 x39 x40 x41 x42 x43 x44 (IntKind.wrap .i64 (x45 + (1 : Int))) (D.toInt (D.cell 0 (nth r1 0))) (D.toInt (D.cell 1 (nth r1 0))) (D.toInt (D.cell 2 (nth r1 0))) (D.toInt (D.cell 3 (nth r1 0))) x50 x51))
 ((go k spec_l36Copy [(.agg [(.int .i64 x35), (.arr false z27 (.r3 l28)), (.arr false z29 (.ints .i64 l30)), (.arr false z31 (.ints .i64 l32)), (.arr false z33 (.ints .i64 l34)), (.int .i64 x36), (.int .i64 x37), (.int .i64 x38), (.int .i64 x39), (.int .i64 x40), (.int .i64 x41), (.int .i64 x42), (.int .i64 x43), (.int .i64 x44), (.int .i64 x45), (.int .i64 x46), (.int .i64 x47), (.int .i64 x48), (.int .i64 x49), (.int .i64 x50), (.int .i64 x51)])]).bind fun r2 =>
 some [(.agg [(.int .i64 (D.toInt (D.cell 0 (nth r2 0)))), (.arr true (D.nil (D.cell 1 (nth r2 0))) (.r3 (D.r3 (D.cell 1 (nth r2 0))))), (.arr true (D.nil (D.cell 2 (nth r2 0))) (.ints .i64 (D.ints (D.cell 2 (nth r2 0))))), (.arr true (D.nil (D.cell 3 (nth r2 0))) (.ints .i64 (D.ints (D.cell 3 (nth r2 0))))), (.arr true (D.nil (D.cell 4 (nth r2 0))) (.ints .i64 (D.ints (D.cell 4 (nth r2 0))))), (.int .i64 (D.toInt (D.cell 5 (nth r2 0)))), (.int .i64 (D.toInt (D.cell 6 (nth r2 0)))), (.int .i64 (D.toInt (D.cell 7 (nth r2 0)))), (.int .i64 (D.toInt (D.cell 8 (nth r2 0)))), (.int .i64 (D.toInt (D.cell 9 (nth r2 0)))), (.int .i64 (D.toInt (D.cell 10 (nth r2 0)))), (.int .i64 (D.toInt (D.cell 11 (nth r2 0)))), (.int .i64 (D.toInt (D.cell (12 : Nat) (nth r2 0)))), (.int .i64 (D.toInt (D.cell (13 : Nat) (nth r2 0)))), (.int .i64 (D.toInt (D.cell (14 : Nat) (nth r2 0)))), (.int .i64 (D.toInt (D.cell (15 : Nat) (nth r2 0)))), (.int .i64 (D.toInt (D.cell (16 : Nat) (nth r2 0)))), (.int .i64 (D.toInt (D.cell (17 : Nat) (nth r2 0)))), (.int .i64 (D.toInt (D.cell (18 : Nat) (nth r2 0)))), (.int .i64 (D.toInt (D.cell (19 : Nat) (nth r2 0)))), (.int .i64 (D.toInt (D.cell (20 : Nat) (nth r2 0))))]), (.bool true)]) := by kernel_rfl
def qv0 (x0 x1 : Int) (z2 : Bool) (l3 : List (Int × Int × Int)) (z4 : Bool) (l5 : List Int) (z6 : Bool) (l7 : List Int) (z8 : Bool) (l9 : List Int) (x10 x11 x12 x13 x14 x15 x16 x17 x18 x19 x20 x21 x22 x23 x24 x25 x26 : Int) (z27 : Bool) (l28 : List (Int × Int × Int)) (z29 : Bool) (l30 : List Int) (z31 : Bool) (l32 : List Int) (z33 : Bool) (l34 : List Int) (x35 x36 x37 x38 x39 x40 x41 x42 x43 x44 x45 x46 x47 x48 x49 x50 x51 : Int) : St := ⟨fill 37 [(4, (.ptr 4 0 0)), (6, (.ptr 9 0 0)), (18, (.int .i64 x0)), (19, (.int .i64 x1))], [], [(.arr true z2 (.r3 l3)), (.arr true z4 (.ints .i64 l5)), (.arr true z6 (.ints .i64 l7)), (.arr true z8 (.ints .i64 l9)), (.box true [(.int .i64 x10), (.sl 0 none), (.sl 1 none), (.sl 2 none), (.sl 3 none), (.int .i64 x11), (.int .i64 x12), (.int .i64 x13), (.int .i64 x14), (.int .i64 x15), (.int .i64 x16), (.int .i64 x17), (.int .i64 x18), (.int .i64 x19), (.int .i64 x20), (.int .i64 x21), (.int .i64 x22), (.int .i64 x23), (.int .i64 x24), (.int .i64 x25), (.int .i64 x26)]), (.arr true z27 (.r3 l28)), (.arr true z29 (.ints .i64 l30)), (.arr true z31 (.ints .i64 l32)), (.arr true z33 (.ints .i64 l34)), (.box true [(.int .i64 x35), (.sl 5 none), (.sl 6 none), (.sl 7 none), (.sl 8 none), (.int .i64 x36), (.int .i64 x37), (.int .i64 x38), (.int .i64 x39), (.int .i64 x40), (.int .i64 x41), (.int .i64 x42), (.int .i64 x43), (.int .i64 x44), (.int .i64 x45), (.int .i64 x46), (.int .i64 x47), (.int .i64 x48), (.int .i64 x49), (.int .i64 x50), (.int .i64 x51)])]⟩
theorem qh8 (k : Nat) (a0 : Int) (a1z : Bool) (a1 : List (Int × Int × Int)) (a2z : Bool) (a2 : List Int) (a3z : Bool) (a3 : List Int) (a4z : Bool) (a4 : List Int) (a5 a6 a7 a8 a9 a10 a11 a12 a13 a14 a15 a16 a17 a18 a19 a20 b : Int) : go (k + 1) impl_Advance [(.agg [(.int .i64 a0), (.arr false a1z (.r3 a1)), (.arr false a2z (.ints .i64 a2)), (.arr false a3z (.ints .i64 a3)), (.arr false a4z (.ints .i64 a4)), (.int .i64 a5), (.int .i64 a6), (.int .i64 a7), (.int .i64 a8), (.int .i64 a9), (.int .i64 a10), (.int .i64 a11), (.int .i64 a12), (.int .i64 a13), (.int .i64 a14), (.int .i64 a15), (.int .i64 a16), (.int .i64 a17), (.int .i64 a18), (.int .i64 a19), (.int .i64 a20)]), (.int .i64 b)] =
 (go k impl_copyWorld [(.agg [(.int .i64 a0), (.arr false a1z (.r3 a1)), (.arr false a2z (.ints .i64 a2)), (.arr false a3z (.ints .i64 a3)), (.arr false a4z (.ints .i64 a4)), (.int .i64 a5), (.int .i64 a6), (.int .i64 a7), (.int .i64 a8), (.int .i64 a9), (.int .i64 a10), (.int .i64 a11), (.int .i64 a12), (.int .i64 a13), (.int .i64 a14), (.int .i64 a15), (.int .i64 a16), (.int .i64 a17), (.int .i64 a18), (.int .i64 a19), (.int .i64 a20)])]).bind fun r0 =>
 (go k impl_WorldOk [(.agg [(.int .i64 a0), (.arr false a1z (.r3 a1)), (.arr false a2z (.ints .i64 a2)), (.arr false a3z (.ints .i64 a3)), (.arr false a4z (.ints .i64 a4)), (.int .i64 a5), (.int .i64 a6), (.int .i64 a7), (.int .i64 a8), (.int .i64 a9), (.int .i64 a10), (.int .i64 a11), (.int .i64 a12), (.int .i64 a13), (.int .i64 a14), (.int .i64 a15), (.int .i64 a16), (.int .i64 a17), (.int .i64 a18), (.int .i64 a19), (.int .i64 a20)])]).bind fun r1 =>
 cond (!bit (nth r1 0))
 (some [(.agg [(.int .i64 (D.toInt (D.cell 0 (nth r0 0)))), (.arr true (D.nil (D.cell 1 (nth r0 0))) (.r3 (D.r3 (D.cell 1 (nth r0 0))))), (.arr true (D.nil (D.cell 2 (nth r0 0))) (.ints .i64 (D.ints (D.cell 2 (nth r0 0))))), (.arr true (D.nil (D.cell 3 (nth r0 0))) (.ints .i64 (D.ints (D.cell 3 (nth r0 0))))), (.arr true (D.nil (D.cell 4 (nth r0 0))) (.ints .i64 (D.ints (D.cell 4 (nth r0 0))))), (.int .i64 (D.toInt (D.cell 5 (nth r0 0)))), (.int .i64 (D.toInt (D.cell 6 (nth r0 0)))), (.int .i64 (D.toInt (D.cell 7 (nth r0 0)))), (.int .i64 (D.toInt (D.cell 8 (nth r0 0)))), (.int .i64 (D.toInt (D.cell 9 (nth r0 0)))), (.int .i64 (D.toInt (D.cell 10 (nth r0 0)))), (.int .i64 (D.toInt (D.cell 11 (nth r0 0)))), (.int .i64 (D.toInt (D.cell (12 : Nat) (nth r0 0)))), (.int .i64 (D.toInt (D.cell (13 : Nat) (nth r0 0)))), (.int .i64 (D.toInt (D.cell (14 : Nat) (nth r0 0)))), (.int .i64 (D.toInt (D.cell (15 : Nat) (nth r0 0)))), (.int .i64 (D.toInt (D.cell (16 : Nat) (nth r0 0)))), (.int .i64 (D.toInt (D.cell (17 : Nat) (nth r0 0)))), (.int .i64 (D.toInt (D.cell (18 : Nat) (nth r0 0)))), (.int .i64 (D.toInt (D.cell (19 : Nat) (nth r0 0)))), (.int .i64 (D.toInt (D.cell (20 : Nat) (nth r0 0))))]), (.bool false)])
 ((go k impl_within [(.int .i64 b), (.int .i64 (0 : Int)), (.int .i64 ((100 : Int)))]).bind fun r2 =>
 cond (!bit (nth r2 0))
 (some [(.agg [(.int .i64 (D.toInt (D.cell 0 (nth r0 0)))), (.arr true (D.nil (D.cell 1 (nth r0 0))) (.r3 (D.r3 (D.cell 1 (nth r0 0))))), (.arr true (D.nil (D.cell 2 (nth r0 0))) (.ints .i64 (D.ints (D.cell 2 (nth r0 0))))), (.arr true (D.nil (D.cell 3 (nth r0 0))) (.ints .i64 (D.ints (D.cell 3 (nth r0 0))))), (.arr true (D.nil (D.cell 4 (nth r0 0))) (.ints .i64 (D.ints (D.cell 4 (nth r0 0))))), (.int .i64 (D.toInt (D.cell 5 (nth r0 0)))), (.int .i64 (D.toInt (D.cell 6 (nth r0 0)))), (.int .i64 (D.toInt (D.cell 7 (nth r0 0)))), (.int .i64 (D.toInt (D.cell 8 (nth r0 0)))), (.int .i64 (D.toInt (D.cell 9 (nth r0 0)))), (.int .i64 (D.toInt (D.cell 10 (nth r0 0)))), (.int .i64 (D.toInt (D.cell 11 (nth r0 0)))), (.int .i64 (D.toInt (D.cell (12 : Nat) (nth r0 0)))), (.int .i64 (D.toInt (D.cell (13 : Nat) (nth r0 0)))), (.int .i64 (D.toInt (D.cell (14 : Nat) (nth r0 0)))), (.int .i64 (D.toInt (D.cell (15 : Nat) (nth r0 0)))), (.int .i64 (D.toInt (D.cell (16 : Nat) (nth r0 0)))), (.int .i64 (D.toInt (D.cell (17 : Nat) (nth r0 0)))), (.int .i64 (D.toInt (D.cell (18 : Nat) (nth r0 0)))), (.int .i64 (D.toInt (D.cell (19 : Nat) (nth r0 0)))), (.int .i64 (D.toInt (D.cell (20 : Nat) (nth r0 0))))]), (.bool false)])
 (lp k impl_Advance [] [] 5 k (qv0 b (0 : Int) true [] true [] true [] true [] (0 : Int) (0 : Int) (0 : Int) (0 : Int) (0 : Int) (0 : Int) (0 : Int) (0 : Int) (0 : Int) (0 : Int) (0 : Int) (0 : Int) (0 : Int) (0 : Int) (0 : Int) (0 : Int) (0 : Int) (D.nil (D.cell 1 (nth r0 0))) (D.r3 (D.cell 1 (nth r0 0))) (D.nil (D.cell 2 (nth r0 0))) (D.ints (D.cell 2 (nth r0 0))) (D.nil (D.cell 3 (nth r0 0))) (D.ints (D.cell 3 (nth r0 0))) (D.nil (D.cell 4 (nth r0 0))) (D.ints (D.cell 4 (nth r0 0))) (D.toInt (D.cell 0 (nth r0 0))) (D.toInt (D.cell 5 (nth r0 0))) (D.toInt (D.cell 6 (nth r0 0))) (D.toInt (D.cell 7 (nth r0 0))) (D.toInt (D.cell 8 (nth r0 0))) (D.toInt (D.cell 9 (nth r0 0))) (D.toInt (D.cell 10 (nth r0 0))) (D.toInt (D.cell 11 (nth r0 0))) (D.toInt (D.cell (12 : Nat) (nth r0 0))) (D.toInt (D.cell (13 : Nat) (nth r0 0))) (D.toInt (D.cell (14 : Nat) (nth r0 0))) (D.toInt (D.cell (15 : Nat) (nth r0 0))) (D.toInt (D.cell (16 : Nat) (nth r0 0))) (D.toInt (D.cell (17 : Nat) (nth r0 0))) (D.toInt (D.cell (18 : Nat) (nth r0 0))) (D.toInt (D.cell (19 : Nat) (nth r0 0))) (D.toInt (D.cell (20 : Nat) (nth r0 0)))))) := by kernel_rfl
theorem qoq (k n : Nat) (fu : List (Nat × Nat)) (x0 x1 : Int) (z2 : Bool) (l3 : List (Int × Int × Int)) (z4 : Bool) (l5 : List Int) (z6 : Bool) (l7 : List Int) (z8 : Bool) (l9 : List Int) (x10 x11 x12 x13 x14 x15 x16 x17 x18 x19 x20 x21 x22 x23 x24 x25 x26 : Int) (z27 : Bool) (l28 : List (Int × Int × Int)) (z29 : Bool) (l30 : List Int) (z31 : Bool) (l32 : List Int) (z33 : Bool) (l34 : List Int) (x35 x36 x37 x38 x39 x40 x41 x42 x43 x44 x45 x46 x47 x48 x49 x50 x51 : Int) : lp k impl_Advance [] fu 5 (n + 1) (qv0 x0 x1 z2 l3 z4 l5 z6 l7 z8 l9 x10 x11 x12 x13 x14 x15 x16 x17 x18 x19 x20 x21 x22 x23 x24 x25 x26 z27 l28 z29 l30 z31 l32 z33 l34 x35 x36 x37 x38 x39 x40 x41 x42 x43 x44 x45 x46 x47 x48 x49 x50 x51) =
 cond (decide (x1 < x0))
 ((go k impl_State_runMacro [(.ptr true [(.int .i64 x35), (.arr true z27 (.r3 l28)), (.arr true z29 (.ints .i64 l30)), (.arr true z31 (.ints .i64 l32)), (.arr true z33 (.ints .i64 l34))]), (.agg [(.int .i64 x36), (.int .i64 x37), (.int .i64 x38), (.int .i64 x39), (.int .i64 x40), (.int .i64 x41), (.int .i64 x42), (.int .i64 x43), (.int .i64 x44)]), (.int .i64 x45)]).bind fun r0 =>
 (go k impl_LedgerAdd [(.agg [(.int .i64 x46), (.int .i64 x47), (.int .i64 x48), (.int .i64 x49)]), (.agg [(.int .i64 (D.toInt (D.cell 0 (nth r0 0)))), (.int .i64 (D.toInt (D.cell 1 (nth r0 0)))), (.int .i64 (D.toInt (D.cell 2 (nth r0 0)))), (.int .i64 (D.toInt (D.cell 3 (nth r0 0))))])]).bind fun r1 =>
 lp k impl_Advance [] fu 5 n (qv0 x0 (IntKind.wrap .i64 (x1 + (1 : Int))) z2 l3 z4 l5 z6 l7 z8 l9 x10 x11 x12 x13 x14 x15 x16 x17 x18 x19 x20 x21 x22 x23 x24 x25 x26 (D.nil (D.cell 1 (nth r0 1))) (D.r3 (D.cell 1 (nth r0 1))) (D.nil (D.cell 2 (nth r0 1))) (D.ints (D.cell 2 (nth r0 1))) (D.nil (D.cell 3 (nth r0 1))) (D.ints (D.cell 3 (nth r0 1))) (D.nil (D.cell 4 (nth r0 1))) (D.ints (D.cell 4 (nth r0 1))) (D.toInt (D.cell 0 (nth r0 1))) x36 x37 x38 x39 x40 x41 x42 x43 x44 (IntKind.wrap .i64 (x45 + (1 : Int))) (D.toInt (D.cell 0 (nth r1 0))) (D.toInt (D.cell 1 (nth r1 0))) (D.toInt (D.cell 2 (nth r1 0))) (D.toInt (D.cell 3 (nth r1 0))) x50 x51))
 (some [(.agg [(.int .i64 x35), (.arr true z27 (.r3 l28)), (.arr true z29 (.ints .i64 l30)), (.arr true z31 (.ints .i64 l32)), (.arr true z33 (.ints .i64 l34)), (.int .i64 x36), (.int .i64 x37), (.int .i64 x38), (.int .i64 x39), (.int .i64 x40), (.int .i64 x41), (.int .i64 x42), (.int .i64 x43), (.int .i64 x44), (.int .i64 x45), (.int .i64 x46), (.int .i64 x47), (.int .i64 x48), (.int .i64 x49), (.int .i64 x50), (.int .i64 x51)]), (.bool true)]) := by kernel_rfl

end Go.Proofs.YtoldpdhhfmlckaaGreat
end
section
namespace Go.Proofs.YtoldpdhhfmlckaaGreat
open Go.Ev
set_option maxRecDepth 20000
abbrev wdR (w : Wd) : D := .agg [.int .i64 (w.r), .arr false false (.r3 (w.s.1)), .arr false false (.ints .i64 (w.s.2.1)), .arr false false (.ints .i64 (w.s.2.2)), .arr false false (.ints .i64 (w.b)), .int .i64 (w.p.bi), .int .i64 (w.p.bs), .int .i64 (w.p.bo), .int .i64 (w.p.rain), .int .i64 (w.p.loss), .int .i64 (w.p.dec), .int .i64 (w.p.high), .int .i64 (w.p.low), .int .i64 (w.p.every), .int .i64 (w.k), .int .i64 (w.ld.mi), .int .i64 (w.ld.mo), .int .i64 (w.ld.ti), .int .i64 (w.ld.ou), .int .i64 (w.f), .int .i64 (w.g)]
abbrev wdO (w : Wd) : D := .agg [.int .i64 (w.r), .arr true false (.r3 (w.s.1)), .arr true false (.ints .i64 (w.s.2.1)), .arr true false (.ints .i64 (w.s.2.2)), .arr true false (.ints .i64 (w.b)), .int .i64 (w.p.bi), .int .i64 (w.p.bs), .int .i64 (w.p.bo), .int .i64 (w.p.rain), .int .i64 (w.p.loss), .int .i64 (w.p.dec), .int .i64 (w.p.high), .int .i64 (w.p.low), .int .i64 (w.p.every), .int .i64 (w.k), .int .i64 (w.ld.mi), .int .i64 (w.ld.mo), .int .i64 (w.ld.ti), .int .i64 (w.ld.ou), .int .i64 (w.f), .int .i64 (w.g)]
structure Sml (w : Wd) : Prop where
  h1 : (w.s.1.length : Int) ≤ 1048576
  h2 : (w.s.2.1.length : Int) ≤ 1048576
  h3 : (w.s.2.2.length : Int) ≤ 1048576
  h4 : (w.b.length : Int) ≤ 1048576
structure WdF (w : Wd) : Prop where
  F : StF w.r w.s.1 w.s.2.1 w.s.2.2 w.b
  P : PlF w.p
  k : 0 ≤ w.k ∧ w.k ≤ 100000
  L : LdB w.ld 1000000000000000
  f : isum w.s.2.1 - w.ld.mi + w.ld.mo = w.f
  g : isum w.s.2.2 - w.ld.ti + w.ld.ou = w.g
theorem wdF {w : Wd} (h : wdOk w = true) : WdF w := by
  unfold wdOk q0j qqv at h
  simp only [Bool.and_eq_true, decide_eq_true_eq] at h
  obtain ⟨h1, h2, h3, ⟨h4, h5, h6, h7⟩, h8, h9⟩ := h
  exact ⟨stF.1 h1, qun h2, qn9.1 h3, ⟨qn9.1 h4, qn9.1 h5, qn9.1 h6, qn9.1 h7⟩, h8, h9⟩
theorem StF.sml {w : Wd} (F : StF w.r w.s.1 w.s.2.1 w.s.2.2 w.b) : Sml w := by
  have := F.len; have := F.ml; have := F.tl; have := F.bl; have := F.rr
  exact ⟨by omega, by omega, by omega, by omega⟩
def Wd.next (w : Wd) : Wd := { w with s := (mac w.p w.b w.k w.s).1, k := w.k + 1, ld := w.ld.add (mac w.p w.b w.k w.s).2 }
def advN : Nat → Wd → Wd
  | 0, w => w
  | n + 1, w => advN n w.next
structure Adv (w : Wd) (i : Nat) : Prop where
  F : StF w.r w.s.1 w.s.2.1 w.s.2.2 w.b
  P : PlF w.p
  k : 0 ≤ w.k ∧ w.k ≤ 100000 + i
  L : LdB w.ld (1000000000000000 + 40000000000 * i)
theorem Adv.next {w : Wd} {i : Nat} (A : Adv w i) : Adv w.next (i + 1) := by
  have h := qs9 (s := w.s) A.F A.P w.k
  have a := A.k; have l := A.L; have q := h.2
  have l1 := l.mi; have l2 := l.mo; have l3 := l.ti; have l4 := l.ou
  have q1 := q.mi; have q2 := q.mo; have q3 := q.ti; have q4 := q.ou
  refine ⟨h.1, A.P, ?_, ⟨?_, ?_, ?_, ?_⟩⟩
  · show 0 ≤ w.k + 1 ∧ w.k + 1 ≤ _; omega
  · show 0 ≤ w.ld.mi + _ ∧ w.ld.mi + _ ≤ _; omega
  · show 0 ≤ w.ld.mo + _ ∧ w.ld.mo + _ ≤ _; omega
  · show 0 ≤ w.ld.ti + _ ∧ w.ld.ti + _ ≤ _; omega
  · show 0 ≤ w.ld.ou + _ ∧ w.ld.ou + _ ≤ _; omega
theorem qaw : ∀ (n : Nat) (w : Wd) (i : Nat), Adv w i → Adv (advN n w) (i + n)
  | 0, w, i, A => A
  | n + 1, w, i, A => by have := qaw n w.next (i + 1) A.next; rw [show i + 1 + n = i + (n + 1) by omega] at this; exact this
theorem qc2 (k : Nat) (hk : 2000000 ≤ k) (w : Wd) (h : Sml w) : go (k + 4) impl_copyWorld [wdR w] = some [wdO w] := qc1 k hk _ _ _ _ _ _ _ _ _ _ _ _ _ _ _ _ _ _ _ _ _ h.h1 h.h2 h.h3 h.h4
theorem qgg (k : Nat) (hk : 2000000 ≤ k) (w : Wd) (h : Sml w) : go (k + 3) spec_l36Copy [wdR w] = some [wdO w] := qgf k hk _ _ _ _ _ _ _ _ _ _ _ _ _ _ _ _ _ _ _ _ _ _ _ _ _ h.h1 h.h2 h.h3 h.h4
theorem qcs (k : Nat) (hk : 2000000 ≤ k) (w : Wd) (h : Sml w) : go (k + 9) impl_WorldOk [wdR w] = some [.bool (wdOk w)] := qcr k hk _ _ _ _ _ _ _ _ _ _ _ _ _ _ _ _ _ _ _ _ _ _ _ _ _ h.h1 h.h4
theorem qfe (k : Nat) (hk : 2000000 ≤ k) (w : Wd) (h : Sml w) : go (k + 8) spec_WorldOk [wdR w] = some [.bool (wdOk w)] := qfd k hk _ _ _ _ _ _ _ _ _ _ _ _ _ _ _ _ _ _ _ _ _ _ _ _ _ h.h1 h.h4
set_option maxHeartbeats 1000000 in
theorem qrb (k : Nat) (hk : 2000000 ≤ k) (fu : List (Nat × Nat)) (c : Int) (hc : c ≤ 100) (z2 : Bool) (l3 : List Cell) (z4 : Bool) (l5 : List Int) (z6 : Bool) (l7 : List Int) (z8 : Bool) (l9 : List Int) (x10 x11 x12 x13 x14 x15 x16 x17 x18 x19 x20 x21 x22 x23 x24 x25 x26 : Int) : ∀ (N n i : Nat) (w : Wd), (i : Int) + n = c → n < N → Adv w i →
    lp (k + 11) impl_Advance [] fu 5 (N) (qv0 c (i : Int) z2 l3 z4 l5 z6 l7 z8 l9 x10 x11 x12 x13 x14 x15 x16 x17 x18 x19 x20 x21 x22 x23 x24 x25 x26 false w.s.1 false w.s.2.1 false w.s.2.2 false w.b w.r w.p.bi w.p.bs w.p.bo w.p.rain w.p.loss w.p.dec w.p.high w.p.low w.p.every w.k w.ld.mi w.ld.mo w.ld.ti w.ld.ou w.f w.g) = some [wdO (advN n w), .bool true]
  | 0, n, i, w, hi, hN, A => by omega
  | N + 1, 0, i, w, hi, hN, A => by
    rw [qoq]
    simp (disch := omega) only [dF, qgp, q0l, qhj]; rfl
  | N + 1, n + 1, i, w, hi, hN, A => by
    rw [qoq]
    have a := A.k; have l := A.L
    have h := (qs9 (s := w.s) A.F A.P w.k).2
    have l1 := l.mi; have l2 := l.mo; have l3' := l.ti; have l4 := l.ou
    have q1 := h.mi; have q2 := h.mo; have q3 := h.ti; have q4 := h.ou
    have eM := qdq k (by omega) w.r w.s w.b A.F w.p A.P w.k (by omega)
    have eL := qb5 (k + 10) w.ld (mac w.p w.b w.k w.s).2 (by omega) (by omega) (by omega) (by omega)
    have IH := qrb k hk fu c hc z2 l3 z4 l5 z6 l7 z8 l9 x10 x11 x12 x13 x14 x15 x16 x17 x18 x19 x20 x21 x22 x23 x24 x25 x26 N n (i + 1) w.next (by omega) (by omega) A.next
    rw [show advN (n + 1) w = advN n w.next from rfl]
    simp only [Wd.next] at IH ⊢
    simp (disch := omega) only [dT, eM, qgp, q0l, qa9, nth0, qgr, qzu, qgs, qg3, qg5, eL, nth1, qu1, qt3, quv, qu2, qob, qu3, qu4, qu0, IH, qhl]
set_option maxHeartbeats 1000000 in
theorem qr8 (k : Nat) (hk : 2000000 ≤ k) (fu : List (Nat × Nat)) (c : Int) (hc : c ≤ 100) (z2 : Bool) (l3 : List Cell) (z4 : Bool) (l5 : List Int) (z6 : Bool) (l7 : List Int) (z8 : Bool) (l9 : List Int) (x10 x11 x12 x13 x14 x15 x16 x17 x18 x19 x20 x21 x22 x23 x24 x25 x26 : Int) : ∀ (N n i : Nat) (w : Wd), (i : Int) + n = c → n < N → Adv w i →
    lp (k + 8) spec_Advance [] fu 5 (N) (qwz c (i : Int) z2 l3 z4 l5 z6 l7 z8 l9 x10 x11 x12 x13 x14 x15 x16 x17 x18 x19 x20 x21 x22 x23 x24 x25 x26 false w.s.1 false w.s.2.1 false w.s.2.2 false w.b w.r w.p.bi w.p.bs w.p.bo w.p.rain w.p.loss w.p.dec w.p.high w.p.low w.p.every w.k w.ld.mi w.ld.mo w.ld.ti w.ld.ou w.f w.g) = some [wdO (advN n w), .bool true]
  | 0, n, i, w, hi, hN, A => by omega
  | N + 1, 0, i, w, hi, hN, A => by
    rw [qpp]
    have eC := qgg (k + 5) (by omega) w A.F.sml
    simp (disch := omega) only [dF, qgp, q0l, eC, qa9, nth0, qgr, qzu, qgs, qt3, quv, qg3, qob, qg5, qg6, qg7, qg8, qg9, qha, qhb, qgt, qgu, qgv, qgw, qgx, qgy, qgz, qg0, qg1, qg2, qg4, qhj]
    rfl
  | N + 1, n + 1, i, w, hi, hN, A => by
    rw [qpp]
    have a := A.k; have l := A.L
    have h := (qs9 (s := w.s) A.F A.P w.k).2
    have l1 := l.mi; have l2 := l.mo; have l3' := l.ti; have l4 := l.ou
    have q1 := h.mi; have q2 := h.mo; have q3 := h.ti; have q4 := h.ou
    have eM := qgb k (by omega) w.r w.s w.b A.F w.p A.P w.k (by omega)
    have eL := qeu (k + 7) w.ld (mac w.p w.b w.k w.s).2 (by omega) (by omega) (by omega) (by omega)
    have IH := qr8 k hk fu c hc z2 l3 z4 l5 z6 l7 z8 l9 x10 x11 x12 x13 x14 x15 x16 x17 x18 x19 x20 x21 x22 x23 x24 x25 x26 N n (i + 1) w.next (by omega) (by omega) A.next
    rw [show advN (n + 1) w = advN n w.next from rfl]
    simp only [Wd.next] at IH ⊢
    simp (disch := omega) only [dT, eM, qgp, q0l, qa9, nth1, qgr, qzu, qgs, qg3, qg5, eL, nth0, qt3, quv, qob, qg6, IH, qhl]
def qaz (w : Wd) (n : Int) : Bool := wdOk w && inR n 0 100
def adv (w : Wd) (n : Int) : Wd := cond (qaz w n) (advN n.toNat w) w
theorem WdF.adv {w : Wd} (h : WdF w) : Adv w 0 := ⟨h.F, h.P, by have := h.k; omega, ⟨by have := h.L.mi; omega, by have := h.L.mo; omega, by have := h.L.ti; omega, by have := h.L.ou; omega⟩⟩
theorem qbl (k : Nat) (hk : 2000000 ≤ k) (w : Wd) (n : Int) (h : Sml w) : go (k + 12) impl_Advance [wdR w, .int .i64 n] = some [wdO (adv w n), .bool (qaz w n)] := by
  rw [qh8]
  have eC := qc2 (k + 7) (by omega) w h
  have eO := qcs (k + 2) (by omega) w h
  unfold adv qaz
  cases g : wdOk w
  · rw [g] at eO
    simp (disch := omega) only [eC, eO, bit, qa9, nth0, qzt, Bool.not_false, qhl, qgr, qzu, qgs, qt3, quv, qg3, qob, qg5, qg6, qg7, qg8, qg9, qha, qhb, qgt, qgu, qgv, qgw, qgx, qgy, qgz, qg0, qg1, qg2, qg4, Bool.false_and, qhj]
  rw [g] at eO
  cases g2 : inR n 0 100
  · simp (disch := omega) only [eC, eO, bit, qdy, g2, qa9, nth0, qzt, Bool.not_false, qhl, Bool.not_true, qhj, qgr, qzu, qgs, qt3, quv, qg3, qob, qg5, qg6, qg7, qg8, qg9, qha, qhb, qgt, qgu, qgv, qgw, qgx, qgy, qgz, qg0, qg1, qg2, qg4, Bool.and_false]
  have b := qn9.1 g2
  have e := qrb k hk [] n b.2 true [] true [] true [] true [] 0 0 0 0 0 0 0 0 0 0 0 0 0 0 0 0 0 (k + 11) n.toNat 0 w (by omega) (by omega) (wdF g).adv
  rw [show ((0 : Nat) : Int) = 0 from rfl] at e
  simp (disch := omega) only [eC, eO, bit, qdy, g2, qa9, nth0, qzt, Bool.not_true, qhj, qgs, qt3, quv, qg3, qob, qg5, qg6, qgr, qzu, qg7, qg8, qg9, qha, qhb, qgt, qgu, qgv, qgw, qgx, qgy, qgz, qg0, qg1, qg2, qg4, Bool.and_true, qhl]
  exact e
theorem qea (k : Nat) (hk : 2000000 ≤ k) (w : Wd) (n : Int) (h : Sml w) : go (k + 9) spec_Advance [wdR w, .int .i64 n] = some [wdO (adv w n), .bool (qaz w n)] := by
  rw [qk1]
  have eC := qgg (k + 5) (by omega) w h
  have eO := qfe k (by omega) w h
  unfold adv qaz
  cases g : wdOk w
  · rw [g] at eO
    simp (disch := omega) only [eC, eO, bit, qa9, nth0, qzt, Bool.not_false, qhl, qgr, qzu, qgs, qt3, quv, qg3, qob, qg5, qg6, qg7, qg8, qg9, qha, qhb, qgt, qgu, qgv, qgw, qgx, qgy, qgz, qg0, qg1, qg2, qg4, Bool.false_and, qhj]
  rw [g] at eO
  cases g2 : inR n 0 100
  · simp (disch := omega) only [eC, eO, bit, qfj, g2, qa9, nth0, qzt, Bool.not_false, qhl, Bool.not_true, qhj, qgr, qzu, qgs, qt3, quv, qg3, qob, qg5, qg6, qg7, qg8, qg9, qha, qhb, qgt, qgu, qgv, qgw, qgx, qgy, qgz, qg0, qg1, qg2, qg4, Bool.and_false]
  have b := qn9.1 g2
  have e := qr8 k hk [] n b.2 true [] true [] true [] true [] 0 0 0 0 0 0 0 0 0 0 0 0 0 0 0 0 0 (k + 8) n.toNat 0 w (by omega) (by omega) (wdF g).adv
  rw [show ((0 : Nat) : Int) = 0 from rfl] at e
  simp (disch := omega) only [eC, eO, bit, qfj, g2, qa9, nth0, qzt, Bool.not_true, qhj, qgs, qt3, quv, qg3, qob, qg5, qg6, qgr, qzu, qg7, qg8, qg9, qha, qhb, qgt, qgu, qgv, qgw, qgx, qgy, qgz, qg0, qg1, qg2, qg4, Bool.and_true, qhl]
  exact e
end Go.Proofs.YtoldpdhhfmlckaaGreat
end
section
namespace Go.Proofs.YtoldpdhhfmlckaaGreat
open Go.Ev
theorem qk0 (k : Nat) (a0 a1 a2 a3 : Int) : go (k + 1) spec_ActOk [(.agg [(.int .i64 a0), (.int .i64 a1), (.int .i64 a2), (.int .i64 a3)])] =
 (go k spec_l37Plain [(.agg [(.int .i64 a0), (.int .i64 a1), (.int .i64 a2), (.int .i64 a3)])]).bind fun r0 =>
 cond (!(decide (a0 = D.toInt (D.cell 0 (nth r0 0))) && (decide (a1 = D.toInt (D.cell 1 (nth r0 0))) && (decide (a2 = D.toInt (D.cell 2 (nth r0 0))) && (decide (a3 = D.toInt (D.cell 3 (nth r0 0))) && true)))))
 (some [(.bool false)])
 (cond (decide (a0 = (1 : Int)))
 ((go k spec_l01In [(.int .i64 a1), (.int .i64 ((1 : Int))), (.int .i64 ((20 : Int)))]).bind fun r1 =>
 some [(.bool (bit (nth r1 0)))])
 (cond (decide (a0 = (2 : Int)))
 (cond (decide (a0 = (2 : Int)))
 ((go k spec_l01In [(.int .i64 a1), (.int .i64 (0 : Int)), (.int .i64 ((10000 : Int)))]).bind fun r2 =>
 some [(.bool (bit (nth r2 0)))])
 (cond (decide (a0 = (4 : Int)))
 ((go k spec_BorderOk [(.agg [(.int .i64 a1), (.int .i64 a2), (.int .i64 a3)])]).bind fun r3 =>
 some [(.bool (bit (nth r3 0)))])
 (cond (decide (a0 = (5 : Int)))
 ((go k spec_l01In [(.int .i64 a1), (.int .i64 (0 : Int)), (.int .i64 ((1000 : Int)))]).bind fun r4 =>
 some [(.bool (bit (nth r4 0)))])
 (cond (decide (a0 = (6 : Int)))
 ((go k spec_l01In [(.int .i64 a1), (.int .i64 (0 : Int)), (.int .i64 ((1000000 : Int)))]).bind fun r5 =>
 cond (bit (nth r5 0))
 ((go k spec_l01In [(.int .i64 a2), (.int .i64 (0 : Int)), (.int .i64 ((1000000 : Int)))]).bind fun r6 =>
 cond (bit (nth r6 0))
 ((go k spec_l01In [(.int .i64 a3), (.int .i64 (0 : Int)), (.int .i64 ((100 : Int)))]).bind fun r7 =>
 some [(.bool (bit (nth r7 0)))])
 (some [(.bool false)]))
 (some [(.bool false)]))
 (cond (decide (a0 = (7 : Int)))
 ((go k spec_l01In [(.int .i64 a1), (.int .i64 (0 : Int)), (.int .i64 ((127 : Int)))]).bind fun r8 =>
 cond (bit (nth r8 0))
 ((go k spec_l01In [(.int .i64 a2), (.int .i64 ((1 : Int))), (.int .i64 ((10000 : Int)))]).bind fun r9 =>
 cond (bit (nth r9 0))
 ((go k spec_l01In [(.int .i64 a3), (.int .i64 (0 : Int)), (.int .i64 ((1000 : Int)))]).bind fun r10 =>
 some [(.bool (bit (nth r10 0)))])
 (some [(.bool false)]))
 (some [(.bool false)]))
 (some [(.bool false)]))))))
 (cond (decide (a0 = (3 : Int)))
 ((go k spec_l01In [(.int .i64 a1), (.int .i64 (0 : Int)), (.int .i64 ((10000 : Int)))]).bind fun r11 =>
 some [(.bool (bit (nth r11 0)))])
 (cond (decide (a0 = (4 : Int)))
 ((go k spec_BorderOk [(.agg [(.int .i64 a1), (.int .i64 a2), (.int .i64 a3)])]).bind fun r12 =>
 some [(.bool (bit (nth r12 0)))])
 (cond (decide (a0 = (5 : Int)))
 ((go k spec_l01In [(.int .i64 a1), (.int .i64 (0 : Int)), (.int .i64 ((1000 : Int)))]).bind fun r13 =>
 some [(.bool (bit (nth r13 0)))])
 (cond (decide (a0 = (6 : Int)))
 ((go k spec_l01In [(.int .i64 a1), (.int .i64 (0 : Int)), (.int .i64 ((1000000 : Int)))]).bind fun r14 =>
 cond (bit (nth r14 0))
 ((go k spec_l01In [(.int .i64 a2), (.int .i64 (0 : Int)), (.int .i64 ((1000000 : Int)))]).bind fun r15 =>
 cond (bit (nth r15 0))
 ((go k spec_l01In [(.int .i64 a3), (.int .i64 (0 : Int)), (.int .i64 ((100 : Int)))]).bind fun r16 =>
 some [(.bool (bit (nth r16 0)))])
 (some [(.bool false)]))
 (some [(.bool false)]))
 (cond (decide (a0 = (7 : Int)))
 ((go k spec_l01In [(.int .i64 a1), (.int .i64 (0 : Int)), (.int .i64 ((127 : Int)))]).bind fun r17 =>
 cond (bit (nth r17 0))
 ((go k spec_l01In [(.int .i64 a2), (.int .i64 ((1 : Int))), (.int .i64 ((10000 : Int)))]).bind fun r18 =>
 cond (bit (nth r18 0))
 ((go k spec_l01In [(.int .i64 a3), (.int .i64 (0 : Int)), (.int .i64 ((1000 : Int)))]).bind fun r19 =>
 some [(.bool (bit (nth r19 0)))])
 (some [(.bool false)]))
 (some [(.bool false)]))
 (some [(.bool false)])))))))) := by kernel_rfl
theorem qh7 (k : Nat) (a0 a1 a2 a3 : Int) : go (k + 1) impl_ActOk [(.agg [(.int .i64 a0), (.int .i64 a1), (.int .i64 a2), (.int .i64 a3)])] =
 cond (decide (a2 = (0 : Int)))
 (cond (decide (a0 = (1 : Int)))
 (cond (decide (a3 = (0 : Int)))
 ((go k impl_within [(.int .i64 a1), (.int .i64 ((1 : Int))), (.int .i64 ((20 : Int)))]).bind fun r0 =>
 some [(.bool (bit (nth r0 0)))])
 (some [(.bool false)]))
 (cond (decide (a0 = (2 : Int)))
 (cond (decide (a0 = (2 : Int)))
 (cond (decide (a3 = (0 : Int)))
 ((go k impl_isRain [(.int .i64 a1)]).bind fun r1 =>
 some [(.bool (bit (nth r1 0)))])
 (some [(.bool false)]))
 (cond (decide (a0 = (4 : Int)))
 ((go k impl_BorderOk [(.agg [(.int .i64 a1), (.int .i64 a2), (.int .i64 a3)])]).bind fun r2 =>
 some [(.bool (bit (nth r2 0)))])
 (cond (decide (a0 = (5 : Int)))
 (cond (decide (a3 = (0 : Int)))
 ((go k impl_isRate [(.int .i64 a1)]).bind fun r3 =>
 some [(.bool (bit (nth r3 0)))])
 (some [(.bool false)]))
 (cond (decide (a0 = (6 : Int)))
 ((go k impl_within [(.int .i64 a1), (.int .i64 (0 : Int)), (.int .i64 ((1000000 : Int)))]).bind fun r4 =>
 cond (bit (nth r4 0))
 ((go k impl_within [(.int .i64 a2), (.int .i64 (0 : Int)), (.int .i64 ((1000000 : Int)))]).bind fun r5 =>
 cond (bit (nth r5 0))
 ((go k impl_within [(.int .i64 a3), (.int .i64 (0 : Int)), (.int .i64 ((100 : Int)))]).bind fun r6 =>
 some [(.bool (bit (nth r6 0)))])
 (some [(.bool false)]))
 (some [(.bool false)]))
 (cond (decide (a0 = (7 : Int)))
 ((go k impl_within [(.int .i64 a1), (.int .i64 (0 : Int)), (.int .i64 ((127 : Int)))]).bind fun r7 =>
 cond (bit (nth r7 0))
 ((go k impl_within [(.int .i64 a2), (.int .i64 ((1 : Int))), (.int .i64 ((10000 : Int)))]).bind fun r8 =>
 cond (bit (nth r8 0))
 ((go k impl_within [(.int .i64 a3), (.int .i64 (0 : Int)), (.int .i64 ((1000 : Int)))]).bind fun r9 =>
 some [(.bool (bit (nth r9 0)))])
 (some [(.bool false)]))
 (some [(.bool false)]))
 (some [(.bool false)]))))))
 (cond (decide (a0 = (3 : Int)))
 (cond (decide (a3 = (0 : Int)))
 ((go k impl_isRain [(.int .i64 a1)]).bind fun r10 =>
 some [(.bool (bit (nth r10 0)))])
 (some [(.bool false)]))
 (cond (decide (a0 = (4 : Int)))
 ((go k impl_BorderOk [(.agg [(.int .i64 a1), (.int .i64 a2), (.int .i64 a3)])]).bind fun r11 =>
 some [(.bool (bit (nth r11 0)))])
 (cond (decide (a0 = (5 : Int)))
 (cond (decide (a3 = (0 : Int)))
 ((go k impl_isRate [(.int .i64 a1)]).bind fun r12 =>
 some [(.bool (bit (nth r12 0)))])
 (some [(.bool false)]))
 (cond (decide (a0 = (6 : Int)))
 ((go k impl_within [(.int .i64 a1), (.int .i64 (0 : Int)), (.int .i64 ((1000000 : Int)))]).bind fun r13 =>
 cond (bit (nth r13 0))
 ((go k impl_within [(.int .i64 a2), (.int .i64 (0 : Int)), (.int .i64 ((1000000 : Int)))]).bind fun r14 =>
 cond (bit (nth r14 0))
 ((go k impl_within [(.int .i64 a3), (.int .i64 (0 : Int)), (.int .i64 ((100 : Int)))]).bind fun r15 =>
 some [(.bool (bit (nth r15 0)))])
 (some [(.bool false)]))
 (some [(.bool false)]))
 (cond (decide (a0 = (7 : Int)))
 ((go k impl_within [(.int .i64 a1), (.int .i64 (0 : Int)), (.int .i64 ((127 : Int)))]).bind fun r16 =>
 cond (bit (nth r16 0))
 ((go k impl_within [(.int .i64 a2), (.int .i64 ((1 : Int))), (.int .i64 ((10000 : Int)))]).bind fun r17 =>
 cond (bit (nth r17 0))
 ((go k impl_within [(.int .i64 a3), (.int .i64 (0 : Int)), (.int .i64 ((1000 : Int)))]).bind fun r18 =>
 some [(.bool (bit (nth r18 0)))])
 (some [(.bool false)]))
 (some [(.bool false)]))
 (some [(.bool false)]))))))))
 (cond (decide (a0 = (1 : Int)))
 (some [(.bool false)])
 (cond (decide (a0 = (2 : Int)))
 (cond (decide (a0 = (2 : Int)))
 (some [(.bool false)])
 (cond (decide (a0 = (4 : Int)))
 ((go k impl_BorderOk [(.agg [(.int .i64 a1), (.int .i64 a2), (.int .i64 a3)])]).bind fun r19 =>
 some [(.bool (bit (nth r19 0)))])
 (cond (decide (a0 = (5 : Int)))
 (some [(.bool false)])
 (cond (decide (a0 = (6 : Int)))
 ((go k impl_within [(.int .i64 a1), (.int .i64 (0 : Int)), (.int .i64 ((1000000 : Int)))]).bind fun r20 =>
 cond (bit (nth r20 0))
 ((go k impl_within [(.int .i64 a2), (.int .i64 (0 : Int)), (.int .i64 ((1000000 : Int)))]).bind fun r21 =>
 cond (bit (nth r21 0))
 ((go k impl_within [(.int .i64 a3), (.int .i64 (0 : Int)), (.int .i64 ((100 : Int)))]).bind fun r22 =>
 some [(.bool (bit (nth r22 0)))])
 (some [(.bool false)]))
 (some [(.bool false)]))
 (cond (decide (a0 = (7 : Int)))
 ((go k impl_within [(.int .i64 a1), (.int .i64 (0 : Int)), (.int .i64 ((127 : Int)))]).bind fun r23 =>
 cond (bit (nth r23 0))
 ((go k impl_within [(.int .i64 a2), (.int .i64 ((1 : Int))), (.int .i64 ((10000 : Int)))]).bind fun r24 =>
 cond (bit (nth r24 0))
 ((go k impl_within [(.int .i64 a3), (.int .i64 (0 : Int)), (.int .i64 ((1000 : Int)))]).bind fun r25 =>
 some [(.bool (bit (nth r25 0)))])
 (some [(.bool false)]))
 (some [(.bool false)]))
 (some [(.bool false)]))))))
 (cond (decide (a0 = (3 : Int)))
 (some [(.bool false)])
 (cond (decide (a0 = (4 : Int)))
 ((go k impl_BorderOk [(.agg [(.int .i64 a1), (.int .i64 a2), (.int .i64 a3)])]).bind fun r26 =>
 some [(.bool (bit (nth r26 0)))])
 (cond (decide (a0 = (5 : Int)))
 (some [(.bool false)])
 (cond (decide (a0 = (6 : Int)))
 ((go k impl_within [(.int .i64 a1), (.int .i64 (0 : Int)), (.int .i64 ((1000000 : Int)))]).bind fun r27 =>
 cond (bit (nth r27 0))
 ((go k impl_within [(.int .i64 a2), (.int .i64 (0 : Int)), (.int .i64 ((1000000 : Int)))]).bind fun r28 =>
 cond (bit (nth r28 0))
 ((go k impl_within [(.int .i64 a3), (.int .i64 (0 : Int)), (.int .i64 ((100 : Int)))]).bind fun r29 =>
 some [(.bool (bit (nth r29 0)))])
 (some [(.bool false)]))
 (some [(.bool false)]))
 (cond (decide (a0 = (7 : Int)))
 ((go k impl_within [(.int .i64 a1), (.int .i64 (0 : Int)), (.int .i64 ((127 : Int)))]).bind fun r30 =>
 cond (bit (nth r30 0))
 ((go k impl_within [(.int .i64 a2), (.int .i64 ((1 : Int))), (.int .i64 ((10000 : Int)))]).bind fun r31 =>
 cond (bit (nth r31 0))
 ((go k impl_within [(.int .i64 a3), (.int .i64 (0 : Int)), (.int .i64 ((1000 : Int)))]).bind fun r32 =>
 some [(.bool (bit (nth r32 0)))])
 (some [(.bool false)]))
 (some [(.bool false)]))
 (some [(.bool false)])))))))) := by kernel_rfl
theorem qnb (k : Nat) (a0 a1 a2 a3 : Int) : go (k + 1) spec_l37Plain [(.agg [(.int .i64 a0), (.int .i64 a1), (.int .i64 a2), (.int .i64 a3)])] =
 cond (decide (a0 = (4 : Int)))
 (some [(.agg [(.int .i64 a0), (.int .i64 a1), (.int .i64 a2), (.int .i64 a3)])])
 (cond (decide (a0 = (6 : Int)))
 (some [(.agg [(.int .i64 a0), (.int .i64 a1), (.int .i64 a2), (.int .i64 a3)])])
 (cond (decide (a0 = (7 : Int)))
 (some [(.agg [(.int .i64 a0), (.int .i64 a1), (.int .i64 a2), (.int .i64 a3)])])
 (some [(.agg [(.int .i64 a0), (.int .i64 a1), (.int .i64 (0 : Int)), (.int .i64 (0 : Int))])]))) := by kernel_rfl
theorem qj5 (k : Nat) (a0 : Int) (a1z : Bool) (a1 : List (Int × Int × Int)) (a2z : Bool) (a2 : List Int) (a3z : Bool) (a3 : List Int) (a4z : Bool) (a4 : List Int) (a5 a6 a7 a8 a9 a10 a11 a12 a13 a14 a15 a16 a17 a18 a19 a20 b0 b1 b2 b3 : Int) : go (k + 1) impl_World_do [(.ptr true [(.int .i64 a0), (.arr true a1z (.r3 a1)), (.arr true a2z (.ints .i64 a2)), (.arr true a3z (.ints .i64 a3)), (.arr true a4z (.ints .i64 a4)), (.int .i64 a5), (.int .i64 a6), (.int .i64 a7), (.int .i64 a8), (.int .i64 a9), (.int .i64 a10), (.int .i64 a11), (.int .i64 a12), (.int .i64 a13), (.int .i64 a14), (.int .i64 a15), (.int .i64 a16), (.int .i64 a17), (.int .i64 a18), (.int .i64 a19), (.int .i64 a20)]), (.agg [(.int .i64 b0), (.int .i64 b1), (.int .i64 b2), (.int .i64 b3)])] =
 cond (decide (b0 = (1 : Int)))
 ((go k impl_Advance [(.agg [(.int .i64 a0), (.arr false a1z (.r3 a1)), (.arr false a2z (.ints .i64 a2)), (.arr false a3z (.ints .i64 a3)), (.arr false a4z (.ints .i64 a4)), (.int .i64 a5), (.int .i64 a6), (.int .i64 a7), (.int .i64 a8), (.int .i64 a9), (.int .i64 a10), (.int .i64 a11), (.int .i64 a12), (.int .i64 a13), (.int .i64 a14), (.int .i64 a15), (.int .i64 a16), (.int .i64 a17), (.int .i64 a18), (.int .i64 a19), (.int .i64 a20)]), (.int .i64 b1)]).bind fun r0 =>
 (go k impl_TotalMass [(.agg [(.int .i64 (D.toInt (D.cell 0 (nth r0 0)))), (.arr false (D.nil (D.cell 1 (nth r0 0))) (.r3 (D.r3 (D.cell 1 (nth r0 0))))), (.arr false (D.nil (D.cell 2 (nth r0 0))) (.ints .i64 (D.ints (D.cell 2 (nth r0 0))))), (.arr false (D.nil (D.cell 3 (nth r0 0))) (.ints .i64 (D.ints (D.cell 3 (nth r0 0))))), (.arr false (D.nil (D.cell 4 (nth r0 0))) (.ints .i64 (D.ints (D.cell 4 (nth r0 0)))))])]).bind fun r1 =>
 some [(.int .i64 (D.toInt (nth r1 0))), (.ptr true [(.int .i64 (D.toInt (D.cell 0 (nth r0 0)))), (.arr true (D.nil (D.cell 1 (nth r0 0))) (.r3 (D.r3 (D.cell 1 (nth r0 0))))), (.arr true (D.nil (D.cell 2 (nth r0 0))) (.ints .i64 (D.ints (D.cell 2 (nth r0 0))))), (.arr true (D.nil (D.cell 3 (nth r0 0))) (.ints .i64 (D.ints (D.cell 3 (nth r0 0))))), (.arr true (D.nil (D.cell 4 (nth r0 0))) (.ints .i64 (D.ints (D.cell 4 (nth r0 0))))), (.int .i64 (D.toInt (D.cell 5 (nth r0 0)))), (.int .i64 (D.toInt (D.cell 6 (nth r0 0)))), (.int .i64 (D.toInt (D.cell 7 (nth r0 0)))), (.int .i64 (D.toInt (D.cell 8 (nth r0 0)))), (.int .i64 (D.toInt (D.cell 9 (nth r0 0)))), (.int .i64 (D.toInt (D.cell 10 (nth r0 0)))), (.int .i64 (D.toInt (D.cell 11 (nth r0 0)))), (.int .i64 (D.toInt (D.cell (12 : Nat) (nth r0 0)))), (.int .i64 (D.toInt (D.cell (13 : Nat) (nth r0 0)))), (.int .i64 (D.toInt (D.cell (14 : Nat) (nth r0 0)))), (.int .i64 (D.toInt (D.cell (15 : Nat) (nth r0 0)))), (.int .i64 (D.toInt (D.cell (16 : Nat) (nth r0 0)))), (.int .i64 (D.toInt (D.cell (17 : Nat) (nth r0 0)))), (.int .i64 (D.toInt (D.cell (18 : Nat) (nth r0 0)))), (.int .i64 (D.toInt (D.cell (19 : Nat) (nth r0 0)))), (.int .i64 (D.toInt (D.cell (20 : Nat) (nth r0 0))))])])
 (cond (decide (b0 = (2 : Int)))
 (some [(.int .i64 ((1 : Int))), (.ptr true [(.int .i64 a0), (.arr true a1z (.r3 a1)), (.arr true a2z (.ints .i64 a2)), (.arr true a3z (.ints .i64 a3)), (.arr true a4z (.ints .i64 a4)), (.int .i64 a5), (.int .i64 a6), (.int .i64 a7), (.int .i64 b1), (.int .i64 a9), (.int .i64 a10), (.int .i64 a11), (.int .i64 a12), (.int .i64 a13), (.int .i64 a14), (.int .i64 a15), (.int .i64 a16), (.int .i64 a17), (.int .i64 a18), (.int .i64 a19), (.int .i64 a20)])])
 (cond (decide (b0 = (3 : Int)))
 (some [(.int .i64 ((1 : Int))), (.ptr true [(.int .i64 a0), (.arr true a1z (.r3 a1)), (.arr true a2z (.ints .i64 a2)), (.arr true a3z (.ints .i64 a3)), (.arr true a4z (.ints .i64 a4)), (.int .i64 a5), (.int .i64 a6), (.int .i64 a7), (.int .i64 a8), (.int .i64 b1), (.int .i64 a10), (.int .i64 a11), (.int .i64 a12), (.int .i64 a13), (.int .i64 a14), (.int .i64 a15), (.int .i64 a16), (.int .i64 a17), (.int .i64 a18), (.int .i64 a19), (.int .i64 a20)])])
 (cond (decide (b0 = (4 : Int)))
 (some [(.int .i64 ((1 : Int))), (.ptr true [(.int .i64 a0), (.arr true a1z (.r3 a1)), (.arr true a2z (.ints .i64 a2)), (.arr true a3z (.ints .i64 a3)), (.arr true a4z (.ints .i64 a4)), (.int .i64 b1), (.int .i64 b2), (.int .i64 b3), (.int .i64 a8), (.int .i64 a9), (.int .i64 a10), (.int .i64 a11), (.int .i64 a12), (.int .i64 a13), (.int .i64 a14), (.int .i64 a15), (.int .i64 a16), (.int .i64 a17), (.int .i64 a18), (.int .i64 a19), (.int .i64 a20)])])
 (cond (decide (b0 = (5 : Int)))
 (some [(.int .i64 ((1 : Int))), (.ptr true [(.int .i64 a0), (.arr true a1z (.r3 a1)), (.arr true a2z (.ints .i64 a2)), (.arr true a3z (.ints .i64 a3)), (.arr true a4z (.ints .i64 a4)), (.int .i64 a5), (.int .i64 a6), (.int .i64 a7), (.int .i64 a8), (.int .i64 a9), (.int .i64 b1), (.int .i64 a11), (.int .i64 a12), (.int .i64 a13), (.int .i64 a14), (.int .i64 a15), (.int .i64 a16), (.int .i64 a17), (.int .i64 a18), (.int .i64 a19), (.int .i64 a20)])])
 (cond (decide (b0 = (6 : Int)))
 (some [(.int .i64 (nI (List.length a1))), (.ptr true [(.int .i64 a0), (.arr true a1z (.r3 a1)), (.arr true a2z (.ints .i64 a2)), (.arr true a3z (.ints .i64 a3)), (.arr true a4z (.ints .i64 a4)), (.int .i64 a5), (.int .i64 a6), (.int .i64 a7), (.int .i64 a8), (.int .i64 a9), (.int .i64 a10), (.int .i64 b1), (.int .i64 b2), (.int .i64 b3), (.int .i64 a14), (.int .i64 a15), (.int .i64 a16), (.int .i64 a17), (.int .i64 a18), (.int .i64 a19), (.int .i64 a20)])])
 (cond (decide (b0 = (7 : Int)))
 ((go k impl_Drop [(.agg [(.int .i64 a0), (.arr false a1z (.r3 a1)), (.arr false a2z (.ints .i64 a2)), (.arr false a3z (.ints .i64 a3)), (.arr false a4z (.ints .i64 a4)), (.int .i64 a5), (.int .i64 a6), (.int .i64 a7), (.int .i64 a8), (.int .i64 a9), (.int .i64 a10), (.int .i64 a11), (.int .i64 a12), (.int .i64 a13), (.int .i64 a14), (.int .i64 a15), (.int .i64 a16), (.int .i64 a17), (.int .i64 a18), (.int .i64 a19), (.int .i64 a20)]), (.int .i64 b1), (.int .i64 b2), (.int .i64 b3)]).bind fun r2 =>
 cond (!bit (nth r2 1))
 (some [(.int .i64 (0 : Int)), (.ptr true [(.int .i64 (D.toInt (D.cell 0 (nth r2 0)))), (.arr true (D.nil (D.cell 1 (nth r2 0))) (.r3 (D.r3 (D.cell 1 (nth r2 0))))), (.arr true (D.nil (D.cell 2 (nth r2 0))) (.ints .i64 (D.ints (D.cell 2 (nth r2 0))))), (.arr true (D.nil (D.cell 3 (nth r2 0))) (.ints .i64 (D.ints (D.cell 3 (nth r2 0))))), (.arr true (D.nil (D.cell 4 (nth r2 0))) (.ints .i64 (D.ints (D.cell 4 (nth r2 0))))), (.int .i64 (D.toInt (D.cell 5 (nth r2 0)))), (.int .i64 (D.toInt (D.cell 6 (nth r2 0)))), (.int .i64 (D.toInt (D.cell 7 (nth r2 0)))), (.int .i64 (D.toInt (D.cell 8 (nth r2 0)))), (.int .i64 (D.toInt (D.cell 9 (nth r2 0)))), (.int .i64 (D.toInt (D.cell 10 (nth r2 0)))), (.int .i64 (D.toInt (D.cell 11 (nth r2 0)))), (.int .i64 (D.toInt (D.cell (12 : Nat) (nth r2 0)))), (.int .i64 (D.toInt (D.cell (13 : Nat) (nth r2 0)))), (.int .i64 (D.toInt (D.cell (14 : Nat) (nth r2 0)))), (.int .i64 (D.toInt (D.cell (15 : Nat) (nth r2 0)))), (.int .i64 (D.toInt (D.cell (16 : Nat) (nth r2 0)))), (.int .i64 (D.toInt (D.cell (17 : Nat) (nth r2 0)))), (.int .i64 (D.toInt (D.cell (18 : Nat) (nth r2 0)))), (.int .i64 (D.toInt (D.cell (19 : Nat) (nth r2 0)))), (.int .i64 (D.toInt (D.cell (20 : Nat) (nth r2 0))))])])
 (some [(.int .i64 ((1 : Int))), (.ptr true [(.int .i64 (D.toInt (D.cell 0 (nth r2 0)))), (.arr true (D.nil (D.cell 1 (nth r2 0))) (.r3 (D.r3 (D.cell 1 (nth r2 0))))), (.arr true (D.nil (D.cell 2 (nth r2 0))) (.ints .i64 (D.ints (D.cell 2 (nth r2 0))))), (.arr true (D.nil (D.cell 3 (nth r2 0))) (.ints .i64 (D.ints (D.cell 3 (nth r2 0))))), (.arr true (D.nil (D.cell 4 (nth r2 0))) (.ints .i64 (D.ints (D.cell 4 (nth r2 0))))), (.int .i64 (D.toInt (D.cell 5 (nth r2 0)))), (.int .i64 (D.toInt (D.cell 6 (nth r2 0)))), (.int .i64 (D.toInt (D.cell 7 (nth r2 0)))), (.int .i64 (D.toInt (D.cell 8 (nth r2 0)))), (.int .i64 (D.toInt (D.cell 9 (nth r2 0)))), (.int .i64 (D.toInt (D.cell 10 (nth r2 0)))), (.int .i64 (D.toInt (D.cell 11 (nth r2 0)))), (.int .i64 (D.toInt (D.cell (12 : Nat) (nth r2 0)))), (.int .i64 (D.toInt (D.cell (13 : Nat) (nth r2 0)))), (.int .i64 (D.toInt (D.cell (14 : Nat) (nth r2 0)))), (.int .i64 (D.toInt (D.cell (15 : Nat) (nth r2 0)))), (.int .i64 (D.toInt (D.cell (16 : Nat) (nth r2 0)))), (.int .i64 (D.toInt (D.cell (17 : Nat) (nth r2 0)))), (.int .i64 (D.toInt (D.cell (18 : Nat) (nth r2 0)))), (.int .i64 (D.toInt (D.cell (19 : Nat) (nth r2 0)))), (.int .i64 (D.toInt (D.cell (20 : Nat) (nth r2 0))))])]))
 (some [(.int .i64 ((1 : Int))), (.ptr true [(.int .i64 a0), (.arr true a1z (.r3 a1)), (.arr true a2z (.ints .i64 a2)), (.arr true a3z (.ints .i64 a3)), (.arr true a4z (.ints .i64 a4)), (.int .i64 a5), (.int .i64 a6), (.int .i64 a7), (.int .i64 a8), (.int .i64 a9), (.int .i64 a10), (.int .i64 a11), (.int .i64 a12), (.int .i64 a13), (.int .i64 a14), (.int .i64 a15), (.int .i64 a16), (.int .i64 a17), (.int .i64 a18), (.int .i64 a19), (.int .i64 a20)])]))))))) := by kernel_rfl
theorem qk7 (k : Nat) (a0 : Int) (a1z : Bool) (a1 : List (Int × Int × Int)) (a2z : Bool) (a2 : List Int) (a3z : Bool) (a3 : List Int) (a4z : Bool) (a4 : List Int) (a5 a6 a7 a8 a9 a10 a11 a12 a13 a14 a15 a16 a17 a18 a19 a20 b0 b1 b2 b3 : Int) : go (k + 1) spec_DoAct [(.agg [(.int .i64 a0), (.arr false a1z (.r3 a1)), (.arr false a2z (.ints .i64 a2)), (.arr false a3z (.ints .i64 a3)), (.arr false a4z (.ints .i64 a4)), (.int .i64 a5), (.int .i64 a6), (.int .i64 a7), (.int .i64 a8), (.int .i64 a9), (.int .i64 a10), (.int .i64 a11), (.int .i64 a12), (.int .i64 a13), (.int .i64 a14), (.int .i64 a15), (.int .i64 a16), (.int .i64 a17), (.int .i64 a18), (.int .i64 a19), (.int .i64 a20)]), (.agg [(.int .i64 b0), (.int .i64 b1), (.int .i64 b2), (.int .i64 b3)])] =
 (go k spec_l36Copy [(.agg [(.int .i64 a0), (.arr false a1z (.r3 a1)), (.arr false a2z (.ints .i64 a2)), (.arr false a3z (.ints .i64 a3)), (.arr false a4z (.ints .i64 a4)), (.int .i64 a5), (.int .i64 a6), (.int .i64 a7), (.int .i64 a8), (.int .i64 a9), (.int .i64 a10), (.int .i64 a11), (.int .i64 a12), (.int .i64 a13), (.int .i64 a14), (.int .i64 a15), (.int .i64 a16), (.int .i64 a17), (.int .i64 a18), (.int .i64 a19), (.int .i64 a20)])]).bind fun r0 =>
 (go k spec_WorldOk [(.agg [(.int .i64 a0), (.arr false a1z (.r3 a1)), (.arr false a2z (.ints .i64 a2)), (.arr false a3z (.ints .i64 a3)), (.arr false a4z (.ints .i64 a4)), (.int .i64 a5), (.int .i64 a6), (.int .i64 a7), (.int .i64 a8), (.int .i64 a9), (.int .i64 a10), (.int .i64 a11), (.int .i64 a12), (.int .i64 a13), (.int .i64 a14), (.int .i64 a15), (.int .i64 a16), (.int .i64 a17), (.int .i64 a18), (.int .i64 a19), (.int .i64 a20)])]).bind fun r1 =>
 cond (!bit (nth r1 0))
 (some [(.agg [(.int .i64 (D.toInt (D.cell 0 (nth r0 0)))), (.arr true (D.nil (D.cell 1 (nth r0 0))) (.r3 (D.r3 (D.cell 1 (nth r0 0))))), (.arr true (D.nil (D.cell 2 (nth r0 0))) (.ints .i64 (D.ints (D.cell 2 (nth r0 0))))), (.arr true (D.nil (D.cell 3 (nth r0 0))) (.ints .i64 (D.ints (D.cell 3 (nth r0 0))))), (.arr true (D.nil (D.cell 4 (nth r0 0))) (.ints .i64 (D.ints (D.cell 4 (nth r0 0))))), (.int .i64 (D.toInt (D.cell 5 (nth r0 0)))), (.int .i64 (D.toInt (D.cell 6 (nth r0 0)))), (.int .i64 (D.toInt (D.cell 7 (nth r0 0)))), (.int .i64 (D.toInt (D.cell 8 (nth r0 0)))), (.int .i64 (D.toInt (D.cell 9 (nth r0 0)))), (.int .i64 (D.toInt (D.cell 10 (nth r0 0)))), (.int .i64 (D.toInt (D.cell 11 (nth r0 0)))), (.int .i64 (D.toInt (D.cell (12 : Nat) (nth r0 0)))), (.int .i64 (D.toInt (D.cell (13 : Nat) (nth r0 0)))), (.int .i64 (D.toInt (D.cell (14 : Nat) (nth r0 0)))), (.int .i64 (D.toInt (D.cell (15 : Nat) (nth r0 0)))), (.int .i64 (D.toInt (D.cell (16 : Nat) (nth r0 0)))), (.int .i64 (D.toInt (D.cell (17 : Nat) (nth r0 0)))), (.int .i64 (D.toInt (D.cell (18 : Nat) (nth r0 0)))), (.int .i64 (D.toInt (D.cell (19 : Nat) (nth r0 0)))), (.int .i64 (D.toInt (D.cell (20 : Nat) (nth r0 0))))]), (.int .i64 ((-1 : Int)))])
 ((go k spec_ActOk [(.agg [(.int .i64 b0), (.int .i64 b1), (.int .i64 b2), (.int .i64 b3)])]).bind fun r2 =>
 cond (!bit (nth r2 0))
 (some [(.agg [(.int .i64 (D.toInt (D.cell 0 (nth r0 0)))), (.arr true (D.nil (D.cell 1 (nth r0 0))) (.r3 (D.r3 (D.cell 1 (nth r0 0))))), (.arr true (D.nil (D.cell 2 (nth r0 0))) (.ints .i64 (D.ints (D.cell 2 (nth r0 0))))), (.arr true (D.nil (D.cell 3 (nth r0 0))) (.ints .i64 (D.ints (D.cell 3 (nth r0 0))))), (.arr true (D.nil (D.cell 4 (nth r0 0))) (.ints .i64 (D.ints (D.cell 4 (nth r0 0))))), (.int .i64 (D.toInt (D.cell 5 (nth r0 0)))), (.int .i64 (D.toInt (D.cell 6 (nth r0 0)))), (.int .i64 (D.toInt (D.cell 7 (nth r0 0)))), (.int .i64 (D.toInt (D.cell 8 (nth r0 0)))), (.int .i64 (D.toInt (D.cell 9 (nth r0 0)))), (.int .i64 (D.toInt (D.cell 10 (nth r0 0)))), (.int .i64 (D.toInt (D.cell 11 (nth r0 0)))), (.int .i64 (D.toInt (D.cell (12 : Nat) (nth r0 0)))), (.int .i64 (D.toInt (D.cell (13 : Nat) (nth r0 0)))), (.int .i64 (D.toInt (D.cell (14 : Nat) (nth r0 0)))), (.int .i64 (D.toInt (D.cell (15 : Nat) (nth r0 0)))), (.int .i64 (D.toInt (D.cell (16 : Nat) (nth r0 0)))), (.int .i64 (D.toInt (D.cell (17 : Nat) (nth r0 0)))), (.int .i64 (D.toInt (D.cell (18 : Nat) (nth r0 0)))), (.int .i64 (D.toInt (D.cell (19 : Nat) (nth r0 0)))), (.int .i64 (D.toInt (D.cell (20 : Nat) (nth r0 0))))]), (.int .i64 ((-1 : Int)))])
 (cond (decide (b0 = (1 : Int)))
 ((go k spec_Advance [(.agg [(.int .i64 a0), (.arr false a1z (.r3 a1)), (.arr false a2z (.ints .i64 a2)), (.arr false a3z (.ints .i64 a3)), (.arr false a4z (.ints .i64 a4)), (.int .i64 a5), (.int .i64 a6), (.int .i64 a7), (.int .i64 a8), (.int .i64 a9), (.int .i64 a10), (.int .i64 a11), (.int .i64 a12), (.int .i64 a13), (.int .i64 a14), (.int .i64 a15), (.int .i64 a16), (.int .i64 a17), (.int .i64 a18), (.int .i64 a19), (.int .i64 a20)]), (.int .i64 b1)]).bind fun r3 =>
 (go k spec_l07Sum [(.arr false (D.nil (D.cell 2 (nth r3 0))) (.ints .i64 (D.ints (D.cell 2 (nth r3 0)))))]).bind fun r4 =>
 some [(.agg [(.int .i64 (D.toInt (D.cell 0 (nth r3 0)))), (.arr true (D.nil (D.cell 1 (nth r3 0))) (.r3 (D.r3 (D.cell 1 (nth r3 0))))), (.arr true (D.nil (D.cell 2 (nth r3 0))) (.ints .i64 (D.ints (D.cell 2 (nth r3 0))))), (.arr true (D.nil (D.cell 3 (nth r3 0))) (.ints .i64 (D.ints (D.cell 3 (nth r3 0))))), (.arr true (D.nil (D.cell 4 (nth r3 0))) (.ints .i64 (D.ints (D.cell 4 (nth r3 0))))), (.int .i64 (D.toInt (D.cell 5 (nth r3 0)))), (.int .i64 (D.toInt (D.cell 6 (nth r3 0)))), (.int .i64 (D.toInt (D.cell 7 (nth r3 0)))), (.int .i64 (D.toInt (D.cell 8 (nth r3 0)))), (.int .i64 (D.toInt (D.cell 9 (nth r3 0)))), (.int .i64 (D.toInt (D.cell 10 (nth r3 0)))), (.int .i64 (D.toInt (D.cell 11 (nth r3 0)))), (.int .i64 (D.toInt (D.cell (12 : Nat) (nth r3 0)))), (.int .i64 (D.toInt (D.cell (13 : Nat) (nth r3 0)))), (.int .i64 (D.toInt (D.cell (14 : Nat) (nth r3 0)))), (.int .i64 (D.toInt (D.cell (15 : Nat) (nth r3 0)))), (.int .i64 (D.toInt (D.cell (16 : Nat) (nth r3 0)))), (.int .i64 (D.toInt (D.cell (17 : Nat) (nth r3 0)))), (.int .i64 (D.toInt (D.cell (18 : Nat) (nth r3 0)))), (.int .i64 (D.toInt (D.cell (19 : Nat) (nth r3 0)))), (.int .i64 (D.toInt (D.cell (20 : Nat) (nth r3 0))))]), (.int .i64 (D.toInt (nth r4 0)))])
 (cond (decide (b0 = (2 : Int)))
 (some [(.agg [(.int .i64 (D.toInt (D.cell 0 (nth r0 0)))), (.arr true (D.nil (D.cell 1 (nth r0 0))) (.r3 (D.r3 (D.cell 1 (nth r0 0))))), (.arr true (D.nil (D.cell 2 (nth r0 0))) (.ints .i64 (D.ints (D.cell 2 (nth r0 0))))), (.arr true (D.nil (D.cell 3 (nth r0 0))) (.ints .i64 (D.ints (D.cell 3 (nth r0 0))))), (.arr true (D.nil (D.cell 4 (nth r0 0))) (.ints .i64 (D.ints (D.cell 4 (nth r0 0))))), (.int .i64 (D.toInt (D.cell 5 (nth r0 0)))), (.int .i64 (D.toInt (D.cell 6 (nth r0 0)))), (.int .i64 (D.toInt (D.cell 7 (nth r0 0)))), (.int .i64 b1), (.int .i64 (D.toInt (D.cell 9 (nth r0 0)))), (.int .i64 (D.toInt (D.cell 10 (nth r0 0)))), (.int .i64 (D.toInt (D.cell 11 (nth r0 0)))), (.int .i64 (D.toInt (D.cell (12 : Nat) (nth r0 0)))), (.int .i64 (D.toInt (D.cell (13 : Nat) (nth r0 0)))), (.int .i64 (D.toInt (D.cell (14 : Nat) (nth r0 0)))), (.int .i64 (D.toInt (D.cell (15 : Nat) (nth r0 0)))), (.int .i64 (D.toInt (D.cell (16 : Nat) (nth r0 0)))), (.int .i64 (D.toInt (D.cell (17 : Nat) (nth r0 0)))), (.int .i64 (D.toInt (D.cell (18 : Nat) (nth r0 0)))), (.int .i64 (D.toInt (D.cell (19 : Nat) (nth r0 0)))), (.int .i64 (D.toInt (D.cell (20 : Nat) (nth r0 0))))]), (.int .i64 ((1 : Int)))])
 (cond (decide (b0 = (3 : Int)))
 (some [(.agg [(.int .i64 (D.toInt (D.cell 0 (nth r0 0)))), (.arr true (D.nil (D.cell 1 (nth r0 0))) (.r3 (D.r3 (D.cell 1 (nth r0 0))))), (.arr true (D.nil (D.cell 2 (nth r0 0))) (.ints .i64 (D.ints (D.cell 2 (nth r0 0))))), (.arr true (D.nil (D.cell 3 (nth r0 0))) (.ints .i64 (D.ints (D.cell 3 (nth r0 0))))), (.arr true (D.nil (D.cell 4 (nth r0 0))) (.ints .i64 (D.ints (D.cell 4 (nth r0 0))))), (.int .i64 (D.toInt (D.cell 5 (nth r0 0)))), (.int .i64 (D.toInt (D.cell 6 (nth r0 0)))), (.int .i64 (D.toInt (D.cell 7 (nth r0 0)))), (.int .i64 (D.toInt (D.cell 8 (nth r0 0)))), (.int .i64 b1), (.int .i64 (D.toInt (D.cell 10 (nth r0 0)))), (.int .i64 (D.toInt (D.cell 11 (nth r0 0)))), (.int .i64 (D.toInt (D.cell (12 : Nat) (nth r0 0)))), (.int .i64 (D.toInt (D.cell (13 : Nat) (nth r0 0)))), (.int .i64 (D.toInt (D.cell (14 : Nat) (nth r0 0)))), (.int .i64 (D.toInt (D.cell (15 : Nat) (nth r0 0)))), (.int .i64 (D.toInt (D.cell (16 : Nat) (nth r0 0)))), (.int .i64 (D.toInt (D.cell (17 : Nat) (nth r0 0)))), (.int .i64 (D.toInt (D.cell (18 : Nat) (nth r0 0)))), (.int .i64 (D.toInt (D.cell (19 : Nat) (nth r0 0)))), (.int .i64 (D.toInt (D.cell (20 : Nat) (nth r0 0))))]), (.int .i64 ((1 : Int)))])
 (cond (decide (b0 = (5 : Int)))
 (some [(.agg [(.int .i64 (D.toInt (D.cell 0 (nth r0 0)))), (.arr true (D.nil (D.cell 1 (nth r0 0))) (.r3 (D.r3 (D.cell 1 (nth r0 0))))), (.arr true (D.nil (D.cell 2 (nth r0 0))) (.ints .i64 (D.ints (D.cell 2 (nth r0 0))))), (.arr true (D.nil (D.cell 3 (nth r0 0))) (.ints .i64 (D.ints (D.cell 3 (nth r0 0))))), (.arr true (D.nil (D.cell 4 (nth r0 0))) (.ints .i64 (D.ints (D.cell 4 (nth r0 0))))), (.int .i64 (D.toInt (D.cell 5 (nth r0 0)))), (.int .i64 (D.toInt (D.cell 6 (nth r0 0)))), (.int .i64 (D.toInt (D.cell 7 (nth r0 0)))), (.int .i64 (D.toInt (D.cell 8 (nth r0 0)))), (.int .i64 (D.toInt (D.cell 9 (nth r0 0)))), (.int .i64 b1), (.int .i64 (D.toInt (D.cell 11 (nth r0 0)))), (.int .i64 (D.toInt (D.cell (12 : Nat) (nth r0 0)))), (.int .i64 (D.toInt (D.cell (13 : Nat) (nth r0 0)))), (.int .i64 (D.toInt (D.cell (14 : Nat) (nth r0 0)))), (.int .i64 (D.toInt (D.cell (15 : Nat) (nth r0 0)))), (.int .i64 (D.toInt (D.cell (16 : Nat) (nth r0 0)))), (.int .i64 (D.toInt (D.cell (17 : Nat) (nth r0 0)))), (.int .i64 (D.toInt (D.cell (18 : Nat) (nth r0 0)))), (.int .i64 (D.toInt (D.cell (19 : Nat) (nth r0 0)))), (.int .i64 (D.toInt (D.cell (20 : Nat) (nth r0 0))))]), (.int .i64 ((1 : Int)))])
 (cond (decide (b0 = (4 : Int)))
 (some [(.agg [(.int .i64 (D.toInt (D.cell 0 (nth r0 0)))), (.arr true (D.nil (D.cell 1 (nth r0 0))) (.r3 (D.r3 (D.cell 1 (nth r0 0))))), (.arr true (D.nil (D.cell 2 (nth r0 0))) (.ints .i64 (D.ints (D.cell 2 (nth r0 0))))), (.arr true (D.nil (D.cell 3 (nth r0 0))) (.ints .i64 (D.ints (D.cell 3 (nth r0 0))))), (.arr true (D.nil (D.cell 4 (nth r0 0))) (.ints .i64 (D.ints (D.cell 4 (nth r0 0))))), (.int .i64 b1), (.int .i64 b2), (.int .i64 b3), (.int .i64 (D.toInt (D.cell 8 (nth r0 0)))), (.int .i64 (D.toInt (D.cell 9 (nth r0 0)))), (.int .i64 (D.toInt (D.cell 10 (nth r0 0)))), (.int .i64 (D.toInt (D.cell 11 (nth r0 0)))), (.int .i64 (D.toInt (D.cell (12 : Nat) (nth r0 0)))), (.int .i64 (D.toInt (D.cell (13 : Nat) (nth r0 0)))), (.int .i64 (D.toInt (D.cell (14 : Nat) (nth r0 0)))), (.int .i64 (D.toInt (D.cell (15 : Nat) (nth r0 0)))), (.int .i64 (D.toInt (D.cell (16 : Nat) (nth r0 0)))), (.int .i64 (D.toInt (D.cell (17 : Nat) (nth r0 0)))), (.int .i64 (D.toInt (D.cell (18 : Nat) (nth r0 0)))), (.int .i64 (D.toInt (D.cell (19 : Nat) (nth r0 0)))), (.int .i64 (D.toInt (D.cell (20 : Nat) (nth r0 0))))]), (.int .i64 ((1 : Int)))])
 (cond (decide (b0 = (6 : Int)))
 (some [(.agg [(.int .i64 (D.toInt (D.cell 0 (nth r0 0)))), (.arr true (D.nil (D.cell 1 (nth r0 0))) (.r3 (D.r3 (D.cell 1 (nth r0 0))))), (.arr true (D.nil (D.cell 2 (nth r0 0))) (.ints .i64 (D.ints (D.cell 2 (nth r0 0))))), (.arr true (D.nil (D.cell 3 (nth r0 0))) (.ints .i64 (D.ints (D.cell 3 (nth r0 0))))), (.arr true (D.nil (D.cell 4 (nth r0 0))) (.ints .i64 (D.ints (D.cell 4 (nth r0 0))))), (.int .i64 (D.toInt (D.cell 5 (nth r0 0)))), (.int .i64 (D.toInt (D.cell 6 (nth r0 0)))), (.int .i64 (D.toInt (D.cell 7 (nth r0 0)))), (.int .i64 (D.toInt (D.cell 8 (nth r0 0)))), (.int .i64 (D.toInt (D.cell 9 (nth r0 0)))), (.int .i64 (D.toInt (D.cell 10 (nth r0 0)))), (.int .i64 b1), (.int .i64 b2), (.int .i64 b3), (.int .i64 (D.toInt (D.cell (14 : Nat) (nth r0 0)))), (.int .i64 (D.toInt (D.cell (15 : Nat) (nth r0 0)))), (.int .i64 (D.toInt (D.cell (16 : Nat) (nth r0 0)))), (.int .i64 (D.toInt (D.cell (17 : Nat) (nth r0 0)))), (.int .i64 (D.toInt (D.cell (18 : Nat) (nth r0 0)))), (.int .i64 (D.toInt (D.cell (19 : Nat) (nth r0 0)))), (.int .i64 (D.toInt (D.cell (20 : Nat) (nth r0 0))))]), (.int .i64 (nI (List.length (D.ints (D.cell 2 (nth r0 0))))))])
 ((go k spec_Drop [(.agg [(.int .i64 a0), (.arr false a1z (.r3 a1)), (.arr false a2z (.ints .i64 a2)), (.arr false a3z (.ints .i64 a3)), (.arr false a4z (.ints .i64 a4)), (.int .i64 a5), (.int .i64 a6), (.int .i64 a7), (.int .i64 a8), (.int .i64 a9), (.int .i64 a10), (.int .i64 a11), (.int .i64 a12), (.int .i64 a13), (.int .i64 a14), (.int .i64 a15), (.int .i64 a16), (.int .i64 a17), (.int .i64 a18), (.int .i64 a19), (.int .i64 a20)]), (.int .i64 b1), (.int .i64 b2), (.int .i64 b3)]).bind fun r5 =>
 cond (!bit (nth r5 1))
 (some [(.agg [(.int .i64 (D.toInt (D.cell 0 (nth r5 0)))), (.arr true (D.nil (D.cell 1 (nth r5 0))) (.r3 (D.r3 (D.cell 1 (nth r5 0))))), (.arr true (D.nil (D.cell 2 (nth r5 0))) (.ints .i64 (D.ints (D.cell 2 (nth r5 0))))), (.arr true (D.nil (D.cell 3 (nth r5 0))) (.ints .i64 (D.ints (D.cell 3 (nth r5 0))))), (.arr true (D.nil (D.cell 4 (nth r5 0))) (.ints .i64 (D.ints (D.cell 4 (nth r5 0))))), (.int .i64 (D.toInt (D.cell 5 (nth r5 0)))), (.int .i64 (D.toInt (D.cell 6 (nth r5 0)))), (.int .i64 (D.toInt (D.cell 7 (nth r5 0)))), (.int .i64 (D.toInt (D.cell 8 (nth r5 0)))), (.int .i64 (D.toInt (D.cell 9 (nth r5 0)))), (.int .i64 (D.toInt (D.cell 10 (nth r5 0)))), (.int .i64 (D.toInt (D.cell 11 (nth r5 0)))), (.int .i64 (D.toInt (D.cell (12 : Nat) (nth r5 0)))), (.int .i64 (D.toInt (D.cell (13 : Nat) (nth r5 0)))), (.int .i64 (D.toInt (D.cell (14 : Nat) (nth r5 0)))), (.int .i64 (D.toInt (D.cell (15 : Nat) (nth r5 0)))), (.int .i64 (D.toInt (D.cell (16 : Nat) (nth r5 0)))), (.int .i64 (D.toInt (D.cell (17 : Nat) (nth r5 0)))), (.int .i64 (D.toInt (D.cell (18 : Nat) (nth r5 0)))), (.int .i64 (D.toInt (D.cell (19 : Nat) (nth r5 0)))), (.int .i64 (D.toInt (D.cell (20 : Nat) (nth r5 0))))]), (.int .i64 (0 : Int))])
 (some [(.agg [(.int .i64 (D.toInt (D.cell 0 (nth r5 0)))), (.arr true (D.nil (D.cell 1 (nth r5 0))) (.r3 (D.r3 (D.cell 1 (nth r5 0))))), (.arr true (D.nil (D.cell 2 (nth r5 0))) (.ints .i64 (D.ints (D.cell 2 (nth r5 0))))), (.arr true (D.nil (D.cell 3 (nth r5 0))) (.ints .i64 (D.ints (D.cell 3 (nth r5 0))))), (.arr true (D.nil (D.cell 4 (nth r5 0))) (.ints .i64 (D.ints (D.cell 4 (nth r5 0))))), (.int .i64 (D.toInt (D.cell 5 (nth r5 0)))), (.int .i64 (D.toInt (D.cell 6 (nth r5 0)))), (.int .i64 (D.toInt (D.cell 7 (nth r5 0)))), (.int .i64 (D.toInt (D.cell 8 (nth r5 0)))), (.int .i64 (D.toInt (D.cell 9 (nth r5 0)))), (.int .i64 (D.toInt (D.cell 10 (nth r5 0)))), (.int .i64 (D.toInt (D.cell 11 (nth r5 0)))), (.int .i64 (D.toInt (D.cell (12 : Nat) (nth r5 0)))), (.int .i64 (D.toInt (D.cell (13 : Nat) (nth r5 0)))), (.int .i64 (D.toInt (D.cell (14 : Nat) (nth r5 0)))), (.int .i64 (D.toInt (D.cell (15 : Nat) (nth r5 0)))), (.int .i64 (D.toInt (D.cell (16 : Nat) (nth r5 0)))), (.int .i64 (D.toInt (D.cell (17 : Nat) (nth r5 0)))), (.int .i64 (D.toInt (D.cell (18 : Nat) (nth r5 0)))), (.int .i64 (D.toInt (D.cell (19 : Nat) (nth r5 0)))), (.int .i64 (D.toInt (D.cell (20 : Nat) (nth r5 0))))]), (.int .i64 ((1 : Int)))]))))))))) := by kernel_rfl
theorem qig (k : Nat) (a0 : Int) (a1z : Bool) (a1 : List (Int × Int × Int)) (a2z : Bool) (a2 : List Int) (a3z : Bool) (a3 : List Int) (a4z : Bool) (a4 : List Int) (a5 a6 a7 a8 a9 a10 a11 a12 a13 a14 a15 a16 a17 a18 a19 a20 b0 b1 b2 b3 : Int) : go (k + 1) impl_DoAct [(.agg [(.int .i64 a0), (.arr false a1z (.r3 a1)), (.arr false a2z (.ints .i64 a2)), (.arr false a3z (.ints .i64 a3)), (.arr false a4z (.ints .i64 a4)), (.int .i64 a5), (.int .i64 a6), (.int .i64 a7), (.int .i64 a8), (.int .i64 a9), (.int .i64 a10), (.int .i64 a11), (.int .i64 a12), (.int .i64 a13), (.int .i64 a14), (.int .i64 a15), (.int .i64 a16), (.int .i64 a17), (.int .i64 a18), (.int .i64 a19), (.int .i64 a20)]), (.agg [(.int .i64 b0), (.int .i64 b1), (.int .i64 b2), (.int .i64 b3)])] =
 (go k impl_copyWorld [(.agg [(.int .i64 a0), (.arr false a1z (.r3 a1)), (.arr false a2z (.ints .i64 a2)), (.arr false a3z (.ints .i64 a3)), (.arr false a4z (.ints .i64 a4)), (.int .i64 a5), (.int .i64 a6), (.int .i64 a7), (.int .i64 a8), (.int .i64 a9), (.int .i64 a10), (.int .i64 a11), (.int .i64 a12), (.int .i64 a13), (.int .i64 a14), (.int .i64 a15), (.int .i64 a16), (.int .i64 a17), (.int .i64 a18), (.int .i64 a19), (.int .i64 a20)])]).bind fun r0 =>
 (go k impl_WorldOk [(.agg [(.int .i64 a0), (.arr false a1z (.r3 a1)), (.arr false a2z (.ints .i64 a2)), (.arr false a3z (.ints .i64 a3)), (.arr false a4z (.ints .i64 a4)), (.int .i64 a5), (.int .i64 a6), (.int .i64 a7), (.int .i64 a8), (.int .i64 a9), (.int .i64 a10), (.int .i64 a11), (.int .i64 a12), (.int .i64 a13), (.int .i64 a14), (.int .i64 a15), (.int .i64 a16), (.int .i64 a17), (.int .i64 a18), (.int .i64 a19), (.int .i64 a20)])]).bind fun r1 =>
 cond (!bit (nth r1 0))
 (some [(.agg [(.int .i64 (D.toInt (D.cell 0 (nth r0 0)))), (.arr true (D.nil (D.cell 1 (nth r0 0))) (.r3 (D.r3 (D.cell 1 (nth r0 0))))), (.arr true (D.nil (D.cell 2 (nth r0 0))) (.ints .i64 (D.ints (D.cell 2 (nth r0 0))))), (.arr true (D.nil (D.cell 3 (nth r0 0))) (.ints .i64 (D.ints (D.cell 3 (nth r0 0))))), (.arr true (D.nil (D.cell 4 (nth r0 0))) (.ints .i64 (D.ints (D.cell 4 (nth r0 0))))), (.int .i64 (D.toInt (D.cell 5 (nth r0 0)))), (.int .i64 (D.toInt (D.cell 6 (nth r0 0)))), (.int .i64 (D.toInt (D.cell 7 (nth r0 0)))), (.int .i64 (D.toInt (D.cell 8 (nth r0 0)))), (.int .i64 (D.toInt (D.cell 9 (nth r0 0)))), (.int .i64 (D.toInt (D.cell 10 (nth r0 0)))), (.int .i64 (D.toInt (D.cell 11 (nth r0 0)))), (.int .i64 (D.toInt (D.cell (12 : Nat) (nth r0 0)))), (.int .i64 (D.toInt (D.cell (13 : Nat) (nth r0 0)))), (.int .i64 (D.toInt (D.cell (14 : Nat) (nth r0 0)))), (.int .i64 (D.toInt (D.cell (15 : Nat) (nth r0 0)))), (.int .i64 (D.toInt (D.cell (16 : Nat) (nth r0 0)))), (.int .i64 (D.toInt (D.cell (17 : Nat) (nth r0 0)))), (.int .i64 (D.toInt (D.cell (18 : Nat) (nth r0 0)))), (.int .i64 (D.toInt (D.cell (19 : Nat) (nth r0 0)))), (.int .i64 (D.toInt (D.cell (20 : Nat) (nth r0 0))))]), (.int .i64 ((-1 : Int)))])
 ((go k impl_ActOk [(.agg [(.int .i64 b0), (.int .i64 b1), (.int .i64 b2), (.int .i64 b3)])]).bind fun r2 =>
 cond (!bit (nth r2 0))
 (some [(.agg [(.int .i64 (D.toInt (D.cell 0 (nth r0 0)))), (.arr true (D.nil (D.cell 1 (nth r0 0))) (.r3 (D.r3 (D.cell 1 (nth r0 0))))), (.arr true (D.nil (D.cell 2 (nth r0 0))) (.ints .i64 (D.ints (D.cell 2 (nth r0 0))))), (.arr true (D.nil (D.cell 3 (nth r0 0))) (.ints .i64 (D.ints (D.cell 3 (nth r0 0))))), (.arr true (D.nil (D.cell 4 (nth r0 0))) (.ints .i64 (D.ints (D.cell 4 (nth r0 0))))), (.int .i64 (D.toInt (D.cell 5 (nth r0 0)))), (.int .i64 (D.toInt (D.cell 6 (nth r0 0)))), (.int .i64 (D.toInt (D.cell 7 (nth r0 0)))), (.int .i64 (D.toInt (D.cell 8 (nth r0 0)))), (.int .i64 (D.toInt (D.cell 9 (nth r0 0)))), (.int .i64 (D.toInt (D.cell 10 (nth r0 0)))), (.int .i64 (D.toInt (D.cell 11 (nth r0 0)))), (.int .i64 (D.toInt (D.cell (12 : Nat) (nth r0 0)))), (.int .i64 (D.toInt (D.cell (13 : Nat) (nth r0 0)))), (.int .i64 (D.toInt (D.cell (14 : Nat) (nth r0 0)))), (.int .i64 (D.toInt (D.cell (15 : Nat) (nth r0 0)))), (.int .i64 (D.toInt (D.cell (16 : Nat) (nth r0 0)))), (.int .i64 (D.toInt (D.cell (17 : Nat) (nth r0 0)))), (.int .i64 (D.toInt (D.cell (18 : Nat) (nth r0 0)))), (.int .i64 (D.toInt (D.cell (19 : Nat) (nth r0 0)))), (.int .i64 (D.toInt (D.cell (20 : Nat) (nth r0 0))))]), (.int .i64 ((-1 : Int)))])
 ((go k impl_World_do [(.ptr true [(.int .i64 (D.toInt (D.cell 0 (nth r0 0)))), (.arr true (D.nil (D.cell 1 (nth r0 0))) (.r3 (D.r3 (D.cell 1 (nth r0 0))))), (.arr true (D.nil (D.cell 2 (nth r0 0))) (.ints .i64 (D.ints (D.cell 2 (nth r0 0))))), (.arr true (D.nil (D.cell 3 (nth r0 0))) (.ints .i64 (D.ints (D.cell 3 (nth r0 0))))), (.arr true (D.nil (D.cell 4 (nth r0 0))) (.ints .i64 (D.ints (D.cell 4 (nth r0 0))))), (.int .i64 (D.toInt (D.cell 5 (nth r0 0)))), (.int .i64 (D.toInt (D.cell 6 (nth r0 0)))), (.int .i64 (D.toInt (D.cell 7 (nth r0 0)))), (.int .i64 (D.toInt (D.cell 8 (nth r0 0)))), (.int .i64 (D.toInt (D.cell 9 (nth r0 0)))), (.int .i64 (D.toInt (D.cell 10 (nth r0 0)))), (.int .i64 (D.toInt (D.cell 11 (nth r0 0)))), (.int .i64 (D.toInt (D.cell (12 : Nat) (nth r0 0)))), (.int .i64 (D.toInt (D.cell (13 : Nat) (nth r0 0)))), (.int .i64 (D.toInt (D.cell (14 : Nat) (nth r0 0)))), (.int .i64 (D.toInt (D.cell (15 : Nat) (nth r0 0)))), (.int .i64 (D.toInt (D.cell (16 : Nat) (nth r0 0)))), (.int .i64 (D.toInt (D.cell (17 : Nat) (nth r0 0)))), (.int .i64 (D.toInt (D.cell (18 : Nat) (nth r0 0)))), (.int .i64 (D.toInt (D.cell (19 : Nat) (nth r0 0)))), (.int .i64 (D.toInt (D.cell (20 : Nat) (nth r0 0))))]), (.agg [(.int .i64 b0), (.int .i64 b1), (.int .i64 b2), (.int .i64 b3)])]).bind fun r3 =>
 some [(.agg [(.int .i64 (D.toInt (D.cell 0 (nth r3 1)))), (.arr true (D.nil (D.cell 1 (nth r3 1))) (.r3 (D.r3 (D.cell 1 (nth r3 1))))), (.arr true (D.nil (D.cell 2 (nth r3 1))) (.ints .i64 (D.ints (D.cell 2 (nth r3 1))))), (.arr true (D.nil (D.cell 3 (nth r3 1))) (.ints .i64 (D.ints (D.cell 3 (nth r3 1))))), (.arr true (D.nil (D.cell 4 (nth r3 1))) (.ints .i64 (D.ints (D.cell 4 (nth r3 1))))), (.int .i64 (D.toInt (D.cell 5 (nth r3 1)))), (.int .i64 (D.toInt (D.cell 6 (nth r3 1)))), (.int .i64 (D.toInt (D.cell 7 (nth r3 1)))), (.int .i64 (D.toInt (D.cell 8 (nth r3 1)))), (.int .i64 (D.toInt (D.cell 9 (nth r3 1)))), (.int .i64 (D.toInt (D.cell 10 (nth r3 1)))), (.int .i64 (D.toInt (D.cell 11 (nth r3 1)))), (.int .i64 (D.toInt (D.cell (12 : Nat) (nth r3 1)))), (.int .i64 (D.toInt (D.cell (13 : Nat) (nth r3 1)))), (.int .i64 (D.toInt (D.cell (14 : Nat) (nth r3 1)))), (.int .i64 (D.toInt (D.cell (15 : Nat) (nth r3 1)))), (.int .i64 (D.toInt (D.cell (16 : Nat) (nth r3 1)))), (.int .i64 (D.toInt (D.cell (17 : Nat) (nth r3 1)))), (.int .i64 (D.toInt (D.cell (18 : Nat) (nth r3 1)))), (.int .i64 (D.toInt (D.cell (19 : Nat) (nth r3 1)))), (.int .i64 (D.toInt (D.cell (20 : Nat) (nth r3 1))))]), (.int .i64 (D.toInt (nth r3 0)))])) := by kernel_rfl

end Go.Proofs.YtoldpdhhfmlckaaGreat
end
section
namespace Go.Proofs.YtoldpdhhfmlckaaGreat
open Go.Ev
def qxa (x0 : Int) (z1 : Bool) (l2 : List (Int × Int × Int × Int)) (z3 : Bool) (l4 : List (Int × Int × Int)) (z5 : Bool) (l6 : List Int) (z7 : Bool) (l8 : List Int) (z9 : Bool) (l10 : List Int) (x11 x12 x13 x14 x15 x16 x17 x18 x19 x20 x21 x22 x23 x24 x25 x26 x27 : Int) (z28 : Bool) (l29 : List (Int × Int × Int)) (z30 : Bool) (l31 : List Int) (z32 : Bool) (l33 : List Int) (z34 : Bool) (l35 : List Int) (x36 x37 x38 x39 x40 x41 x42 x43 x44 x45 x46 x47 x48 x49 x50 x51 x52 : Int) (z53 : Bool) (l54 : List Int) : St := ⟨fill 46 [(1, (.sl 0 none)), (4, (.ptr 5 0 0)), (6, (.ptr 10 0 0)), (7, (.sl 11 none)), (8, (.int .i64 x0))], [], [(.arr false z1 (.r4 l2)), (.arr true z3 (.r3 l4)), (.arr true z5 (.ints .i64 l6)), (.arr true z7 (.ints .i64 l8)), (.arr true z9 (.ints .i64 l10)), (.box true [(.int .i64 x11), (.sl 1 none), (.sl 2 none), (.sl 3 none), (.sl 4 none), (.int .i64 x12), (.int .i64 x13), (.int .i64 x14), (.int .i64 x15), (.int .i64 x16), (.int .i64 x17), (.int .i64 x18), (.int .i64 x19), (.int .i64 x20), (.int .i64 x21), (.int .i64 x22), (.int .i64 x23), (.int .i64 x24), (.int .i64 x25), (.int .i64 x26), (.int .i64 x27)]), (.arr true z28 (.r3 l29)), (.arr true z30 (.ints .i64 l31)), (.arr true z32 (.ints .i64 l33)), (.arr true z34 (.ints .i64 l35)), (.box true [(.int .i64 x36), (.sl 6 none), (.sl 7 none), (.sl 8 none), (.sl 9 none), (.int .i64 x37), (.int .i64 x38), (.int .i64 x39), (.int .i64 x40), (.int .i64 x41), (.int .i64 x42), (.int .i64 x43), (.int .i64 x44), (.int .i64 x45), (.int .i64 x46), (.int .i64 x47), (.int .i64 x48), (.int .i64 x49), (.int .i64 x50), (.int .i64 x51), (.int .i64 x52)]), (.arr true z53 (.ints .i64 l54))]⟩
theorem qlp (k : Nat) (a0 : Int) (a1z : Bool) (a1 : List (Int × Int × Int)) (a2z : Bool) (a2 : List Int) (a3z : Bool) (a3 : List Int) (a4z : Bool) (a4 : List Int) (a5 a6 a7 a8 a9 a10 a11 a12 a13 a14 a15 a16 a17 a18 a19 a20 : Int) (bz : Bool) (b : List (Int × Int × Int × Int)) : go (k + 1) spec_RunActs [(.agg [(.int .i64 a0), (.arr false a1z (.r3 a1)), (.arr false a2z (.ints .i64 a2)), (.arr false a3z (.ints .i64 a3)), (.arr false a4z (.ints .i64 a4)), (.int .i64 a5), (.int .i64 a6), (.int .i64 a7), (.int .i64 a8), (.int .i64 a9), (.int .i64 a10), (.int .i64 a11), (.int .i64 a12), (.int .i64 a13), (.int .i64 a14), (.int .i64 a15), (.int .i64 a16), (.int .i64 a17), (.int .i64 a18), (.int .i64 a19), (.int .i64 a20)]), (.arr false bz (.r4 b))] =
 (go k spec_l36Copy [(.agg [(.int .i64 a0), (.arr false a1z (.r3 a1)), (.arr false a2z (.ints .i64 a2)), (.arr false a3z (.ints .i64 a3)), (.arr false a4z (.ints .i64 a4)), (.int .i64 a5), (.int .i64 a6), (.int .i64 a7), (.int .i64 a8), (.int .i64 a9), (.int .i64 a10), (.int .i64 a11), (.int .i64 a12), (.int .i64 a13), (.int .i64 a14), (.int .i64 a15), (.int .i64 a16), (.int .i64 a17), (.int .i64 a18), (.int .i64 a19), (.int .i64 a20)])]).bind fun r0 =>
 (go k spec_WorldOk [(.agg [(.int .i64 a0), (.arr false a1z (.r3 a1)), (.arr false a2z (.ints .i64 a2)), (.arr false a3z (.ints .i64 a3)), (.arr false a4z (.ints .i64 a4)), (.int .i64 a5), (.int .i64 a6), (.int .i64 a7), (.int .i64 a8), (.int .i64 a9), (.int .i64 a10), (.int .i64 a11), (.int .i64 a12), (.int .i64 a13), (.int .i64 a14), (.int .i64 a15), (.int .i64 a16), (.int .i64 a17), (.int .i64 a18), (.int .i64 a19), (.int .i64 a20)])]).bind fun r1 =>
 cond (!bit (nth r1 0))
 (some [(.agg [(.int .i64 (D.toInt (D.cell 0 (nth r0 0)))), (.arr true (D.nil (D.cell 1 (nth r0 0))) (.r3 (D.r3 (D.cell 1 (nth r0 0))))), (.arr true (D.nil (D.cell 2 (nth r0 0))) (.ints .i64 (D.ints (D.cell 2 (nth r0 0))))), (.arr true (D.nil (D.cell 3 (nth r0 0))) (.ints .i64 (D.ints (D.cell 3 (nth r0 0))))), (.arr true (D.nil (D.cell 4 (nth r0 0))) (.ints .i64 (D.ints (D.cell 4 (nth r0 0))))), (.int .i64 (D.toInt (D.cell 5 (nth r0 0)))), (.int .i64 (D.toInt (D.cell 6 (nth r0 0)))), (.int .i64 (D.toInt (D.cell 7 (nth r0 0)))), (.int .i64 (D.toInt (D.cell 8 (nth r0 0)))), (.int .i64 (D.toInt (D.cell 9 (nth r0 0)))), (.int .i64 (D.toInt (D.cell 10 (nth r0 0)))), (.int .i64 (D.toInt (D.cell 11 (nth r0 0)))), (.int .i64 (D.toInt (D.cell (12 : Nat) (nth r0 0)))), (.int .i64 (D.toInt (D.cell (13 : Nat) (nth r0 0)))), (.int .i64 (D.toInt (D.cell (14 : Nat) (nth r0 0)))), (.int .i64 (D.toInt (D.cell (15 : Nat) (nth r0 0)))), (.int .i64 (D.toInt (D.cell (16 : Nat) (nth r0 0)))), (.int .i64 (D.toInt (D.cell (17 : Nat) (nth r0 0)))), (.int .i64 (D.toInt (D.cell (18 : Nat) (nth r0 0)))), (.int .i64 (D.toInt (D.cell (19 : Nat) (nth r0 0)))), (.int .i64 (D.toInt (D.cell (20 : Nat) (nth r0 0))))]), (.arr true false (.ints .i64 []))])
 (cond (decide ((30 : Int) < nI (List.length b)))
 (some [(.agg [(.int .i64 (D.toInt (D.cell 0 (nth r0 0)))), (.arr true (D.nil (D.cell 1 (nth r0 0))) (.r3 (D.r3 (D.cell 1 (nth r0 0))))), (.arr true (D.nil (D.cell 2 (nth r0 0))) (.ints .i64 (D.ints (D.cell 2 (nth r0 0))))), (.arr true (D.nil (D.cell 3 (nth r0 0))) (.ints .i64 (D.ints (D.cell 3 (nth r0 0))))), (.arr true (D.nil (D.cell 4 (nth r0 0))) (.ints .i64 (D.ints (D.cell 4 (nth r0 0))))), (.int .i64 (D.toInt (D.cell 5 (nth r0 0)))), (.int .i64 (D.toInt (D.cell 6 (nth r0 0)))), (.int .i64 (D.toInt (D.cell 7 (nth r0 0)))), (.int .i64 (D.toInt (D.cell 8 (nth r0 0)))), (.int .i64 (D.toInt (D.cell 9 (nth r0 0)))), (.int .i64 (D.toInt (D.cell 10 (nth r0 0)))), (.int .i64 (D.toInt (D.cell 11 (nth r0 0)))), (.int .i64 (D.toInt (D.cell (12 : Nat) (nth r0 0)))), (.int .i64 (D.toInt (D.cell (13 : Nat) (nth r0 0)))), (.int .i64 (D.toInt (D.cell (14 : Nat) (nth r0 0)))), (.int .i64 (D.toInt (D.cell (15 : Nat) (nth r0 0)))), (.int .i64 (D.toInt (D.cell (16 : Nat) (nth r0 0)))), (.int .i64 (D.toInt (D.cell (17 : Nat) (nth r0 0)))), (.int .i64 (D.toInt (D.cell (18 : Nat) (nth r0 0)))), (.int .i64 (D.toInt (D.cell (19 : Nat) (nth r0 0)))), (.int .i64 (D.toInt (D.cell (20 : Nat) (nth r0 0))))]), (.arr true false (.ints .i64 []))])
 (lp k spec_RunActs [] [] 6 k (qxa (0 : Int) bz b true [] true [] true [] true [] (0 : Int) (0 : Int) (0 : Int) (0 : Int) (0 : Int) (0 : Int) (0 : Int) (0 : Int) (0 : Int) (0 : Int) (0 : Int) (0 : Int) (0 : Int) (0 : Int) (0 : Int) (0 : Int) (0 : Int) (D.nil (D.cell 1 (nth r0 0))) (D.r3 (D.cell 1 (nth r0 0))) (D.nil (D.cell 2 (nth r0 0))) (D.ints (D.cell 2 (nth r0 0))) (D.nil (D.cell 3 (nth r0 0))) (D.ints (D.cell 3 (nth r0 0))) (D.nil (D.cell 4 (nth r0 0))) (D.ints (D.cell 4 (nth r0 0))) (D.toInt (D.cell 0 (nth r0 0))) (D.toInt (D.cell 5 (nth r0 0))) (D.toInt (D.cell 6 (nth r0 0))) (D.toInt (D.cell 7 (nth r0 0))) (D.toInt (D.cell 8 (nth r0 0))) (D.toInt (D.cell 9 (nth r0 0))) (D.toInt (D.cell 10 (nth r0 0))) (D.toInt (D.cell 11 (nth r0 0))) (D.toInt (D.cell (12 : Nat) (nth r0 0))) (D.toInt (D.cell (13 : Nat) (nth r0 0))) (D.toInt (D.cell (14 : Nat) (nth r0 0))) (D.toInt (D.cell (15 : Nat) (nth r0 0))) (D.toInt (D.cell (16 : Nat) (nth r0 0))) (D.toInt (D.cell (17 : Nat) (nth r0 0))) (D.toInt (D.cell (18 : Nat) (nth r0 0))) (D.toInt (D.cell (19 : Nat) (nth r0 0))) (D.toInt (D.cell (20 : Nat) (nth r0 0))) false []))) := by kernel_rfl
theorem qp0 (k n : Nat) (fu : List (Nat × Nat)) (x0 : Int) (z1 : Bool) (l2 : List (Int × Int × Int × Int)) (z3 : Bool) (l4 : List (Int × Int × Int)) (z5 : Bool) (l6 : List Int) (z7 : Bool) (l8 : List Int) (z9 : Bool) (l10 : List Int) (x11 x12 x13 x14 x15 x16 x17 x18 x19 x20 x21 x22 x23 x24 x25 x26 x27 : Int) (z28 : Bool) (l29 : List (Int × Int × Int)) (z30 : Bool) (l31 : List Int) (z32 : Bool) (l33 : List Int) (z34 : Bool) (l35 : List Int) (x36 x37 x38 x39 x40 x41 x42 x43 x44 x45 x46 x47 x48 x49 x50 x51 x52 : Int) (z53 : Bool) (l54 : List Int) : lp k spec_RunActs [] fu 6 (n + 1) (qxa x0 z1 l2 z3 l4 z5 l6 z7 l8 z9 l10 x11 x12 x13 x14 x15 x16 x17 x18 x19 x20 x21 x22 x23 x24 x25 x26 x27 z28 l29 z30 l31 z32 l33 z34 l35 x36 x37 x38 x39 x40 x41 x42 x43 x44 x45 x46 x47 x48 x49 x50 x51 x52 z53 l54) =
 cond (decide (x0 < nI (List.length l2)))
 (cond (decide ((0 : Int) ≤ x0) && decide (x0 < nI (List.length l2)))
 ((go k spec_DoAct [(.agg [(.int .i64 x36), (.arr false z28 (.r3 l29)), (.arr false z30 (.ints .i64 l31)), (.arr false z32 (.ints .i64 l33)), (.arr false z34 (.ints .i64 l35)), (.int .i64 x37), (.int .i64 x38), (.int .i64 x39), (.int .i64 x40), (.int .i64 x41), (.int .i64 x42), (.int .i64 x43), (.int .i64 x44), (.int .i64 x45), (.int .i64 x46), (.int .i64 x47), (.int .i64 x48), (.int .i64 x49), (.int .i64 x50), (.int .i64 x51), (.int .i64 x52)]), (.agg [(.int .i64 (Prod.fst (List.getD l2 (Int.toNat x0) zz4))), (.int .i64 (Prod.fst (Prod.snd (List.getD l2 (Int.toNat x0) zz4)))), (.int .i64 (Prod.fst (Prod.snd (Prod.snd (List.getD l2 (Int.toNat x0) zz4))))), (.int .i64 (Prod.snd (Prod.snd (Prod.snd (List.getD l2 (Int.toNat x0) zz4)))))])]).bind fun r0 =>
 cond (decide (List.length (l54 ++ [D.toInt (nth r0 1)]) ≤ bigLen))
 (lp k spec_RunActs [] fu 6 n (qxa (IntKind.wrap .i64 (x0 + (1 : Int))) z1 l2 z3 l4 z5 l6 z7 l8 z9 l10 x11 x12 x13 x14 x15 x16 x17 x18 x19 x20 x21 x22 x23 x24 x25 x26 x27 (D.nil (D.cell 1 (nth r0 0))) (D.r3 (D.cell 1 (nth r0 0))) (D.nil (D.cell 2 (nth r0 0))) (D.ints (D.cell 2 (nth r0 0))) (D.nil (D.cell 3 (nth r0 0))) (D.ints (D.cell 3 (nth r0 0))) (D.nil (D.cell 4 (nth r0 0))) (D.ints (D.cell 4 (nth r0 0))) (D.toInt (D.cell 0 (nth r0 0))) (D.toInt (D.cell 5 (nth r0 0))) (D.toInt (D.cell 6 (nth r0 0))) (D.toInt (D.cell 7 (nth r0 0))) (D.toInt (D.cell 8 (nth r0 0))) (D.toInt (D.cell 9 (nth r0 0))) (D.toInt (D.cell 10 (nth r0 0))) (D.toInt (D.cell 11 (nth r0 0))) (D.toInt (D.cell (12 : Nat) (nth r0 0))) (D.toInt (D.cell (13 : Nat) (nth r0 0))) (D.toInt (D.cell (14 : Nat) (nth r0 0))) (D.toInt (D.cell (15 : Nat) (nth r0 0))) (D.toInt (D.cell (16 : Nat) (nth r0 0))) (D.toInt (D.cell (17 : Nat) (nth r0 0))) (D.toInt (D.cell (18 : Nat) (nth r0 0))) (D.toInt (D.cell (19 : Nat) (nth r0 0))) (D.toInt (D.cell (20 : Nat) (nth r0 0))) (z53 && decide (List.length (l54 ++ [D.toInt (nth r0 1)]) = 0)) (l54 ++ [D.toInt (nth r0 1)])))
 none)
 none)
 (some [(.agg [(.int .i64 x36), (.arr true z28 (.r3 l29)), (.arr true z30 (.ints .i64 l31)), (.arr true z32 (.ints .i64 l33)), (.arr true z34 (.ints .i64 l35)), (.int .i64 x37), (.int .i64 x38), (.int .i64 x39), (.int .i64 x40), (.int .i64 x41), (.int .i64 x42), (.int .i64 x43), (.int .i64 x44), (.int .i64 x45), (.int .i64 x46), (.int .i64 x47), (.int .i64 x48), (.int .i64 x49), (.int .i64 x50), (.int .i64 x51), (.int .i64 x52)]), (.arr true z53 (.ints .i64 l54))]) := by kernel_rfl
def qv8 (x0 x1 : Int) (z2 : Bool) (l3 : List (Int × Int × Int)) (z4 : Bool) (l5 : List Int) (z6 : Bool) (l7 : List Int) (z8 : Bool) (l9 : List Int) (x10 x11 x12 x13 x14 x15 x16 x17 x18 x19 x20 x21 x22 x23 x24 x25 x26 : Int) (z27 : Bool) (l28 : List (Int × Int × Int)) (z29 : Bool) (l30 : List Int) (z31 : Bool) (l32 : List Int) (z33 : Bool) (l34 : List Int) (x35 x36 x37 x38 x39 x40 x41 x42 x43 x44 x45 x46 x47 x48 x49 x50 x51 : Int) (z52 : Bool) (l53 : List Int) (z54 : Bool) (l55 : List (Int × Int × Int × Int)) : St := ⟨fill 44 [(4, (.ptr 4 0 0)), (6, (.ptr 9 0 0)), (7, (.sl 10 none)), (24, (.sl 11 none)), (25, (.int .i64 x0)), (26, (.int .i64 x1))], [], [(.arr true z2 (.r3 l3)), (.arr true z4 (.ints .i64 l5)), (.arr true z6 (.ints .i64 l7)), (.arr true z8 (.ints .i64 l9)), (.box true [(.int .i64 x10), (.sl 0 none), (.sl 1 none), (.sl 2 none), (.sl 3 none), (.int .i64 x11), (.int .i64 x12), (.int .i64 x13), (.int .i64 x14), (.int .i64 x15), (.int .i64 x16), (.int .i64 x17), (.int .i64 x18), (.int .i64 x19), (.int .i64 x20), (.int .i64 x21), (.int .i64 x22), (.int .i64 x23), (.int .i64 x24), (.int .i64 x25), (.int .i64 x26)]), (.arr true z27 (.r3 l28)), (.arr true z29 (.ints .i64 l30)), (.arr true z31 (.ints .i64 l32)), (.arr true z33 (.ints .i64 l34)), (.box true [(.int .i64 x35), (.sl 5 none), (.sl 6 none), (.sl 7 none), (.sl 8 none), (.int .i64 x36), (.int .i64 x37), (.int .i64 x38), (.int .i64 x39), (.int .i64 x40), (.int .i64 x41), (.int .i64 x42), (.int .i64 x43), (.int .i64 x44), (.int .i64 x45), (.int .i64 x46), (.int .i64 x47), (.int .i64 x48), (.int .i64 x49), (.int .i64 x50), (.int .i64 x51)]), (.arr true z52 (.ints .i64 l53)), (.arr false z54 (.r4 l55))]⟩
theorem qi7 (k : Nat) (a0 : Int) (a1z : Bool) (a1 : List (Int × Int × Int)) (a2z : Bool) (a2 : List Int) (a3z : Bool) (a3 : List Int) (a4z : Bool) (a4 : List Int) (a5 a6 a7 a8 a9 a10 a11 a12 a13 a14 a15 a16 a17 a18 a19 a20 : Int) (bz : Bool) (b : List (Int × Int × Int × Int)) : go (k + 1) impl_RunActs [(.agg [(.int .i64 a0), (.arr false a1z (.r3 a1)), (.arr false a2z (.ints .i64 a2)), (.arr false a3z (.ints .i64 a3)), (.arr false a4z (.ints .i64 a4)), (.int .i64 a5), (.int .i64 a6), (.int .i64 a7), (.int .i64 a8), (.int .i64 a9), (.int .i64 a10), (.int .i64 a11), (.int .i64 a12), (.int .i64 a13), (.int .i64 a14), (.int .i64 a15), (.int .i64 a16), (.int .i64 a17), (.int .i64 a18), (.int .i64 a19), (.int .i64 a20)]), (.arr false bz (.r4 b))] =
 (go k impl_copyWorld [(.agg [(.int .i64 a0), (.arr false a1z (.r3 a1)), (.arr false a2z (.ints .i64 a2)), (.arr false a3z (.ints .i64 a3)), (.arr false a4z (.ints .i64 a4)), (.int .i64 a5), (.int .i64 a6), (.int .i64 a7), (.int .i64 a8), (.int .i64 a9), (.int .i64 a10), (.int .i64 a11), (.int .i64 a12), (.int .i64 a13), (.int .i64 a14), (.int .i64 a15), (.int .i64 a16), (.int .i64 a17), (.int .i64 a18), (.int .i64 a19), (.int .i64 a20)])]).bind fun r0 =>
 (go k impl_WorldOk [(.agg [(.int .i64 a0), (.arr false a1z (.r3 a1)), (.arr false a2z (.ints .i64 a2)), (.arr false a3z (.ints .i64 a3)), (.arr false a4z (.ints .i64 a4)), (.int .i64 a5), (.int .i64 a6), (.int .i64 a7), (.int .i64 a8), (.int .i64 a9), (.int .i64 a10), (.int .i64 a11), (.int .i64 a12), (.int .i64 a13), (.int .i64 a14), (.int .i64 a15), (.int .i64 a16), (.int .i64 a17), (.int .i64 a18), (.int .i64 a19), (.int .i64 a20)])]).bind fun r1 =>
 cond (!bit (nth r1 0))
 (some [(.agg [(.int .i64 (D.toInt (D.cell 0 (nth r0 0)))), (.arr true (D.nil (D.cell 1 (nth r0 0))) (.r3 (D.r3 (D.cell 1 (nth r0 0))))), (.arr true (D.nil (D.cell 2 (nth r0 0))) (.ints .i64 (D.ints (D.cell 2 (nth r0 0))))), (.arr true (D.nil (D.cell 3 (nth r0 0))) (.ints .i64 (D.ints (D.cell 3 (nth r0 0))))), (.arr true (D.nil (D.cell 4 (nth r0 0))) (.ints .i64 (D.ints (D.cell 4 (nth r0 0))))), (.int .i64 (D.toInt (D.cell 5 (nth r0 0)))), (.int .i64 (D.toInt (D.cell 6 (nth r0 0)))), (.int .i64 (D.toInt (D.cell 7 (nth r0 0)))), (.int .i64 (D.toInt (D.cell 8 (nth r0 0)))), (.int .i64 (D.toInt (D.cell 9 (nth r0 0)))), (.int .i64 (D.toInt (D.cell 10 (nth r0 0)))), (.int .i64 (D.toInt (D.cell 11 (nth r0 0)))), (.int .i64 (D.toInt (D.cell (12 : Nat) (nth r0 0)))), (.int .i64 (D.toInt (D.cell (13 : Nat) (nth r0 0)))), (.int .i64 (D.toInt (D.cell (14 : Nat) (nth r0 0)))), (.int .i64 (D.toInt (D.cell (15 : Nat) (nth r0 0)))), (.int .i64 (D.toInt (D.cell (16 : Nat) (nth r0 0)))), (.int .i64 (D.toInt (D.cell (17 : Nat) (nth r0 0)))), (.int .i64 (D.toInt (D.cell (18 : Nat) (nth r0 0)))), (.int .i64 (D.toInt (D.cell (19 : Nat) (nth r0 0)))), (.int .i64 (D.toInt (D.cell (20 : Nat) (nth r0 0))))]), (.arr true true (.ints .i64 []))])
 (cond (decide ((30 : Int) < nI (List.length b)))
 (some [(.agg [(.int .i64 (D.toInt (D.cell 0 (nth r0 0)))), (.arr true (D.nil (D.cell 1 (nth r0 0))) (.r3 (D.r3 (D.cell 1 (nth r0 0))))), (.arr true (D.nil (D.cell 2 (nth r0 0))) (.ints .i64 (D.ints (D.cell 2 (nth r0 0))))), (.arr true (D.nil (D.cell 3 (nth r0 0))) (.ints .i64 (D.ints (D.cell 3 (nth r0 0))))), (.arr true (D.nil (D.cell 4 (nth r0 0))) (.ints .i64 (D.ints (D.cell 4 (nth r0 0))))), (.int .i64 (D.toInt (D.cell 5 (nth r0 0)))), (.int .i64 (D.toInt (D.cell 6 (nth r0 0)))), (.int .i64 (D.toInt (D.cell 7 (nth r0 0)))), (.int .i64 (D.toInt (D.cell 8 (nth r0 0)))), (.int .i64 (D.toInt (D.cell 9 (nth r0 0)))), (.int .i64 (D.toInt (D.cell 10 (nth r0 0)))), (.int .i64 (D.toInt (D.cell 11 (nth r0 0)))), (.int .i64 (D.toInt (D.cell (12 : Nat) (nth r0 0)))), (.int .i64 (D.toInt (D.cell (13 : Nat) (nth r0 0)))), (.int .i64 (D.toInt (D.cell (14 : Nat) (nth r0 0)))), (.int .i64 (D.toInt (D.cell (15 : Nat) (nth r0 0)))), (.int .i64 (D.toInt (D.cell (16 : Nat) (nth r0 0)))), (.int .i64 (D.toInt (D.cell (17 : Nat) (nth r0 0)))), (.int .i64 (D.toInt (D.cell (18 : Nat) (nth r0 0)))), (.int .i64 (D.toInt (D.cell (19 : Nat) (nth r0 0)))), (.int .i64 (D.toInt (D.cell (20 : Nat) (nth r0 0))))]), (.arr true true (.ints .i64 []))])
 (lp k impl_RunActs [] [] 6 k (qv8 (nI (List.length b)) (0 : Int) true [] true [] true [] true [] (0 : Int) (0 : Int) (0 : Int) (0 : Int) (0 : Int) (0 : Int) (0 : Int) (0 : Int) (0 : Int) (0 : Int) (0 : Int) (0 : Int) (0 : Int) (0 : Int) (0 : Int) (0 : Int) (0 : Int) (D.nil (D.cell 1 (nth r0 0))) (D.r3 (D.cell 1 (nth r0 0))) (D.nil (D.cell 2 (nth r0 0))) (D.ints (D.cell 2 (nth r0 0))) (D.nil (D.cell 3 (nth r0 0))) (D.ints (D.cell 3 (nth r0 0))) (D.nil (D.cell 4 (nth r0 0))) (D.ints (D.cell 4 (nth r0 0))) (D.toInt (D.cell 0 (nth r0 0))) (D.toInt (D.cell 5 (nth r0 0))) (D.toInt (D.cell 6 (nth r0 0))) (D.toInt (D.cell 7 (nth r0 0))) (D.toInt (D.cell 8 (nth r0 0))) (D.toInt (D.cell 9 (nth r0 0))) (D.toInt (D.cell 10 (nth r0 0))) (D.toInt (D.cell 11 (nth r0 0))) (D.toInt (D.cell (12 : Nat) (nth r0 0))) (D.toInt (D.cell (13 : Nat) (nth r0 0))) (D.toInt (D.cell (14 : Nat) (nth r0 0))) (D.toInt (D.cell (15 : Nat) (nth r0 0))) (D.toInt (D.cell (16 : Nat) (nth r0 0))) (D.toInt (D.cell (17 : Nat) (nth r0 0))) (D.toInt (D.cell (18 : Nat) (nth r0 0))) (D.toInt (D.cell (19 : Nat) (nth r0 0))) (D.toInt (D.cell (20 : Nat) (nth r0 0))) false [] bz b))) := by kernel_rfl
theorem qoy (k n : Nat) (fu : List (Nat × Nat)) (x0 x1 : Int) (z2 : Bool) (l3 : List (Int × Int × Int)) (z4 : Bool) (l5 : List Int) (z6 : Bool) (l7 : List Int) (z8 : Bool) (l9 : List Int) (x10 x11 x12 x13 x14 x15 x16 x17 x18 x19 x20 x21 x22 x23 x24 x25 x26 : Int) (z27 : Bool) (l28 : List (Int × Int × Int)) (z29 : Bool) (l30 : List Int) (z31 : Bool) (l32 : List Int) (z33 : Bool) (l34 : List Int) (x35 x36 x37 x38 x39 x40 x41 x42 x43 x44 x45 x46 x47 x48 x49 x50 x51 : Int) (z52 : Bool) (l53 : List Int) (z54 : Bool) (l55 : List (Int × Int × Int × Int)) : lp k impl_RunActs [] fu 6 (n + 1) (qv8 x0 x1 z2 l3 z4 l5 z6 l7 z8 l9 x10 x11 x12 x13 x14 x15 x16 x17 x18 x19 x20 x21 x22 x23 x24 x25 x26 z27 l28 z29 l30 z31 l32 z33 l34 x35 x36 x37 x38 x39 x40 x41 x42 x43 x44 x45 x46 x47 x48 x49 x50 x51 z52 l53 z54 l55) =
 cond (decide (x1 < x0))
 (cond (decide ((0 : Int) ≤ x1) && decide (x1 < nI (List.length l55)))
 ((go k impl_DoAct [(.agg [(.int .i64 x35), (.arr false z27 (.r3 l28)), (.arr false z29 (.ints .i64 l30)), (.arr false z31 (.ints .i64 l32)), (.arr false z33 (.ints .i64 l34)), (.int .i64 x36), (.int .i64 x37), (.int .i64 x38), (.int .i64 x39), (.int .i64 x40), (.int .i64 x41), (.int .i64 x42), (.int .i64 x43), (.int .i64 x44), (.int .i64 x45), (.int .i64 x46), (.int .i64 x47), (.int .i64 x48), (.int .i64 x49), (.int .i64 x50), (.int .i64 x51)]), (.agg [(.int .i64 (Prod.fst (List.getD l55 (Int.toNat x1) zz4))), (.int .i64 (Prod.fst (Prod.snd (List.getD l55 (Int.toNat x1) zz4)))), (.int .i64 (Prod.fst (Prod.snd (Prod.snd (List.getD l55 (Int.toNat x1) zz4))))), (.int .i64 (Prod.snd (Prod.snd (Prod.snd (List.getD l55 (Int.toNat x1) zz4)))))])]).bind fun r0 =>
 cond (decide (List.length (l53 ++ [D.toInt (nth r0 1)]) ≤ bigLen))
 (lp k impl_RunActs [] fu 6 n (qv8 x0 (IntKind.wrap .i64 (x1 + (1 : Int))) z2 l3 z4 l5 z6 l7 z8 l9 x10 x11 x12 x13 x14 x15 x16 x17 x18 x19 x20 x21 x22 x23 x24 x25 x26 (D.nil (D.cell 1 (nth r0 0))) (D.r3 (D.cell 1 (nth r0 0))) (D.nil (D.cell 2 (nth r0 0))) (D.ints (D.cell 2 (nth r0 0))) (D.nil (D.cell 3 (nth r0 0))) (D.ints (D.cell 3 (nth r0 0))) (D.nil (D.cell 4 (nth r0 0))) (D.ints (D.cell 4 (nth r0 0))) (D.toInt (D.cell 0 (nth r0 0))) (D.toInt (D.cell 5 (nth r0 0))) (D.toInt (D.cell 6 (nth r0 0))) (D.toInt (D.cell 7 (nth r0 0))) (D.toInt (D.cell 8 (nth r0 0))) (D.toInt (D.cell 9 (nth r0 0))) (D.toInt (D.cell 10 (nth r0 0))) (D.toInt (D.cell 11 (nth r0 0))) (D.toInt (D.cell (12 : Nat) (nth r0 0))) (D.toInt (D.cell (13 : Nat) (nth r0 0))) (D.toInt (D.cell (14 : Nat) (nth r0 0))) (D.toInt (D.cell (15 : Nat) (nth r0 0))) (D.toInt (D.cell (16 : Nat) (nth r0 0))) (D.toInt (D.cell (17 : Nat) (nth r0 0))) (D.toInt (D.cell (18 : Nat) (nth r0 0))) (D.toInt (D.cell (19 : Nat) (nth r0 0))) (D.toInt (D.cell (20 : Nat) (nth r0 0))) (z52 && decide (List.length (l53 ++ [D.toInt (nth r0 1)]) = 0)) (l53 ++ [D.toInt (nth r0 1)]) z54 l55))
 none)
 none)
 (some [(.agg [(.int .i64 x35), (.arr true z27 (.r3 l28)), (.arr true z29 (.ints .i64 l30)), (.arr true z31 (.ints .i64 l32)), (.arr true z33 (.ints .i64 l34)), (.int .i64 x36), (.int .i64 x37), (.int .i64 x38), (.int .i64 x39), (.int .i64 x40), (.int .i64 x41), (.int .i64 x42), (.int .i64 x43), (.int .i64 x44), (.int .i64 x45), (.int .i64 x46), (.int .i64 x47), (.int .i64 x48), (.int .i64 x49), (.int .i64 x50), (.int .i64 x51)]), (.arr true z52 (.ints .i64 l53))]) := by kernel_rfl
theorem qin (k : Nat) (a0 : Int) (a1z : Bool) (a1 : List (Int × Int × Int)) (a2z : Bool) (a2 : List Int) (a3z : Bool) (a3 : List Int) (a4z : Bool) (a4 : List Int) (a5 a6 a7 a8 a9 a10 a11 a12 a13 a14 a15 a16 a17 a18 a19 a20 : Int) (bz : Bool) (b : List (Int × Int × Int × Int)) (cz : Bool) (c : List Int) : go (k + 1) impl_IsReplay [(.agg [(.int .i64 a0), (.arr false a1z (.r3 a1)), (.arr false a2z (.ints .i64 a2)), (.arr false a3z (.ints .i64 a3)), (.arr false a4z (.ints .i64 a4)), (.int .i64 a5), (.int .i64 a6), (.int .i64 a7), (.int .i64 a8), (.int .i64 a9), (.int .i64 a10), (.int .i64 a11), (.int .i64 a12), (.int .i64 a13), (.int .i64 a14), (.int .i64 a15), (.int .i64 a16), (.int .i64 a17), (.int .i64 a18), (.int .i64 a19), (.int .i64 a20)]), (.arr false bz (.r4 b)), (.arr false cz (.ints .i64 c))] =
 (go k impl_RunActs [(.agg [(.int .i64 a0), (.arr false a1z (.r3 a1)), (.arr false a2z (.ints .i64 a2)), (.arr false a3z (.ints .i64 a3)), (.arr false a4z (.ints .i64 a4)), (.int .i64 a5), (.int .i64 a6), (.int .i64 a7), (.int .i64 a8), (.int .i64 a9), (.int .i64 a10), (.int .i64 a11), (.int .i64 a12), (.int .i64 a13), (.int .i64 a14), (.int .i64 a15), (.int .i64 a16), (.int .i64 a17), (.int .i64 a18), (.int .i64 a19), (.int .i64 a20)]), (.arr false bz (.r4 b))]).bind fun r0 =>
 (go k impl_WorldOk [(.agg [(.int .i64 a0), (.arr false a1z (.r3 a1)), (.arr false a2z (.ints .i64 a2)), (.arr false a3z (.ints .i64 a3)), (.arr false a4z (.ints .i64 a4)), (.int .i64 a5), (.int .i64 a6), (.int .i64 a7), (.int .i64 a8), (.int .i64 a9), (.int .i64 a10), (.int .i64 a11), (.int .i64 a12), (.int .i64 a13), (.int .i64 a14), (.int .i64 a15), (.int .i64 a16), (.int .i64 a17), (.int .i64 a18), (.int .i64 a19), (.int .i64 a20)])]).bind fun r1 =>
 cond (bit (nth r1 0))
 (cond (decide (nI (List.length b) ≤ (30 : Int)))
 ((go k slices_Equal_int_int [(.arr false (D.nil (nth r0 1)) (.ints .i64 (D.ints (nth r0 1)))), (.arr false cz (.ints .i64 c))]).bind fun r2 =>
 some [(.bool (bit (nth r2 0)))])
 (some [(.bool false)]))
 (some [(.bool false)]) := by kernel_rfl
end Go.Proofs.YtoldpdhhfmlckaaGreat
end
section
namespace Go.Proofs.YtoldpdhhfmlckaaGreat
open Go.Ev
set_option maxRecDepth 20000
def sgl (c d : Int) : Bool := decide (c = 0) && decide (d = 0)
def qas (a b c d : Int) : Bool := cond (decide (a = 1)) (sgl c d && inR b 1 20) (cond (decide (a = 2)) (sgl c d && inR b 0 10000) (cond (decide (a = 3)) (sgl c d && inR b 0 10000) (cond (decide (a = 4)) (qbf b c d) (cond (decide (a = 5)) (sgl c d && inR b 0 1000) (cond (decide (a = 6)) (inR b 0 1000000 && (inR c 0 1000000 && inR d 0 100)) (cond (decide (a = 7)) (inR b 0 127 && (inR c 1 10000 && inR d 0 1000)) false))))))
set_option maxHeartbeats 2000000 in
theorem qbk (k : Nat) (hk : 2000000 ≤ k) (a0 : Int) (a1 : Int) (a2 : Int) (a3 : Int) : go (k + 3) impl_ActOk [(.agg [(.int .i64 (a0)), (.int .i64 (a1)), (.int .i64 (a2)), (.int .i64 (a3))])] = some [.bool (qas a0 a1 a2 a3)] := by
  rw [qh7]
  unfold qas sgl
  by_cases hc : a2 = 0 <;> by_cases hd : a3 = 0
  all_goals
    by_cases h1 : a0 = 1
    · simp (disch := omega) only [dT, qdy, bit, qa9, nth0, qzt, qhl, dF, qhj, Bool.and_true, Bool.true_and, Bool.and_false, Bool.false_and]
    by_cases h2 : a0 = 2
    · simp (disch := omega) only [dT, dF, bit, qhl, qdd, qa9, nth0, qzt, qhj, Bool.and_true, Bool.true_and, Bool.and_false, Bool.false_and]
    by_cases h3 : a0 = 3
    · simp (disch := omega) only [dT, dF, bit, qhl, qdd, qa9, nth0, qzt, qhj, Bool.and_true, Bool.true_and, Bool.and_false, Bool.false_and]
    by_cases h4 : a0 = 4
    · simp (disch := omega) only [dT, dF, bit, qhl, qbo, qa9, nth0, qzt, qhj, Bool.and_true, Bool.true_and, Bool.and_false, Bool.false_and]
    by_cases h5 : a0 = 5
    · simp (disch := omega) only [dT, dF, bit, qhl, qde, qa9, nth0, qzt, qhj, Bool.and_true, Bool.true_and, Bool.and_false, Bool.false_and]
    by_cases h6 : a0 = 6
    · simp (disch := omega) only [dT, dF, qdy, bit, qa9, nth0, qzt, qhl, qhn, qhj, Bool.and_true, Bool.true_and, Bool.and_false, Bool.false_and]
    by_cases h7 : a0 = 7
    · simp (disch := omega) only [dT, dF, qdy, bit, qa9, nth0, qzt, qhl, qhn, qhj, Bool.and_true, Bool.true_and, Bool.and_false, Bool.false_and]
    simp (disch := omega) only [dT, dF, bit, qhl, qhj, Bool.and_true, Bool.true_and, Bool.and_false, Bool.false_and]
set_option maxHeartbeats 2000000 in
theorem qd9 (k : Nat) (hk : 2000000 ≤ k) (a0 : Int) (a1 : Int) (a2 : Int) (a3 : Int) : go (k + 3) spec_ActOk [(.agg [(.int .i64 (a0)), (.int .i64 (a1)), (.int .i64 (a2)), (.int .i64 (a3))])] = some [.bool (qas a0 a1 a2 a3)] := by
  rw [qk0]
  unfold qas sgl
  by_cases hc : a2 = 0 <;> by_cases hd : a3 = 0
  all_goals
    by_cases h1 : a0 = 1
    · simp (disch := omega) only [qnb, dF, qhj, Bool.and_true, dT, qfj, bit, qa9, nth0, qzt, qhl, qgr, qzu, dTT, qgs, qg3, qg5, Bool.not_true, Bool.true_and, Bool.and_false, Bool.not_false, Bool.false_and]
    by_cases h2 : a0 = 2
    · simp (disch := omega) only [qnb, dF, qhj, Bool.and_true, qfj, bit, qa9, nth0, qzt, dT, qhl, qgr, qzu, dTT, qgs, qg3, qg5, Bool.not_true, Bool.true_and, Bool.and_false, Bool.not_false, Bool.false_and]
    by_cases h3 : a0 = 3
    · simp (disch := omega) only [qnb, dF, qhj, Bool.and_true, qfj, bit, qa9, nth0, qzt, dT, qhl, qgr, qzu, dTT, qgs, qg3, qg5, Bool.not_true, Bool.true_and, Bool.and_false, Bool.not_false, Bool.false_and]
    by_cases h4 : a0 = 4
    · simp (disch := omega) only [qnb, dT, dF, qhj, qhl, Bool.and_true, bit, qec, qa9, nth0, qzt, qgr, qzu, dTT, qgs, qg3, qg5, Bool.not_true, Bool.true_and, Bool.and_false, Bool.false_and]
    by_cases h5 : a0 = 5
    · simp (disch := omega) only [qnb, dF, qhj, Bool.and_true, qfj, bit, qa9, nth0, qzt, dT, qhl, qgr, qzu, dTT, qgs, qg3, qg5, Bool.not_true, Bool.true_and, Bool.and_false, Bool.not_false, Bool.false_and]
    by_cases h6 : a0 = 6
    · simp (disch := omega) only [qnb, dF, dT, qhj, qhl, Bool.and_true, qfj, bit, qa9, nth0, qzt, qhn, qgr, qzu, dTT, qgs, qg3, qg5, Bool.not_true, Bool.true_and, Bool.and_false, Bool.false_and]
    by_cases h7 : a0 = 7
    · simp (disch := omega) only [qnb, dF, dT, qhl, qhj, Bool.and_true, qfj, bit, qa9, nth0, qzt, qhn, qgr, qzu, dTT, qgs, qg3, qg5, Bool.not_true, Bool.true_and, Bool.and_false, Bool.false_and]
    simp (disch := omega) only [qnb, dF, qhj, Bool.and_true, bit, qa9, nth0, qgr, qzu, dTT, qgs, qg3, dT, qg5, Bool.not_true, Bool.true_and, Bool.and_false, Bool.not_false, qhl, Bool.false_and]
abbrev wdP (w : Wd) : D := .ptr true [.int .i64 w.r, .arr true false (.r3 w.s.1), .arr true false (.ints .i64 w.s.2.1), .arr true false (.ints .i64 w.s.2.2), .arr true false (.ints .i64 w.b), .int .i64 w.p.bi, .int .i64 w.p.bs, .int .i64 w.p.bo, .int .i64 w.p.rain, .int .i64 w.p.loss, .int .i64 w.p.dec, .int .i64 w.p.high, .int .i64 w.p.low, .int .i64 w.p.every, .int .i64 w.k, .int .i64 w.ld.mi, .int .i64 w.ld.mo, .int .i64 w.ld.ti, .int .i64 w.ld.ou, .int .i64 w.f, .int .i64 w.g]
def qh4 (w : Wd) (p m h : Int) : Bool := qh1 w.r w.s.1 w.s.2.1 w.s.2.2 w.b w.p.bi w.p.bs w.p.bo w.p.rain w.p.loss w.p.dec w.p.high w.p.low w.p.every w.k w.ld.mi w.ld.mo w.ld.ti w.ld.ou w.f w.g p m h
def drp1 (w : Wd) (p m h : Int) : Wd := { w with s := (w.s.1, w.s.2.1.set (qqp w.r w.s.1 p).toNat (w.s.2.1.getD (qqp w.r w.s.1 p).toNat 0 + m), w.s.2.2.set (qqp w.r w.s.1 p).toNat (w.s.2.2.getD (qqp w.r w.s.1 p).toNat 0 + m * h)), ld := { w.ld with mi := w.ld.mi + m, ti := w.ld.ti + m * h } }
def drp (w : Wd) (p m h : Int) : Wd := cond (qh4 w p m h) (drp1 w p m h) w
theorem qbw (k : Nat) (hk : 2000000 ≤ k) (w : Wd) (p m h : Int) (S : Sml w) : go (k + 10) impl_Drop [wdR w, .int .i64 p, .int .i64 m, .int .i64 h] = some [wdO (drp w p m h), .bool (qh4 w p m h)] := by
  have e := qbv k hk w.r w.s.1 w.s.2.1 w.s.2.2 w.b w.p.bi w.p.bs w.p.bo w.p.rain w.p.loss w.p.dec w.p.high w.p.low w.p.every w.k w.ld.mi w.ld.mo w.ld.ti w.ld.ou w.f w.g p m h S.h1 S.h2 S.h3 S.h4
  refine e.trans ?_
  unfold drp
  cases g : qh4 w p m h
  · unfold qh4 at g; rw [g]; rfl
  · unfold qh4 at g; rw [g]; rfl
theorem qen (k : Nat) (hk : 2000000 ≤ k) (w : Wd) (p m h : Int) (S : Sml w) : go (k + 9) spec_Drop [wdR w, .int .i64 p, .int .i64 m, .int .i64 h] = some [wdO (drp w p m h), .bool (qh4 w p m h)] := by
  have e := qem k hk w.r false w.s.1 false w.s.2.1 false w.s.2.2 false w.b w.p.bi w.p.bs w.p.bo w.p.rain w.p.loss w.p.dec w.p.high w.p.low w.p.every w.k w.ld.mi w.ld.mo w.ld.ti w.ld.ou w.f w.g p m h S.h1 S.h2 S.h3 S.h4
  refine e.trans ?_
  unfold drp
  cases g : qh4 w p m h
  · unfold qh4 at g; rw [g]; rfl
  · unfold qh4 at g; rw [g]; rfl
def actW (w : Wd) (a b c d : Int) : Wd × Int :=
  if a = 1 then (adv w b, isum (adv w b).s.2.1) else if a = 2 then ({ w with p := { w.p with rain := b } }, 1) else if a = 3 then ({ w with p := { w.p with loss := b } }, 1) else if a = 4 then ({ w with p := { w.p with bi := b, bs := c, bo := d } }, 1) else
  if a = 5 then ({ w with p := { w.p with dec := b } }, 1) else if a = 6 then ({ w with p := { w.p with high := b, low := c, every := d } }, (w.s.1.length : Int)) else (drp w b c d, cond (qh4 w b c d) 1 0)
def doW (w : Wd) (a b c d : Int) : Wd × Int := cond (wdOk w && qas a b c d) (actW w a b c d) (w, -1)
theorem qa0 {w : Wd} (h : wdOk w = true) (n : Int) : StF (adv w n).r (adv w n).s.1 (adv w n).s.2.1 (adv w n).s.2.2 (adv w n).b := by
  unfold adv
  cases g : qaz w n
  · exact (wdF h).F
  · exact (qaw n.toNat w 0 (wdF h).adv).F
theorem qco (k : Nat) (hk : 2000000 ≤ k) (r : Int) (l : List Cell) (m t b : List Int) (F : StF r l m t b) : go (k + 9) impl_TotalMass [.agg [.int .i64 (r), .arr false (false) (.r3 (l)), .arr false (false) (.ints .i64 (m)), .arr false (false) (.ints .i64 (t)), .arr false (false) (.ints .i64 (b))]] = some [.int .i64 (isum m)] := by
  rw [qj1]
  have := F.len; have := F.ml; have := F.tl; have := F.rr; have := F.bl
  have g := stF.2 F
  have eS := qdu (k + 7) (by omega) false m (by omega) F.mmem
  simp (disch := omega) only [qck, g, bit, eS, qa9, nth0, qzu, qzt, Bool.not_true, qhj]
theorem qat {a b c d : Int} (h : qas a b c d = true) : 1 ≤ a ∧ a ≤ 7 := by
  unfold qas at h
  by_cases h1 : a = 1
  · omega
  by_cases h2 : a = 2
  · omega
  by_cases h3 : a = 3
  · omega
  by_cases h4 : a = 4
  · omega
  by_cases h5 : a = 5
  · omega
  by_cases h6 : a = 6
  · omega
  by_cases h7 : a = 7
  · omega
  rw [dF h1, dF h2, dF h3, dF h4, dF h5, dF h6, dF h7] at h
  cases h
set_option maxHeartbeats 2000000 in
theorem qc4 (k : Nat) (hk : 2000000 ≤ k) (w : Wd) (a b c d : Int) (hw : wdOk w = true) (ha : qas a b c d = true) :
    go (k + 13) impl_World_do [wdP w, .agg [.int .i64 a, .int .i64 b, .int .i64 c, .int .i64 d]] = some [.int .i64 (actW w a b c d).2, wdP (actW w a b c d).1] := by
  rw [qj5]
  have F := (wdF hw).F
  have S := F.sml
  have L := F.len
  have s1 := S.h1
  have kd := qat ha
  unfold actW
  by_cases h1 : a = 1
  · have G := qa0 hw b
    have eA := qbl k (by omega) w b S
    have eT := qco (k + 3) (by omega) _ _ _ _ _ G
    rw [if_pos h1]
    simp (disch := omega) only [dT, eA, qa9, nth0, qgr, qzu, qgs, qt3, quv, qg3, qob, qg5, qg6, eT, qg7, qg8, qg9, qha, qhb, qgt, qgu, qgv, qgw, qgx, qgy, qgz, qg0, qg1, qg2, qg4, dF, nI, bit, qhj, qhl]
  rw [if_neg h1]
  by_cases h2 : a = 2
  · rw [if_pos h2]; simp (disch := omega) only [dF, dT, nI, bit, qhj, qhl]
  rw [if_neg h2]
  by_cases h3 : a = 3
  · rw [if_pos h3]; simp (disch := omega) only [dF, dT, nI, bit, qhj, qhl]
  rw [if_neg h3]
  by_cases h4 : a = 4
  · rw [if_pos h4]; simp (disch := omega) only [dF, dT, nI, bit, qhj, qhl]
  rw [if_neg h4]
  by_cases h5 : a = 5
  · rw [if_pos h5]; simp (disch := omega) only [dF, dT, nI, bit, qhj, qhl]
  rw [if_neg h5]
  by_cases h6 : a = 6
  · rw [if_pos h6]; simp (disch := omega) only [dF, dT, nI, bit, qhj, qhl]
  rw [if_neg h6]
  have h7 : a = 7 := by omega
  have eD := qbw (k + 2) (by omega) w b c d S
  cases g : qh4 w b c d
  · rw [g] at eD; simp (disch := omega) only [dF, nI, dT, eD, bit, qa9, nth1, qzt, Bool.not_false, nth0, qgr, qzu, qgs, qt3, quv, qg3, qob, qg5, qg6, qg7, qg8, qg9, qha, qhb, qgt, qgu, qgv, qgw, qgx, qgy, qgz, qg0, qg1, qg2, qg4, qhl, qhj]
  · rw [g] at eD; simp (disch := omega) only [dF, nI, dT, eD, bit, qa9, nth1, qzt, Bool.not_true, nth0, qgr, qzu, qgs, qt3, quv, qg3, qob, qg5, qg6, qg7, qg8, qg9, qha, qhb, qgt, qgu, qgv, qgw, qgx, qgy, qgz, qg0, qg1, qg2, qg4, qhj, qhl]
set_option maxHeartbeats 2000000 in
theorem qbu (k : Nat) (hk : 2000000 ≤ k) (w : Wd) (a b c d : Int) (S : Sml w) :
    go (k + 14) impl_DoAct [wdR w, .agg [.int .i64 a, .int .i64 b, .int .i64 c, .int .i64 d]] = some [wdO (doW w a b c d).1, .int .i64 (doW w a b c d).2] := by
  rw [qig]
  have eC := qc2 (k + 9) (by omega) w S
  have eO := qcs (k + 4) (by omega) w S
  unfold doW
  cases g : wdOk w
  · rw [g] at eO
    simp (disch := omega) only [eC, eO, bit, qa9, nth0, qzt, Bool.not_false, qhl, qgr, qzu, qgs, qt3, quv, qg3, qob, qg5, qg6, qg7, qg8, qg9, qha, qhb, qgt, qgu, qgv, qgw, qgx, qgy, qgz, qg0, qg1, qg2, qg4, Bool.false_and, qhj]
  rw [g] at eO
  cases g2 : qas a b c d
  · simp (disch := omega) only [eC, eO, bit, qbk, g2, qa9, nth0, qzt, Bool.not_false, qhl, Bool.not_true, qhj, qgr, qzu, qgs, qt3, quv, qg3, qob, qg5, qg6, qg7, qg8, qg9, qha, qhb, qgt, qgu, qgv, qgw, qgx, qgy, qgz, qg0, qg1, qg2, qg4, Bool.and_false]
  have eD := qc4 k (by omega) w a b c d g g2
  simp (disch := omega) only [eC, eO, bit, qbk, g2, qa9, nth0, qzt, Bool.not_true, qhj, qgr, qzu, qgs, qt3, quv, qg3, qob, qg5, qg6, qg7, qg8, qg9, qha, qhb, qgt, qgu, qgv, qgw, qgx, qgy, qgz, qg0, qg1, qg2, qg4, eD, nth1, Bool.and_true, qhl]
  rfl
set_option maxHeartbeats 2000000 in
theorem qeg (k : Nat) (hk : 2000000 ≤ k) (w : Wd) (a b c d : Int) (S : Sml w) :
    go (k + 10) spec_DoAct [wdR w, .agg [.int .i64 a, .int .i64 b, .int .i64 c, .int .i64 d]] = some [wdO (doW w a b c d).1, .int .i64 (doW w a b c d).2] := by
  rw [qk7]
  have eC := qgg (k + 6) (by omega) w S
  have eO := qfe (k + 1) (by omega) w S
  unfold doW
  cases g : wdOk w
  · rw [g] at eO
    simp (disch := omega) only [eC, eO, bit, nI, qa9, nth0, qzt, Bool.not_false, qhl, qgr, qzu, qgs, qt3, quv, qg3, qob, qg5, qg6, qg7, qg8, qg9, qha, qhb, qgt, qgu, qgv, qgw, qgx, qgy, qgz, qg0, qg1, qg2, qg4, Bool.false_and, qhj]
  rw [g] at eO
  cases g2 : qas a b c d
  · simp (disch := omega) only [eC, eO, bit, qd9, g2, nI, qa9, nth0, qzt, Bool.not_false, qhl, Bool.not_true, qhj, qgr, qzu, qgs, qt3, quv, qg3, qob, qg5, qg6, qg7, qg8, qg9, qha, qhb, qgt, qgu, qgv, qgw, qgx, qgy, qgz, qg0, qg1, qg2, qg4, Bool.and_false]
  have F := (wdF g).F
  have L := F.len; have ml := F.ml
  have kd := qat g2
  simp only [Bool.and_self, qhl]
  unfold actW
  by_cases h1 : a = 1
  · have G := qa0 g b
    have GL := G.len; have Gm := G.ml
    have eA := qea k (by omega) w b S
    have eT := qfy (k + 8) (by omega) false _ (by omega) G.mmem
    rw [if_pos h1]
    simp (disch := omega) only [eC, eO, bit, qd9, g2, dT, eA, qa9, nth0, qg3, qt3, qob, eT, qgr, qzu, qgs, quv, qg5, qg6, qg7, qg8, qg9, qha, qhb, qgt, qgu, qgv, qgw, qgx, qgy, qgz, qg0, qg1, qg2, qg4, dF, nI, qhj, qhl, qzt, Bool.not_true]
  rw [if_neg h1]
  by_cases h2 : a = 2
  · rw [if_pos h2]; simp (disch := omega) only [eC, eO, bit, qd9, g2, dF, dT, nI, qhj, qhl, qa9, nth0, qzt, Bool.not_true, qgr, qzu, qgs, qt3, quv, qg3, qob, qg5, qg6, qg7, qg8, qg9, qhb, qgt, qgu, qgv, qgw, qgx, qgy, qgz, qg0, qg1, qg2, qg4]
  rw [if_neg h2]
  by_cases h3 : a = 3
  · rw [if_pos h3]; simp (disch := omega) only [eC, eO, bit, qd9, g2, dF, dT, nI, qhj, qhl, qa9, nth0, qzt, Bool.not_true, qgr, qzu, qgs, qt3, quv, qg3, qob, qg5, qg6, qg7, qg8, qg9, qha, qgt, qgu, qgv, qgw, qgx, qgy, qgz, qg0, qg1, qg2, qg4]
  rw [if_neg h3]
  by_cases h4 : a = 4
  · rw [if_pos h4]; simp (disch := omega) only [eC, eO, bit, qd9, g2, dF, dT, nI, qhj, qhl, qa9, nth0, qzt, Bool.not_true, qgr, qzu, qgs, qt3, quv, qg3, qob, qg5, qg6, qha, qhb, qgt, qgu, qgv, qgw, qgx, qgy, qgz, qg0, qg1, qg2, qg4]
  rw [if_neg h4]
  by_cases h5 : a = 5
  · rw [if_pos h5]; simp (disch := omega) only [eC, eO, bit, qd9, g2, dF, dT, nI, qhj, qhl, qa9, nth0, qzt, Bool.not_true, qgr, qzu, qgs, qt3, quv, qg3, qob, qg5, qg6, qg7, qg8, qg9, qha, qhb, qgu, qgv, qgw, qgx, qgy, qgz, qg0, qg1, qg2, qg4]
  rw [if_neg h5]
  by_cases h6 : a = 6
  · rw [if_pos h6]; simp (disch := omega) only [eC, eO, bit, qd9, g2, dF, dT, nI, qhl, qhj, qa9, nth0, qzt, Bool.not_true, qgr, qzu, qgs, qt3, quv, qg3, qob, qg5, qg6, qg7, qg8, qg9, qha, qhb, qgt, qgx, qgy, qgz, qg0, qg1, qg2, qg4, ml]
  rw [if_neg h6]
  have h7 : a = 7 := by omega
  have eD := qen k (by omega) w b c d S
  cases q : qh4 w b c d
  · rw [q] at eD; simp (disch := omega) only [eC, eO, bit, qd9, g2, dF, nI, eD, qa9, nth1, qzt, Bool.not_false, nth0, qgr, qzu, qgs, qt3, quv, qg3, qob, qg5, qg6, qg7, qg8, qg9, qha, qhb, qgt, qgu, qgv, qgw, qgx, qgy, qgz, qg0, qg1, qg2, qg4, qhl, qhj, Bool.not_true]
  · rw [q] at eD; simp (disch := omega) only [eC, eO, bit, qd9, g2, dF, nI, eD, qa9, nth1, qzt, Bool.not_true, nth0, qgr, qzu, qgs, qt3, quv, qg3, qob, qg5, qg6, qg7, qg8, qg9, qha, qhb, qgt, qgu, qgv, qgw, qgx, qgy, qgz, qg0, qg1, qg2, qg4, qhj, qhl]
end Go.Proofs.YtoldpdhhfmlckaaGreat
end
section
namespace Go.Proofs.YtoldpdhhfmlckaaGreat
open Go.Ev
set_option maxRecDepth 20000
abbrev Acts := List (Int × Int × Int × Int)
def runN (acts : Acts) : Nat → Wd → Wd × List Int
  | 0, w => (w, [])
  | n + 1, w => ((doW (runN acts n w).1 (acts.getD n zz4).1 (acts.getD n zz4).2.1 (acts.getD n zz4).2.2.1 (acts.getD n zz4).2.2.2).1, (runN acts n w).2 ++ [(doW (runN acts n w).1 (acts.getD n zz4).1 (acts.getD n zz4).2.1 (acts.getD n zz4).2.2.1 (acts.getD n zz4).2.2.2).2])
theorem qvu (acts : Acts) : ∀ (n : Nat) (w : Wd), (runN acts n w).2.length = n
  | 0, w => rfl
  | n + 1, w => by simp [runN, qvu acts n w]
theorem qh6 {w : Wd} (S : Sml w) (p m h : Int) : Sml (drp w p m h) := by
  unfold drp
  cases qh4 w p m h
  · exact S
  · exact ⟨S.h1, by show ((List.set _ _ _).length : Int) ≤ _; rw [List.length_set]; exact S.h2, by show ((List.set _ _ _).length : Int) ≤ _; rw [List.length_set]; exact S.h3, S.h4⟩
theorem qa2 {w : Wd} (h : Sml w) (n : Int) : Sml (adv w n) := by
  unfold adv
  cases g : qaz w n
  · exact h
  · simp only [qaz, Bool.and_eq_true] at g
    exact ((qaw n.toNat w 0 (wdF g.1).adv).F).sml
theorem qh0 {w : Wd} (S : Sml w) (a b c d : Int) : Sml (doW w a b c d).1 := by
  unfold doW
  cases wdOk w && qas a b c d
  · exact S
  · simp only [qhl]
    unfold actW
    by_cases h1 : a = 1
    · rw [if_pos h1]; exact qa2 S b
    rw [if_neg h1]
    by_cases h2 : a = 2
    · rw [if_pos h2]; exact ⟨S.h1, S.h2, S.h3, S.h4⟩
    rw [if_neg h2]
    by_cases h3 : a = 3
    · rw [if_pos h3]; exact ⟨S.h1, S.h2, S.h3, S.h4⟩
    rw [if_neg h3]
    by_cases h4 : a = 4
    · rw [if_pos h4]; exact ⟨S.h1, S.h2, S.h3, S.h4⟩
    rw [if_neg h4]
    by_cases h5 : a = 5
    · rw [if_pos h5]; exact ⟨S.h1, S.h2, S.h3, S.h4⟩
    rw [if_neg h5]
    by_cases h6 : a = 6
    · rw [if_pos h6]; exact ⟨S.h1, S.h2, S.h3, S.h4⟩
    rw [if_neg h6]
    exact qh6 S b c d
theorem qvw (acts : Acts) {w : Wd} (S : Sml w) : ∀ n, Sml (runN acts n w).1
  | 0 => S
  | n + 1 => qh0 (qvw acts S n) _ _ _ _
set_option maxHeartbeats 2000000 in
theorem qrk (k : Nat) (hk : 2000000 ≤ k) (fu : List (Nat × Nat)) (acts : Acts) (hl : acts.length ≤ 30) (zz : Bool) (w0 : Wd) (S : Sml w0) (z2 : Bool) (l3 : List Cell) (z4 : Bool) (l5 : List Int) (z6 : Bool) (l7 : List Int) (z8 : Bool) (l9 : List Int) (x10 x11 x12 x13 x14 x15 x16 x17 x18 x19 x20 x21 x22 x23 x24 x25 x26 : Int) : ∀ (N i : Nat) (w : Wd) (L : List Int), w = (runN acts i w0).1 → L = (runN acts i w0).2 → i ≤ acts.length → acts.length - i < N →
    lp (k + 14) impl_RunActs [] fu 6 (N) (qv8 (acts.length : Int) (i : Int) z2 l3 z4 l5 z6 l7 z8 l9 x10 x11 x12 x13 x14 x15 x16 x17 x18 x19 x20 x21 x22 x23 x24 x25 x26 false w.s.1 false w.s.2.1 false w.s.2.2 false w.b w.r w.p.bi w.p.bs w.p.bo w.p.rain w.p.loss w.p.dec w.p.high w.p.low w.p.every w.k w.ld.mi w.ld.mo w.ld.ti w.ld.ou w.f w.g false L zz acts) = some [wdO (runN acts acts.length w0).1, .arr true false (.ints .i64 (runN acts acts.length w0).2)]
  | 0, i, w, L, ew, eL, hi, hN => by omega
  | N + 1, i, w, L, ew, eL, hi, hN => by
    rw [qoy]
    by_cases g : i < acts.length
    · have T := qvw acts S i
      rw [← ew] at T
      have e1 : (runN acts (i + 1) w0).1 = (doW w (acts.getD i zz4).1 (acts.getD i zz4).2.1 (acts.getD i zz4).2.2.1 (acts.getD i zz4).2.2.2).1 := by rw [runN, ← ew]
      have e2 : (runN acts (i + 1) w0).2 = L ++ [(doW w (acts.getD i zz4).1 (acts.getD i zz4).2.1 (acts.getD i zz4).2.2.1 (acts.getD i zz4).2.2.2).2] := by rw [runN, ← ew, ← eL]
      have IH := qrk k hk fu acts hl zz w0 S z2 l3 z4 l5 z6 l7 z8 l9 x10 x11 x12 x13 x14 x15 x16 x17 x18 x19 x20 x21 x22 x23 x24 x25 x26 N (i + 1) _ _ e1.symm e2.symm (by omega) (by omega)
      have eD := qbu k (by omega) w (acts.getD i zz4).1 (acts.getD i zz4).2.1 (acts.getD i zz4).2.2.1 (acts.getD i zz4).2.2.2 T
      have ll := qvu acts (i + 1) w0
      rw [e2] at ll
      generalize doW w (acts.getD i zz4).1 (acts.getD i zz4).2.1 (acts.getD i zz4).2.2.1 (acts.getD i zz4).2.2.2 = X at *
      simp (disch := omega) only [dT, nI, Bool.and_true, Int.toNat_natCast, eD, big0, qgp, q0l, Bool.false_and, qa9, nth1, qzu, ll, nth0, qgs, qt3, quv, qg3, qob, qg5, qg6, qgr, qg7, qg8, qg9, qha, qhb, qgt, qgu, qgv, qgw, qgx, qgy, qgz, qg0, qg1, qg2, qg4, IH, qhl]
    · have : i = acts.length := by omega
      subst this
      subst ew; subst eL
      simp (disch := omega) only [dF, dT, nI, Bool.and_false, Int.toNat_natCast, big0, qgp, q0l, Bool.false_and, qhj]
set_option maxHeartbeats 2000000 in
theorem qsl (k : Nat) (hk : 2000000 ≤ k) (fu : List (Nat × Nat)) (acts : Acts) (hl : acts.length ≤ 30) (zz : Bool) (w0 : Wd) (S : Sml w0) (z3 : Bool) (l4 : List Cell) (z5 : Bool) (l6 : List Int) (z7 : Bool) (l8 : List Int) (z9 : Bool) (l10 : List Int) (x11 x12 x13 x14 x15 x16 x17 x18 x19 x20 x21 x22 x23 x24 x25 x26 x27 : Int) : ∀ (N i : Nat) (w : Wd) (L : List Int), w = (runN acts i w0).1 → L = (runN acts i w0).2 → i ≤ acts.length → acts.length - i < N →
    lp (k + 10) spec_RunActs [] fu 6 (N) (qxa (i : Int) zz acts z3 l4 z5 l6 z7 l8 z9 l10 x11 x12 x13 x14 x15 x16 x17 x18 x19 x20 x21 x22 x23 x24 x25 x26 x27 false w.s.1 false w.s.2.1 false w.s.2.2 false w.b w.r w.p.bi w.p.bs w.p.bo w.p.rain w.p.loss w.p.dec w.p.high w.p.low w.p.every w.k w.ld.mi w.ld.mo w.ld.ti w.ld.ou w.f w.g false L) = some [wdO (runN acts acts.length w0).1, .arr true false (.ints .i64 (runN acts acts.length w0).2)]
  | 0, i, w, L, ew, eL, hi, hN => by omega
  | N + 1, i, w, L, ew, eL, hi, hN => by
    rw [qp0]
    by_cases g : i < acts.length
    · have T := qvw acts S i
      rw [← ew] at T
      have e1 : (runN acts (i + 1) w0).1 = (doW w (acts.getD i zz4).1 (acts.getD i zz4).2.1 (acts.getD i zz4).2.2.1 (acts.getD i zz4).2.2.2).1 := by rw [runN, ← ew]
      have e2 : (runN acts (i + 1) w0).2 = L ++ [(doW w (acts.getD i zz4).1 (acts.getD i zz4).2.1 (acts.getD i zz4).2.2.1 (acts.getD i zz4).2.2.2).2] := by rw [runN, ← ew, ← eL]
      have IH := qsl k hk fu acts hl zz w0 S z3 l4 z5 l6 z7 l8 z9 l10 x11 x12 x13 x14 x15 x16 x17 x18 x19 x20 x21 x22 x23 x24 x25 x26 x27 N (i + 1) _ _ e1.symm e2.symm (by omega) (by omega)
      have eD := qeg k (by omega) w (acts.getD i zz4).1 (acts.getD i zz4).2.1 (acts.getD i zz4).2.2.1 (acts.getD i zz4).2.2.2 T
      have ll := qvu acts (i + 1) w0
      rw [e2] at ll
      generalize doW w (acts.getD i zz4).1 (acts.getD i zz4).2.1 (acts.getD i zz4).2.2.1 (acts.getD i zz4).2.2.2 = X at *
      simp (disch := omega) only [nI, dT, Bool.and_true, Int.toNat_natCast, eD, big0, qgp, q0l, Bool.false_and, qa9, nth1, qzu, ll, nth0, qgs, qt3, quv, qg3, qob, qg5, qg6, qgr, qg7, qg8, qg9, qha, qhb, qgt, qgu, qgv, qgw, qgx, qgy, qgz, qg0, qg1, qg2, qg4, IH, qhl]
    · have : i = acts.length := by omega
      subst this
      subst ew; subst eL
      simp (disch := omega) only [nI, dF, dT, Bool.and_false, Int.toNat_natCast, big0, qgp, q0l, Bool.false_and, qhj]
def qvy (w : Wd) (acts : Acts) : Bool := wdOk w && decide ((acts.length : Int) ≤ 30)
def runW (w : Wd) (acts : Acts) : Wd × List Int := cond (qvy w acts) (runN acts acts.length w) (w, [])
theorem qcc (k : Nat) (hk : 2000000 ≤ k) (w : Wd) (z : Bool) (acts : Acts) (S : Sml w) (hl : (acts.length : Int) ≤ 1048576) : go (k + 15) impl_RunActs [wdR w, .arr false z (.r4 acts)] = some [wdO (runW w acts).1, .arr true (!(qvy w acts)) (.ints .i64 (runW w acts).2)] := by
  rw [qi7]
  have eC := qc2 (k + 10) (by omega) w S
  have eO := qcs (k + 5) (by omega) w S
  unfold runW qvy
  cases g : wdOk w
  · rw [g] at eO
    simp (disch := omega) only [eC, eO, bit, nI, qa9, nth0, qzt, Bool.not_false, qhl, qgr, qzu, qgs, qt3, quv, qg3, qob, qg5, qg6, qg7, qg8, qg9, qha, qhb, qgt, qgu, qgv, qgw, qgx, qgy, qgz, qg0, qg1, qg2, qg4, Bool.false_and, qhj]
  rw [g] at eO
  by_cases g2 : (acts.length : Int) ≤ 30
  case neg => simp (disch := omega) only [eC, eO, bit, nI, dT, qhl, qa9, nth0, qzt, Bool.not_true, qhj, qgr, qzu, qgs, qt3, quv, qg3, qob, qg5, qg6, qg7, qg8, qg9, qha, qhb, qgt, qgu, qgv, qgw, qgx, qgy, qgz, qg0, qg1, qg2, qg4, dF, Bool.and_false, Bool.not_false]
  have e := qrk k hk [] acts (by omega) z w S true [] true [] true [] true [] 0 0 0 0 0 0 0 0 0 0 0 0 0 0 0 0 0 (k + 14) 0 w [] rfl rfl (by omega) (by omega)
  rw [show ((0 : Nat) : Int) = 0 from rfl] at e
  simp (disch := omega) only [eC, eO, bit, nI, dF, qhj, qa9, nth0, qzt, Bool.not_true, qgs, qt3, quv, qg3, qob, qg5, qg6, qgr, qzu, qg7, qg8, qg9, qha, qhb, qgt, qgu, qgv, qgw, qgx, qgy, qgz, qg0, qg1, qg2, qg4, dT, Bool.and_true, qhl]
  exact e
theorem qex (k : Nat) (hk : 2000000 ≤ k) (w : Wd) (z : Bool) (acts : Acts) (S : Sml w) (hl : (acts.length : Int) ≤ 1048576) : go (k + 11) spec_RunActs [wdR w, .arr false z (.r4 acts)] = some [wdO (runW w acts).1, .arr true false (.ints .i64 (runW w acts).2)] := by
  rw [qlp]
  have eC := qgg (k + 7) (by omega) w S
  have eO := qfe (k + 2) (by omega) w S
  unfold runW qvy
  cases g : wdOk w
  · rw [g] at eO
    simp (disch := omega) only [eC, eO, bit, nI, qa9, nth0, qzt, Bool.not_false, qhl, qgr, qzu, qgs, qt3, quv, qg3, qob, qg5, qg6, qg7, qg8, qg9, qha, qhb, qgt, qgu, qgv, qgw, qgx, qgy, qgz, qg0, qg1, qg2, qg4, Bool.false_and, qhj]
  rw [g] at eO
  by_cases g2 : (acts.length : Int) ≤ 30
  case neg => simp (disch := omega) only [eC, eO, bit, nI, dT, qhl, qa9, nth0, qzt, Bool.not_true, qhj, qgr, qzu, qgs, qt3, quv, qg3, qob, qg5, qg6, qg7, qg8, qg9, qha, qhb, qgt, qgu, qgv, qgw, qgx, qgy, qgz, qg0, qg1, qg2, qg4, dF, Bool.and_false]
  have e := qsl k hk [] acts (by omega) z w S true [] true [] true [] true [] 0 0 0 0 0 0 0 0 0 0 0 0 0 0 0 0 0 (k + 10) 0 w [] rfl rfl (by omega) (by omega)
  rw [show ((0 : Nat) : Int) = 0 from rfl] at e
  simp (disch := omega) only [eC, eO, bit, nI, dF, qhj, qa9, nth0, qzt, Bool.not_true, qgs, qt3, quv, qg3, qob, qg5, qg6, qgr, qzu, qg7, qg8, qg9, qha, qhb, qgt, qgu, qgv, qgw, qgx, qgy, qgz, qg0, qg1, qg2, qg4, dT, Bool.and_true, qhl]
  exact e
theorem qvz (w : Wd) (acts : Acts) : (runW w acts).2.length ≤ 30 := by
  unfold runW
  cases g : qvy w acts
  · simp
  · simp only [qvy, Bool.and_eq_true, decide_eq_true_eq] at g
    rw [qhl, qvu]; omega
def qvs (w : Wd) (acts : Acts) (c : List Int) : Bool := wdOk w && (decide ((acts.length : Int) ≤ 30) && decide ((runW w acts).2 = c))
theorem qb2 (k : Nat) (hk : 2000000 ≤ k) (w : Wd) (z z' : Bool) (acts : Acts) (c : List Int) (S : Sml w) (hl : (acts.length : Int) ≤ 1048576) (hc : (c.length : Int) ≤ 1048576) : go (k + 16) impl_IsReplay [wdR w, .arr false z (.r4 acts), .arr false z' (.ints .i64 c)] = some [.bool (qvs w acts c)] := by
  rw [qin]
  have eR := qcc k (by omega) w z acts S hl
  have eO := qcs (k + 6) (by omega) w S
  have ll := qvz w acts
  unfold qvs
  generalize runW w acts = X at *
  cases g : wdOk w
  · rw [g] at eO; simp (disch := omega) only [eR, eO, bit, nI, qa9, nth0, qzt, qhj, Bool.false_and]
  rw [g] at eO
  by_cases g2 : (acts.length : Int) ≤ 30
  case neg => simp (disch := omega) only [eR, eO, bit, nI, dF, qhj, qa9, nth0, qzt, qhl, Bool.false_and, Bool.and_false]
  simp (disch := omega) only [eR, eO, bit, nI, dT, qhl, qa9, nth0, qzt, nth1, qt3, qob, qd6, Bool.true_and]
end Go.Proofs.YtoldpdhhfmlckaaGreat
end
section
namespace Go.Proofs.YtoldpdhhfmlckaaGreat
open Go.Ev
theorem qm9 (k : Nat) (v0 : Bool) (v1 : List Int) (v2 v3 : Int) : go (k + 1) spec_l37Act [(.ptr true [(.arr false v0 (.ints IntKind.u8 v1)), (.int .i64 v2), (.int .i64 v3)])] =
 (go k spec_l01Below [(.ptr true [(.arr false v0 (.ints IntKind.u8 v1)), (.int .i64 v2), (.int .i64 v3)]), (.int .i64 ((8 : Int)))]).bind fun r0 =>
 cond (decide (D.toInt (nth r0 0) = (0 : Int)))
 ((go k spec_l01Below [(.ptr true [(.arr false v0 (.ints IntKind.u8 v1)), (.int .i64 (D.toInt (D.cell 1 (nth r0 1)))), (.int .i64 (D.toInt (D.cell 2 (nth r0 1))))]), (.int .i64 ((900 : Int)))]).bind fun r1 =>
 some [(.agg [(.int .i64 ((2 : Int))), (.int .i64 (D.toInt (nth r1 0))), (.int .i64 (0 : Int)), (.int .i64 (0 : Int))]), (.ptr true [(.arr false v0 (.ints IntKind.u8 v1)), (.int .i64 (D.toInt (D.cell 1 (nth r1 1)))), (.int .i64 (D.toInt (D.cell 2 (nth r1 1))))])])
 (cond (decide (D.toInt (nth r0 0) = (1 : Int)))
 ((go k spec_l01Below [(.ptr true [(.arr false v0 (.ints IntKind.u8 v1)), (.int .i64 (D.toInt (D.cell 1 (nth r0 1)))), (.int .i64 (D.toInt (D.cell 2 (nth r0 1))))]), (.int .i64 ((900 : Int)))]).bind fun r2 =>
 some [(.agg [(.int .i64 ((3 : Int))), (.int .i64 (D.toInt (nth r2 0))), (.int .i64 (0 : Int)), (.int .i64 (0 : Int))]), (.ptr true [(.arr false v0 (.ints IntKind.u8 v1)), (.int .i64 (D.toInt (D.cell 1 (nth r2 1)))), (.int .i64 (D.toInt (D.cell 2 (nth r2 1))))])])
 (cond (decide (D.toInt (nth r0 0) = (2 : Int)))
 ((go k spec_l01Below [(.ptr true [(.arr false v0 (.ints IntKind.u8 v1)), (.int .i64 (D.toInt (D.cell 1 (nth r0 1)))), (.int .i64 (D.toInt (D.cell 2 (nth r0 1))))]), (.int .i64 ((3000 : Int)))]).bind fun r3 =>
 (go k spec_l01Below [(.ptr true [(.arr false v0 (.ints IntKind.u8 v1)), (.int .i64 (D.toInt (D.cell 1 (nth r3 1)))), (.int .i64 (D.toInt (D.cell 2 (nth r3 1))))]), (.int .i64 ((1001 : Int)))]).bind fun r4 =>
 (go k spec_l01Below [(.ptr true [(.arr false v0 (.ints IntKind.u8 v1)), (.int .i64 (D.toInt (D.cell 1 (nth r4 1)))), (.int .i64 (D.toInt (D.cell 2 (nth r4 1))))]), (.int .i64 ((251 : Int)))]).bind fun r5 =>
 some [(.agg [(.int .i64 ((4 : Int))), (.int .i64 (D.toInt (nth r3 0))), (.int .i64 (D.toInt (nth r4 0))), (.int .i64 (D.toInt (nth r5 0)))]), (.ptr true [(.arr false v0 (.ints IntKind.u8 v1)), (.int .i64 (D.toInt (D.cell 1 (nth r5 1)))), (.int .i64 (D.toInt (D.cell 2 (nth r5 1))))])])
 (cond (decide (D.toInt (nth r0 0) = (3 : Int)))
 ((go k spec_l01Below [(.ptr true [(.arr false v0 (.ints IntKind.u8 v1)), (.int .i64 (D.toInt (D.cell 1 (nth r0 1)))), (.int .i64 (D.toInt (D.cell 2 (nth r0 1))))]), (.int .i64 ((300 : Int)))]).bind fun r6 =>
 some [(.agg [(.int .i64 ((5 : Int))), (.int .i64 (D.toInt (nth r6 0))), (.int .i64 (0 : Int)), (.int .i64 (0 : Int))]), (.ptr true [(.arr false v0 (.ints IntKind.u8 v1)), (.int .i64 (D.toInt (D.cell 1 (nth r6 1)))), (.int .i64 (D.toInt (D.cell 2 (nth r6 1))))])])
 (cond (decide (D.toInt (nth r0 0) = (4 : Int)))
 ((go k spec_l01Below [(.ptr true [(.arr false v0 (.ints IntKind.u8 v1)), (.int .i64 (D.toInt (D.cell 1 (nth r0 1)))), (.int .i64 (D.toInt (D.cell 2 (nth r0 1))))]), (.int .i64 ((3000 : Int)))]).bind fun r7 =>
 (go k spec_l01Below [(.ptr true [(.arr false v0 (.ints IntKind.u8 v1)), (.int .i64 (D.toInt (D.cell 1 (nth r7 1)))), (.int .i64 (D.toInt (D.cell 2 (nth r7 1))))]), (.int .i64 ((400 : Int)))]).bind fun r8 =>
 (go k spec_l01Below [(.ptr true [(.arr false v0 (.ints IntKind.u8 v1)), (.int .i64 (D.toInt (D.cell 1 (nth r8 1)))), (.int .i64 (D.toInt (D.cell 2 (nth r8 1))))]), (.int .i64 ((3 : Int)))]).bind fun r9 =>
 some [(.agg [(.int .i64 ((6 : Int))), (.int .i64 (IntKind.wrap .i64 ((100 : Int) + D.toInt (nth r7 0)))), (.int .i64 (D.toInt (nth r8 0))), (.int .i64 (D.toInt (nth r9 0)))]), (.ptr true [(.arr false v0 (.ints IntKind.u8 v1)), (.int .i64 (D.toInt (D.cell 1 (nth r9 1)))), (.int .i64 (D.toInt (D.cell 2 (nth r9 1))))])])
 (cond (decide (D.toInt (nth r0 0) = (5 : Int)))
 ((go k spec_l01Below [(.ptr true [(.arr false v0 (.ints IntKind.u8 v1)), (.int .i64 (D.toInt (D.cell 1 (nth r0 1)))), (.int .i64 (D.toInt (D.cell 2 (nth r0 1))))]), (.int .i64 ((40 : Int)))]).bind fun r10 =>
 (go k spec_l01Below [(.ptr true [(.arr false v0 (.ints IntKind.u8 v1)), (.int .i64 (D.toInt (D.cell 1 (nth r10 1)))), (.int .i64 (D.toInt (D.cell 2 (nth r10 1))))]), (.int .i64 ((5000 : Int)))]).bind fun r11 =>
 (go k spec_l01Below [(.ptr true [(.arr false v0 (.ints IntKind.u8 v1)), (.int .i64 (D.toInt (D.cell 1 (nth r11 1)))), (.int .i64 (D.toInt (D.cell 2 (nth r11 1))))]), (.int .i64 ((1001 : Int)))]).bind fun r12 =>
 some [(.agg [(.int .i64 ((7 : Int))), (.int .i64 (D.toInt (nth r10 0))), (.int .i64 (IntKind.wrap .i64 ((1 : Int) + D.toInt (nth r11 0)))), (.int .i64 (D.toInt (nth r12 0)))]), (.ptr true [(.arr false v0 (.ints IntKind.u8 v1)), (.int .i64 (D.toInt (D.cell 1 (nth r12 1)))), (.int .i64 (D.toInt (D.cell 2 (nth r12 1))))])])
 ((go k spec_l01Below [(.ptr true [(.arr false v0 (.ints IntKind.u8 v1)), (.int .i64 (D.toInt (D.cell 1 (nth r0 1)))), (.int .i64 (D.toInt (D.cell 2 (nth r0 1))))]), (.int .i64 ((3 : Int)))]).bind fun r13 =>
 some [(.agg [(.int .i64 ((1 : Int))), (.int .i64 (IntKind.wrap .i64 ((1 : Int) + D.toInt (nth r13 0)))), (.int .i64 (0 : Int)), (.int .i64 (0 : Int))]), (.ptr true [(.arr false v0 (.ints IntKind.u8 v1)), (.int .i64 (D.toInt (D.cell 1 (nth r13 1)))), (.int .i64 (D.toInt (D.cell 2 (nth r13 1))))])])))))) := by kernel_rfl
def qxy (x0 : Int) (z1 : Bool) (l2 : List Int) (x3 x4 : Int) (z5 : Bool) (l6 : List (Int × Int × Int × Int)) : St := ⟨fill 18 [(0, (.ptr 1 0 0)), (3, (.sl 2 none)), (4, (.int .i64 x0))], [(.ptr 1 0 0), (.sl 0 none)], [(.arr false z1 (.ints IntKind.u8 l2)), (.box true [(.sl 0 none), (.int .i64 x3), (.int .i64 x4)]), (.arr true z5 (.r4 l6))]⟩
theorem qna (k : Nat) (v0 : Bool) (v1 : List Int) (v2 v3 : Int) : go (k + 1) spec_l37Acts [(.ptr true [(.arr false v0 (.ints IntKind.u8 v1)), (.int .i64 v2), (.int .i64 v3)])] =
 lp k spec_l37Acts [(.ptr true [(.arr false v0 (.ints IntKind.u8 v1)), (.int .i64 v2), (.int .i64 v3)])] [] 3 k (qxy (0 : Int) v0 v1 v2 v3 false []) := by kernel_rfl
theorem qqo (k n : Nat) (fu : List (Nat × Nat)) (v0 : Bool) (v1 : List Int) (v2 v3 x0 : Int) (z1 : Bool) (l2 : List Int) (x3 x4 : Int) (z5 : Bool) (l6 : List (Int × Int × Int × Int)) : lp k spec_l37Acts [(.ptr true [(.arr false v0 (.ints IntKind.u8 v1)), (.int .i64 v2), (.int .i64 v3)])] fu 3 (n + 1) (qxy x0 z1 l2 x3 x4 z5 l6) =
 (go k spec_l01Below [(.ptr true [(.arr false z1 (.ints IntKind.u8 l2)), (.int .i64 x3), (.int .i64 x4)]), (.int .i64 ((7 : Int)))]).bind fun r0 =>
 cond (decide (x0 < D.toInt (nth r0 0)))
 ((go k spec_l37Act [(.ptr true [(.arr false z1 (.ints IntKind.u8 l2)), (.int .i64 (D.toInt (D.cell 1 (nth r0 1)))), (.int .i64 (D.toInt (D.cell 2 (nth r0 1))))])]).bind fun r1 =>
 cond (decide (List.length (l6 ++ [(D.toInt (D.cell 0 (nth r1 0)), D.toInt (D.cell 1 (nth r1 0)), D.toInt (D.cell 2 (nth r1 0)), D.toInt (D.cell 3 (nth r1 0)))]) ≤ bigLen))
 (lp k spec_l37Acts [(.ptr true [(.arr false v0 (.ints IntKind.u8 v1)), (.int .i64 v2), (.int .i64 v3)])] fu 3 n (qxy (IntKind.wrap .i64 (x0 + (1 : Int))) z1 l2 (D.toInt (D.cell 1 (nth r1 1))) (D.toInt (D.cell 2 (nth r1 1))) (z5 && decide (List.length (l6 ++ [(D.toInt (D.cell 0 (nth r1 0)), D.toInt (D.cell 1 (nth r1 0)), D.toInt (D.cell 2 (nth r1 0)), D.toInt (D.cell 3 (nth r1 0)))]) = 0)) (l6 ++ [(D.toInt (D.cell 0 (nth r1 0)), D.toInt (D.cell 1 (nth r1 0)), D.toInt (D.cell 2 (nth r1 0)), D.toInt (D.cell 3 (nth r1 0)))])))
 none)
 (some [(.arr true z5 (.r4 l6)), (.ptr true [(.arr false z1 (.ints IntKind.u8 l2)), (.int .i64 (D.toInt (D.cell 1 (nth r0 1)))), (.int .i64 (D.toInt (D.cell 2 (nth r0 1))))])]) := by kernel_rfl
def qw1 (x0 x1 : Int) (z2 : Bool) (l3 : List Int) (z4 : Bool) (l5 : List (Int × Int × Int)) (z6 : Bool) (l7 : List Int) (z8 : Bool) (l9 : List Int) (z10 : Bool) (l11 : List Int) (x12 x13 x14 x15 x16 x17 x18 x19 x20 x21 x22 x23 x24 x25 x26 x27 x28 : Int) (z29 : Bool) (l30 : List (Int × Int × Int × Int)) : St := ⟨fill 32 [(0, (.sl 0 none)), (3, (.int .i64 x0)), (4, (.int .i64 x1))], [(.sl 0 none), .un, (.ptr 5 0 0), (.sl 6 none), .un, .un, .un, (.sl 0 none), .un, .un, .un, .un, .un, .un, .un, .un, .un, .un, .un, .un], [(.arr false z2 (.ints IntKind.u8 l3)), (.arr true z4 (.r3 l5)), (.arr true z6 (.ints .i64 l7)), (.arr true z8 (.ints .i64 l9)), (.arr true z10 (.ints .i64 l11)), (.box true [(.int .i64 x12), (.sl 1 none), (.sl 2 none), (.sl 3 none), (.sl 4 none), (.int .i64 x13), (.int .i64 x14), (.int .i64 x15), (.int .i64 x16), (.int .i64 x17), (.int .i64 x18), (.int .i64 x19), (.int .i64 x20), (.int .i64 x21), (.int .i64 x22), (.int .i64 x23), (.int .i64 x24), (.int .i64 x25), (.int .i64 x26), (.int .i64 x27), (.int .i64 x28)]), (.arr true z29 (.r4 l30))]⟩
theorem qk8 (k : Nat) (az : Bool) (a : List Int) : go (k + 1) spec_DrawActs [(.arr false az (.ints IntKind.u8 a))] =
 lp k spec_DrawActs [] [] 7800003 k (qw1 (IntKind.wrap .i64 ((98231 : Int) + nI (List.length a))) (0 : Int) az a true [] true [] true [] true [] (0 : Int) (0 : Int) (0 : Int) (0 : Int) (0 : Int) (0 : Int) (0 : Int) (0 : Int) (0 : Int) (0 : Int) (0 : Int) (0 : Int) (0 : Int) (0 : Int) (0 : Int) (0 : Int) (0 : Int) true []) := by kernel_rfl
theorem qpr (k n : Nat) (fu : List (Nat × Nat)) (x0 x1 : Int) (z2 : Bool) (l3 : List Int) (z4 : Bool) (l5 : List (Int × Int × Int)) (z6 : Bool) (l7 : List Int) (z8 : Bool) (l9 : List Int) (z10 : Bool) (l11 : List Int) (x12 x13 x14 x15 x16 x17 x18 x19 x20 x21 x22 x23 x24 x25 x26 x27 x28 : Int) (z29 : Bool) (l30 : List (Int × Int × Int × Int)) : lp k spec_DrawActs [] fu 7800003 (n + 1) (qw1 x0 x1 z2 l3 z4 l5 z6 l7 z8 l9 z10 l11 x12 x13 x14 x15 x16 x17 x18 x19 x20 x21 x22 x23 x24 x25 x26 x27 x28 z29 l30) =
 cond (decide (x1 < nI (List.length l3)))
 (cond (decide (x1 < (4000 : Int)))
 (cond (decide ((0 : Int) ≤ x1) && decide (x1 < nI (List.length l3)))
 (lp k spec_DrawActs [] fu 7800003 n (qw1 (bitN BinOp.and .i64 (IntKind.wrap .i64 (IntKind.wrap .i64 (IntKind.wrap .i64 (x0 * (131 : Int)) + IntKind.wrap .i64 (List.getD l3 (Int.toNat x1) (0 : Int))) + (7 : Int))) (1073741823 : Int)) (IntKind.wrap .i64 (x1 + (1 : Int))) z2 l3 z4 l5 z6 l7 z8 l9 z10 l11 x12 x13 x14 x15 x16 x17 x18 x19 x20 x21 x22 x23 x24 x25 x26 x27 x28 z29 l30))
 none)
 ((go k spec_l07State [(.ptr true [(.arr false z2 (.ints IntKind.u8 l3)), (.int .i64 (0 : Int)), (.int .i64 x0)])]).bind fun r0 =>
 (go k spec_l18Plan [(.ptr true [(.arr false z2 (.ints IntKind.u8 l3)), (.int .i64 (D.toInt (D.cell 1 (nth r0 1)))), (.int .i64 (D.toInt (D.cell 2 (nth r0 1))))])]).bind fun r1 =>
 (go k spec_WorldNew [(.agg [(.int .i64 (D.toInt (D.cell 0 (nth r0 0)))), (.arr false (D.nil (D.cell 1 (nth r0 0))) (.r3 (D.r3 (D.cell 1 (nth r0 0))))), (.arr false (D.nil (D.cell 2 (nth r0 0))) (.ints .i64 (D.ints (D.cell 2 (nth r0 0))))), (.arr false (D.nil (D.cell 3 (nth r0 0))) (.ints .i64 (D.ints (D.cell 3 (nth r0 0))))), (.arr false (D.nil (D.cell 4 (nth r0 0))) (.ints .i64 (D.ints (D.cell 4 (nth r0 0)))))]), (.agg [(.int .i64 (D.toInt (D.cell 0 (nth r1 0)))), (.int .i64 (D.toInt (D.cell 1 (nth r1 0)))), (.int .i64 (D.toInt (D.cell 2 (nth r1 0)))), (.int .i64 (D.toInt (D.cell 3 (nth r1 0)))), (.int .i64 (D.toInt (D.cell 4 (nth r1 0)))), (.int .i64 (D.toInt (D.cell 5 (nth r1 0)))), (.int .i64 (D.toInt (D.cell 6 (nth r1 0)))), (.int .i64 (D.toInt (D.cell 7 (nth r1 0)))), (.int .i64 (D.toInt (D.cell 8 (nth r1 0))))])]).bind fun r2 =>
 (go k spec_l37Acts [(.ptr true [(.arr false z2 (.ints IntKind.u8 l3)), (.int .i64 (D.toInt (D.cell 1 (nth r1 1)))), (.int .i64 (D.toInt (D.cell 2 (nth r1 1))))])]).bind fun r3 =>
 some [(.agg [(.int .i64 (D.toInt (D.cell 0 (nth r2 0)))), (.arr true (D.nil (D.cell 1 (nth r2 0))) (.r3 (D.r3 (D.cell 1 (nth r2 0))))), (.arr true (D.nil (D.cell 2 (nth r2 0))) (.ints .i64 (D.ints (D.cell 2 (nth r2 0))))), (.arr true (D.nil (D.cell 3 (nth r2 0))) (.ints .i64 (D.ints (D.cell 3 (nth r2 0))))), (.arr true (D.nil (D.cell 4 (nth r2 0))) (.ints .i64 (D.ints (D.cell 4 (nth r2 0))))), (.int .i64 (D.toInt (D.cell 5 (nth r2 0)))), (.int .i64 (D.toInt (D.cell 6 (nth r2 0)))), (.int .i64 (D.toInt (D.cell 7 (nth r2 0)))), (.int .i64 (D.toInt (D.cell 8 (nth r2 0)))), (.int .i64 (D.toInt (D.cell 9 (nth r2 0)))), (.int .i64 (D.toInt (D.cell 10 (nth r2 0)))), (.int .i64 (D.toInt (D.cell 11 (nth r2 0)))), (.int .i64 (D.toInt (D.cell (12 : Nat) (nth r2 0)))), (.int .i64 (D.toInt (D.cell (13 : Nat) (nth r2 0)))), (.int .i64 (D.toInt (D.cell (14 : Nat) (nth r2 0)))), (.int .i64 (D.toInt (D.cell (15 : Nat) (nth r2 0)))), (.int .i64 (D.toInt (D.cell (16 : Nat) (nth r2 0)))), (.int .i64 (D.toInt (D.cell (17 : Nat) (nth r2 0)))), (.int .i64 (D.toInt (D.cell (18 : Nat) (nth r2 0)))), (.int .i64 (D.toInt (D.cell (19 : Nat) (nth r2 0)))), (.int .i64 (D.toInt (D.cell (20 : Nat) (nth r2 0))))]), (.arr true (D.nil (nth r3 0)) (.r4 (D.r4 (nth r3 0))))]))
 ((go k spec_l07State [(.ptr true [(.arr false z2 (.ints IntKind.u8 l3)), (.int .i64 (0 : Int)), (.int .i64 x0)])]).bind fun r4 =>
 (go k spec_l18Plan [(.ptr true [(.arr false z2 (.ints IntKind.u8 l3)), (.int .i64 (D.toInt (D.cell 1 (nth r4 1)))), (.int .i64 (D.toInt (D.cell 2 (nth r4 1))))])]).bind fun r5 =>
 (go k spec_WorldNew [(.agg [(.int .i64 (D.toInt (D.cell 0 (nth r4 0)))), (.arr false (D.nil (D.cell 1 (nth r4 0))) (.r3 (D.r3 (D.cell 1 (nth r4 0))))), (.arr false (D.nil (D.cell 2 (nth r4 0))) (.ints .i64 (D.ints (D.cell 2 (nth r4 0))))), (.arr false (D.nil (D.cell 3 (nth r4 0))) (.ints .i64 (D.ints (D.cell 3 (nth r4 0))))), (.arr false (D.nil (D.cell 4 (nth r4 0))) (.ints .i64 (D.ints (D.cell 4 (nth r4 0)))))]), (.agg [(.int .i64 (D.toInt (D.cell 0 (nth r5 0)))), (.int .i64 (D.toInt (D.cell 1 (nth r5 0)))), (.int .i64 (D.toInt (D.cell 2 (nth r5 0)))), (.int .i64 (D.toInt (D.cell 3 (nth r5 0)))), (.int .i64 (D.toInt (D.cell 4 (nth r5 0)))), (.int .i64 (D.toInt (D.cell 5 (nth r5 0)))), (.int .i64 (D.toInt (D.cell 6 (nth r5 0)))), (.int .i64 (D.toInt (D.cell 7 (nth r5 0)))), (.int .i64 (D.toInt (D.cell 8 (nth r5 0))))])]).bind fun r6 =>
 (go k spec_l37Acts [(.ptr true [(.arr false z2 (.ints IntKind.u8 l3)), (.int .i64 (D.toInt (D.cell 1 (nth r5 1)))), (.int .i64 (D.toInt (D.cell 2 (nth r5 1))))])]).bind fun r7 =>
 some [(.agg [(.int .i64 (D.toInt (D.cell 0 (nth r6 0)))), (.arr true (D.nil (D.cell 1 (nth r6 0))) (.r3 (D.r3 (D.cell 1 (nth r6 0))))), (.arr true (D.nil (D.cell 2 (nth r6 0))) (.ints .i64 (D.ints (D.cell 2 (nth r6 0))))), (.arr true (D.nil (D.cell 3 (nth r6 0))) (.ints .i64 (D.ints (D.cell 3 (nth r6 0))))), (.arr true (D.nil (D.cell 4 (nth r6 0))) (.ints .i64 (D.ints (D.cell 4 (nth r6 0))))), (.int .i64 (D.toInt (D.cell 5 (nth r6 0)))), (.int .i64 (D.toInt (D.cell 6 (nth r6 0)))), (.int .i64 (D.toInt (D.cell 7 (nth r6 0)))), (.int .i64 (D.toInt (D.cell 8 (nth r6 0)))), (.int .i64 (D.toInt (D.cell 9 (nth r6 0)))), (.int .i64 (D.toInt (D.cell 10 (nth r6 0)))), (.int .i64 (D.toInt (D.cell 11 (nth r6 0)))), (.int .i64 (D.toInt (D.cell (12 : Nat) (nth r6 0)))), (.int .i64 (D.toInt (D.cell (13 : Nat) (nth r6 0)))), (.int .i64 (D.toInt (D.cell (14 : Nat) (nth r6 0)))), (.int .i64 (D.toInt (D.cell (15 : Nat) (nth r6 0)))), (.int .i64 (D.toInt (D.cell (16 : Nat) (nth r6 0)))), (.int .i64 (D.toInt (D.cell (17 : Nat) (nth r6 0)))), (.int .i64 (D.toInt (D.cell (18 : Nat) (nth r6 0)))), (.int .i64 (D.toInt (D.cell (19 : Nat) (nth r6 0)))), (.int .i64 (D.toInt (D.cell (20 : Nat) (nth r6 0))))]), (.arr true (D.nil (nth r7 0)) (.r4 (D.r4 (nth r7 0))))]) := by kernel_rfl

end Go.Proofs.YtoldpdhhfmlckaaGreat
end
section
namespace Go.Proofs.YtoldpdhhfmlckaaGreat
open Go.Ev
set_option maxRecDepth 20000
theorem Good.next {w : Wd} {K : Nat} (G : Good w K) : Good w.next (K + 1) := by
  have h := qs9 (s := w.s) G.F (qun G.p) w.k
  have a := G.k; have l := G.L; have q := h.2
  have l1 := l.mi; have l2 := l.mo; have l3 := l.ti; have l4 := l.ou
  have q1 := q.mi; have q2 := q.mo; have q3 := q.ti; have q4 := q.ou
  have qm := q.m; have qt := q.t; have ef := G.f; have eg := G.g
  refine ⟨h.1, G.p, ?_, ⟨?_, ?_, ?_, ?_⟩, ?_, ?_⟩
  · show 0 ≤ w.k + 1 ∧ w.k + 1 ≤ _; omega
  · show 0 ≤ w.ld.mi + _ ∧ w.ld.mi + _ ≤ _; omega
  · show 0 ≤ w.ld.mo + _ ∧ w.ld.mo + _ ≤ _; omega
  · show 0 ≤ w.ld.ti + _ ∧ w.ld.ti + _ ≤ _; omega
  · show 0 ≤ w.ld.ou + _ ∧ w.ld.ou + _ ≤ _; omega
  · show isum (mac w.p w.b w.k w.s).1.2.1 - (w.ld.mi + (mac w.p w.b w.k w.s).2.mi) + (w.ld.mo + (mac w.p w.b w.k w.s).2.mo) = w.f
    omega
  · show isum (mac w.p w.b w.k w.s).1.2.2 - (w.ld.ti + (mac w.p w.b w.k w.s).2.ti) + (w.ld.ou + (mac w.p w.b w.k w.s).2.ou) = w.g
    omega
theorem qax : ∀ (n : Nat) (w : Wd) (K : Nat), Good w K → Good (advN n w) (K + n)
  | 0, w, K, G => G
  | n + 1, w, K, G => by have := qax n w.next (K + 1) G.next; rw [show K + 1 + n = K + (n + 1) by omega] at this; exact this
theorem Good.adv {w : Wd} {K : Nat} (G : Good w K) (n : Nat) (i : Int) (h : i ≤ n) : Good (adv w i) (K + n) := by
  unfold Go.Proofs.YtoldpdhhfmlckaaGreat.adv
  cases g : qaz w i
  · exact G.mono (by omega)
  · exact (qax i.toNat w K G).mono (by omega)
theorem Good.drp1 {w : Wd} {K : Nat} (G : Good w K) {p m h : Int} (g : qh4 w p m h = true) : Good (drp1 w p m h) (K + 1) := by
  unfold qh4 qh1 at g
  simp only [Bool.and_eq_true, decide_eq_true_eq, qn9] at g
  obtain ⟨g1, g2, g3, g4, g5⟩ := g
  have F := G.F
  have lf := qqq w.r w.s.1 p
  obtain ⟨i, hi⟩ : ∃ i : Nat, qqp w.r w.s.1 p = (i : Int) := ⟨(qqp w.r w.s.1 p).toNat, by omega⟩
  have fl := F.len; have ml := F.ml; have tl := F.tl
  have mm := qty g2.1 g2.2 g3.1 g3.2
  have mh := qoa (a := m) (c := h) (by omega) g3
  have im : i < w.s.2.1.length := by omega
  have it : i < w.s.2.2.length := by omega
  have fi := F.at i
  have e1 : isum (w.s.2.1.set i (w.s.2.1.getD i 0 + m)) = isum w.s.2.1 + m := by rw [qoj _ _ _ im]; omega
  have e2 : isum (w.s.2.2.set i (w.s.2.2.getD i 0 + m * h)) = isum w.s.2.2 + m * h := by rw [qoj _ _ _ it]; omega
  have a := G.k; have b1 := G.L.mi; have b2 := G.L.mo; have b3 := G.L.ti; have b4 := G.L.ou
  have ef := G.f; have eg := G.g
  unfold Go.Proofs.YtoldpdhhfmlckaaGreat.drp1
  rw [hi, Int.toNat_natCast]
  refine ⟨F.mk' (by rw [List.length_set]; exact ml) (by rw [List.length_set]; exact tl) ?_ ?_, G.p, by show 0 ≤ w.k ∧ w.k ≤ _; omega, ⟨?_, ?_, ?_, ?_⟩, ?_, ?_⟩
  · intro j hj
    have fj := F.at j
    show 0 ≤ (w.s.2.1.set i (w.s.2.1.getD i 0 + m)).getD j 0 ∧ 0 ≤ (w.s.2.2.set i (w.s.2.2.getD i 0 + m * h)).getD j 0 ∧ (w.s.2.2.set i (w.s.2.2.getD i 0 + m * h)).getD j 0 ≤ 1000 * (w.s.2.1.set i (w.s.2.1.getD i 0 + m)).getD j 0
    rw [qx4 im, qx4 it]
    by_cases q : i = j
    · rw [if_pos q, if_pos q]; omega
    · rw [if_neg q, if_neg q]; omega
  · show isum (w.s.2.1.set i (w.s.2.1.getD i 0 + m)) ≤ 10000000; omega
  · show 0 ≤ w.ld.mi + m ∧ w.ld.mi + m ≤ _; omega
  · show 0 ≤ w.ld.mo ∧ w.ld.mo ≤ _; omega
  · show 0 ≤ w.ld.ti + m * h ∧ w.ld.ti + m * h ≤ _; omega
  · show 0 ≤ w.ld.ou ∧ w.ld.ou ≤ _; omega
  · show isum (w.s.2.1.set i (w.s.2.1.getD i 0 + m)) - (w.ld.mi + m) + w.ld.mo = w.f; omega
  · show isum (w.s.2.2.set i (w.s.2.2.getD i 0 + m * h)) - (w.ld.ti + m * h) + w.ld.ou = w.g; omega
theorem Good.drp {w : Wd} {K : Nat} (G : Good w K) (p m h : Int) : Good (drp w p m h) (K + 1) := by
  unfold Go.Proofs.YtoldpdhhfmlckaaGreat.drp
  cases g : qh4 w p m h
  · exact G.mono (by omega)
  · exact G.drp1 g
def Act1 (x : Int × Int × Int × Int) : Prop := qas x.1 x.2.1 x.2.2.1 x.2.2.2 = true
structure Fit (w : Wd) (M : Int) : Prop where
  m : isum w.s.2.1 ≤ M
  bi : w.p.bi ≤ 3000
  rain : w.p.rain ≤ 900
theorem quj {a : Int} (ha : 0 ≤ a ∧ a ≤ 900) (l : List Cell) : ∀ n : Nat, qy4 (part a l) n ≤ 900 * n
  | 0 => by simp [qy4]
  | n + 1 => by
    have := quj ha l n
    have h := quk (a := a) (by omega) l n
    simp only [qy4]
    omega
theorem qnr {p : Pl} (P : PlF p) (h1 : p.bi ≤ 3000) (h2 : p.rain ≤ 900) (l : List Cell) (b : List Int) (s : S2) : (flow p l b s).2.mi ≤ 3000 + 900 * l.length := by
  have e1 : (boS p.bi p.bs p.bo s).2.mi ≤ 3000 := by
    have := P.bi
    unfold boS
    split
    · exact h1
    · show (0 : Int) ≤ 3000; decide
  have e2 : ∀ x : S2, (raS p.rain l x).2.mi ≤ 900 * l.length := fun x => by
    unfold raS
    split
    · exact quj ⟨P.rain.1, h2⟩ l l.length
    · show (0 : Int) ≤ _; omega
  have e2' := e2 (boS p.bi p.bs p.bo s).1
  show (boS p.bi p.bs p.bo s).2.mi + (raS p.rain l (boS p.bi p.bs p.bo s).1).2.mi + 0 + 0 ≤ _
  omega
theorem qta {p : Pl} (P : PlF p) (h1 : p.bi ≤ 3000) (h2 : p.rain ≤ 900) (b : List Int) (k : Int) (s : S3) : (mac p b k s).2.mi ≤ 3000 + 900 * s.1.length := qnr P h1 h2 s.1 b s.2
theorem Fit.next {w : Wd} {K : Nat} {M : Int} (G : Good w K) (T : Fit w M) : Fit w.next (M + 118200) := by
  have h := (qs9 (s := w.s) G.F (qun G.p) w.k).2
  have a := qta (qun G.p) T.bi T.rain w.b w.k w.s
  have l := G.F.len; have m := T.m
  have q1 := h.m; have q2 := h.mo
  exact ⟨by show isum (mac w.p w.b w.k w.s).1.2.1 ≤ _; omega, T.bi, T.rain⟩
end Go.Proofs.YtoldpdhhfmlckaaGreat
end
section
namespace Go.Proofs.YtoldpdhhfmlckaaGreat
open Go.Ev
set_option maxRecDepth 20000
def nwW (r : Int) (l : List Cell) (m t b : List Int) (p : Pl) : Wd := ⟨r, (l, m, t), b, p, 0, ⟨0, 0, 0, 0⟩, isum m, isum t⟩
theorem z0' : (0 : Int) ≤ 0 ∧ (0 : Int) ≤ 40000000000 * ((0 : Nat) : Int) := by decide
theorem qt4 {r : Int} {l : List Cell} {m t b : List Int} (F : StF r l m t b) {p : Pl} (P : PlD p) : Good (nwW r l m t b p) 0 :=
  ⟨F, P.ok, z0, ⟨z0', z0', z0', z0'⟩, by show isum m - 0 + 0 = isum m; omega, by show isum t - 0 + 0 = isum t; omega⟩
theorem qfc (k : Nat) (hk : 2000000 ≤ k) (r : Int) (l : List Cell) (m t b : List Int) (F : StF r l m t b) (p : Pl) (P : PlD p) :
    go (k + 8) spec_WorldNew [.agg [.int .i64 (r), .arr false (false) (.r3 (l)), .arr false (false) (.ints .i64 (m)), .arr false (false) (.ints .i64 (t)), .arr false (false) (.ints .i64 (b))], plD p] = some [wdO (nwW r l m t b p), .bool true] := by
  have := F.len; have := F.bl; have := F.rr
  have e := qfb k hk r l m t b p.bi p.bs p.bo p.rain p.loss p.dec p.high p.low p.every (by omega) (by omega)
  rw [stF.2 F, P.ok] at e
  exact e
set_option maxHeartbeats 1000000 in
theorem qgi (k : Nat) (hk : 2000000 ≤ k) (z : Bool) (l : List Int) (i h : Int) (hl : (l.length : Int) ≤ 1048576) (h0 : 0 ≤ i) (h1 : i ≤ l.length) :
    ∃ (a b c d i' h' : Int), go (k + 3) spec_l37Act [.ptr true [.arr false (z) (.ints .u8 (l)), .int .i64 (i), .int .i64 (h)]] = some [.agg [.int .i64 a, .int .i64 b, .int .i64 c, .int .i64 d], .ptr true [.arr false (z) (.ints .u8 (l)), .int .i64 (i'), .int .i64 (h')]] ∧ (0 ≤ i' ∧ i' ≤ l.length) ∧ Act1 (a, b, c, d) := by
  have e := qm9 (k + 2) z l i h
  obtain ⟨u1, i1, k1, e1, b1, q1, r1⟩ := qfh k (by omega) z l i h 8 hl h0 h1 (by omega) (by omega)
  have D := fun (i : Int) (h : Int) (B : Int) (p : 0 ≤ i) (q : i ≤ l.length) (p1 : 1 ≤ B) (p2 : B ≤ 5000) => qfh k (by omega) z l i h B hl p q (by omega) (by omega)
  by_cases g0 : u1 = 0
  · obtain ⟨u2, i2, k2, e2, b2, q2, r2⟩ := D i1 k1 900 q1 r1 (by omega) (by omega)
    simp (disch := omega) only [e1, g0, qa9, nth0, qzu, dTT, nth1, qut, quu, e2, dF, qhj, qhl] at e
    exact ⟨_, _, _, _, _, _, e, ⟨q2, r2⟩, by show qas _ _ _ _ = true; simp [qas, sgl, qbf, qn9]; omega⟩
  by_cases g1 : u1 = 1
  · obtain ⟨u2, i2, k2, e2, b2, q2, r2⟩ := D i1 k1 900 q1 r1 (by omega) (by omega)
    simp (disch := omega) only [e1, g1, qa9, nth0, qzu, dF, nth1, qut, quu, e2, dTT, qhj, qhl] at e
    exact ⟨_, _, _, _, _, _, e, ⟨q2, r2⟩, by show qas _ _ _ _ = true; simp [qas, sgl, qbf, qn9]; omega⟩
  by_cases g2 : u1 = 2
  · obtain ⟨u2, i2, k2, e2, b2, q2, r2⟩ := D i1 k1 3000 q1 r1 (by omega) (by omega)
    obtain ⟨u3, i3, k3, e3, b3, q3, r3⟩ := D i2 k2 1001 q2 r2 (by omega) (by omega)
    obtain ⟨u4, i4, k4, e4, b4, q4, r4⟩ := D i3 k3 251 q3 r3 (by omega) (by omega)
    simp (disch := omega) only [e1, g2, qa9, nth0, qzu, dF, nth1, qut, quu, dTT, e2, e3, e4, q0l, qhj, qhl] at e
    exact ⟨_, _, _, _, _, _, e, ⟨q4, r4⟩, by show qas _ _ _ _ = true; simp [qas, sgl, qbf, qn9]; omega⟩
  by_cases g3 : u1 = 3
  · obtain ⟨u2, i2, k2, e2, b2, q2, r2⟩ := D i1 k1 300 q1 r1 (by omega) (by omega)
    simp (disch := omega) only [e1, g3, qa9, nth0, qzu, dF, nth1, qut, quu, dTT, e2, qhj, qhl] at e
    exact ⟨_, _, _, _, _, _, e, ⟨q2, r2⟩, by show qas _ _ _ _ = true; simp [qas, sgl, qbf, qn9]; omega⟩
  by_cases g4 : u1 = 4
  · obtain ⟨u2, i2, k2, e2, b2, q2, r2⟩ := D i1 k1 3000 q1 r1 (by omega) (by omega)
    obtain ⟨u3, i3, k3, e3, b3, q3, r3⟩ := D i2 k2 400 q2 r2 (by omega) (by omega)
    obtain ⟨u4, i4, k4, e4, b4, q4, r4⟩ := D i3 k3 3 q3 r3 (by omega) (by omega)
    simp (disch := omega) only [e1, g4, qa9, nth0, qzu, dF, nth1, qut, quu, e2, dTT, e3, q0l, e4, qhj, qhl] at e
    exact ⟨_, _, _, _, _, _, e, ⟨q4, r4⟩, by show qas _ _ _ _ = true; simp [qas, sgl, qbf, qn9]; omega⟩
  by_cases g5 : u1 = 5
  · obtain ⟨u2, i2, k2, e2, b2, q2, r2⟩ := D i1 k1 40 q1 r1 (by omega) (by omega)
    obtain ⟨u3, i3, k3, e3, b3, q3, r3⟩ := D i2 k2 5000 q2 r2 (by omega) (by omega)
    obtain ⟨u4, i4, k4, e4, b4, q4, r4⟩ := D i3 k3 1001 q3 r3 (by omega) (by omega)
    simp (disch := omega) only [e1, g5, qa9, nth0, qzu, dF, nth1, qut, quu, dTT, e2, e3, e4, q0l, qhl, qhj] at e
    exact ⟨_, _, _, _, _, _, e, ⟨q4, r4⟩, by show qas _ _ _ _ = true; simp [qas, sgl, qbf, qn9]; omega⟩
  · obtain ⟨u2, i2, k2, e2, b2, q2, r2⟩ := D i1 k1 3 q1 r1 (by omega) (by omega)
    simp (disch := omega) only [e1, qa9, nth0, qzu, dF, nth1, qut, quu, e2, q0l, qhj] at e
    exact ⟨_, _, _, _, _, _, e, ⟨q2, r2⟩, by show qas _ _ _ _ = true; simp [qas, sgl, qbf, qn9]; omega⟩
theorem qs1 (k : Nat) (hk : 2000000 ≤ k) (fu : List (Nat × Nat)) (v0 : Bool) (v1 : List Int) (v2 v3 : Int) (z : Bool) (l : List Int) (hl : (l.length : Int) ≤ 1048576) :
    ∀ (n i : Nat) (j h : Int) (A : Acts), i ≤ 6 → 6 - i < n → 0 ≤ j → j ≤ l.length → A.length = i → (∀ x ∈ A, Act1 x) →
    ∃ (A' : Acts) (j' h' : Int), lp (k + 3) spec_l37Acts [(.ptr true [(.arr false (v0) (.ints IntKind.u8 (v1))), (.int .i64 (v2)), (.int .i64 (v3))])] fu 3 (n) (qxy (i : Int) z l j h false A) = some [.arr true false (.r4 A'), .ptr true [.arr false (z) (.ints .u8 (l)), .int .i64 (j'), .int .i64 (h')]] ∧ A'.length ≤ 6 ∧ (∀ x ∈ A', Act1 x)
  | 0, i, j, h, A, hi, hn, h0, h1, hA, ok => by omega
  | n + 1, i, j, h, A, hi, hn, h0, h1, hA, ok => by
    have e := qqo (k + 3) n fu v0 v1 v2 v3 (i : Int) z l j h false A
    obtain ⟨u1, i1, k1, e1, b1, q1, r1⟩ := qfh (k + 1) (by omega) z l j h 7 hl h0 h1 (by omega) (by omega)
    by_cases g : (i : Int) < u1
    · obtain ⟨a, b, c, d, i2, k2, e2, q2, o2⟩ := qgi k (by omega) z l i1 k1 hl q1 r1
      have la : (A ++ [(a, b, c, d)]).length = i + 1 := by rw [List.length_append, hA]; rfl
      obtain ⟨A', j', h', e5, p5⟩ := qs1 k hk fu v0 v1 v2 v3 z l hl n (i + 1) i2 k2 (A ++ [(a, b, c, d)]) (by omega) (by omega) q2.1 q2.2 la (fun x hx => by
        rcases List.mem_append.1 hx with hx | hx
        · exact ok x hx
        · rw [List.mem_singleton] at hx; rw [hx]; exact o2)
      simp (disch := omega) only [e1, big0, qgp, q0l, Bool.false_and, qa9, nth0, qzu, dT, nth1, qut, quu, e2, qgr, qgs, qg3, qg5, la, e5, qhl] at e
      exact ⟨A', j', h', e, p5⟩
    · simp (disch := omega) only [e1, big0, qgp, q0l, Bool.false_and, qa9, nth0, qzu, dF, nth1, qut, quu, qhj] at e
      exact ⟨A, _, _, e, by omega, ok⟩
theorem qgj (k : Nat) (hk : 2000000 ≤ k) (z : Bool) (l : List Int) (i h : Int) (hl : (l.length : Int) ≤ 1048576) (h0 : 0 ≤ i) (h1 : i ≤ l.length) :
    ∃ (A : Acts) (i' h' : Int), go (k + 4) spec_l37Acts [.ptr true [.arr false (z) (.ints .u8 (l)), .int .i64 (i), .int .i64 (h)]] = some [.arr true false (.r4 A), .ptr true [.arr false (z) (.ints .u8 (l)), .int .i64 (i'), .int .i64 (h')]] ∧ A.length ≤ 6 ∧ (∀ x ∈ A, Act1 x) := by
  have e := qna (k + 3) z l i h
  obtain ⟨A, j', h', e5, p5⟩ := qs1 k hk [] z l i h z l hl (k + 3) 0 i h [] (by omega) (by omega) h0 h1 rfl (fun x hx => by cases hx)
  rw [show ((0 : Nat) : Int) = 0 from rfl] at e5
  exact ⟨A, j', h', e.trans e5, p5⟩
theorem qsb (k : Nat) (hk : 2000000 ≤ k) (fu : List (Nat × Nat)) (z : Bool) (l : List Int) (hl : (l.length : Int) ≤ 1048576) (z4 : Bool) (l5 : List Cell) (z6 : Bool) (l7 : List Int) (z8 : Bool) (l9 : List Int) (z10 : Bool) (l11 : List Int) (x12 x13 x14 x15 x16 x17 x18 x19 x20 x21 x22 x23 x24 x25 x26 x27 x28 : Int) (z29 : Bool) (l30 : Acts) :
    ∀ (n t : Nat) (h : Int), t ≤ l.length → l.length - t < n →
    ∃ (w : Wd) (A : Acts), lp (k + 11) spec_DrawActs [] fu 7800003 (n) (qw1 h (t : Int) z l z4 l5 z6 l7 z8 l9 z10 l11 x12 x13 x14 x15 x16 x17 x18 x19 x20 x21 x22 x23 x24 x25 x26 x27 x28 z29 l30) = some [wdO w, .arr true false (.r4 A)] ∧ Good w 0 ∧ A.length ≤ 6 ∧ (∀ x ∈ A, Act1 x)
  | 0, t, h, ht, hn => by omega
  | n + 1, t, h, ht, hn => by
    have e := qpr (k + 11) n fu h (t : Int) z l z4 l5 z6 l7 z8 l9 z10 l11 x12 x13 x14 x15 x16 x17 x18 x19 x20 x21 x22 x23 x24 x25 x26 x27 x28 z29 l30
    obtain ⟨r, c, m, tr, b, i1, k1, e1, q1, F, r3, sm⟩ := qfx k (by omega) z l 0 h hl (by omega) (by omega)
    obtain ⟨p, i2, k2, e2, q2, P⟩ := qgc (k + 7) (by omega) z l i1 k1 hl q1.1 q1.2
    have eN := qfc (k + 3) (by omega) r c m tr b F p P
    obtain ⟨A, i4, k4, e4, p4⟩ := qgj (k + 7) (by omega) z l i2 k2 hl q2.1 q2.2
    by_cases g : t < l.length
    · by_cases g2 : (t : Int) < 4000
      · simp (disch := omega) only [nI, dT, Bool.and_true, Int.toNat_natCast, qgp, q0l, qhl] at e
        obtain ⟨w, A, e3, p3⟩ := qsb k hk fu z l hl z4 l5 z6 l7 z8 l9 z10 l11 x12 x13 x14 x15 x16 x17 x18 x19 x20 x21 x22 x23 x24 x25 x26 x27 x28 z29 l30 n (t + 1) _ (by omega) (by omega)
        exact ⟨w, A, e.trans e3, p3⟩
      · simp (disch := omega) only [nI, dT, dF, Bool.and_true, Int.toNat_natCast, qgp, q0l, qhl, e1, qa9, nth1, qut, qzu, quu, e2, nth0, qgr, qgs, qt3, quv, qg3, qob, qg5, qg6, qg7, qg8, qg9, qha, eN, e4, quw, qhb, qgt, qgu, qgv, qgw, qgx, qgy, qgz, qg0, qg1, qg2, qg4, qhj] at e
        exact ⟨nwW r c m tr b p, A, e, qt4 F P, p4⟩
    · simp (disch := omega) only [nI, dF, dT, Bool.and_false, Int.toNat_natCast, qgp, q0l, qhj, e1, qa9, nth1, qut, qzu, quu, e2, nth0, qgr, qgs, qt3, quv, qg3, qob, qg5, qg6, qg7, qg8, qg9, qha, eN, e4, quw, qhb, qgt, qgu, qgv, qgw, qgx, qgy, qgz, qg0, qg1, qg2, qg4] at e
      exact ⟨nwW r c m tr b p, A, e, qt4 F P, p4⟩
theorem qeh (k : Nat) (hk : 2000000 ≤ k) (z : Bool) (l : List Int) (hl : (l.length : Int) ≤ 1048576) :
    ∃ (w : Wd) (A : Acts), go (k + 12) spec_DrawActs [.arr false z (.ints .u8 l)] = some [wdO w, .arr true false (.r4 A)] ∧ Good w 0 ∧ A.length ≤ 6 ∧ (∀ x ∈ A, Act1 x) := by
  have e := qk8 (k + 11) z l
  obtain ⟨w, A, e3, p3⟩ := qsb k hk [] z l hl true [] true [] true [] true [] 0 0 0 0 0 0 0 0 0 0 0 0 0 0 0 0 0 true [] (k + 11) 0 (IntKind.wrap .i64 (98231 + nI l.length)) (by omega) (by omega)
  rw [show ((0 : Nat) : Int) = 0 from rfl] at e3
  exact ⟨w, A, e.trans e3, p3⟩
end Go.Proofs.YtoldpdhhfmlckaaGreat
end
section
namespace Go.Proofs.YtoldpdhhfmlckaaGreat
open Go.Ev
theorem qkp (k : Nat) (az : Bool) (a : List Int) : go (k + 1) laws_FnSame [(.arr false az (.ints IntKind.u8 a))] =
 (go k laws_big [(.arr false az (.ints IntKind.u8 a))]).bind fun r0 =>
 cond (bit (nth r0 0))
 (some [(.bool true)])
 ((go k spec_DrawActs [(.arr false az (.ints IntKind.u8 a))]).bind fun r1 =>
 (go k spec_RunActs [(.agg [(.int .i64 (D.toInt (D.cell 0 (nth r1 0)))), (.arr false (D.nil (D.cell 1 (nth r1 0))) (.r3 (D.r3 (D.cell 1 (nth r1 0))))), (.arr false (D.nil (D.cell 2 (nth r1 0))) (.ints .i64 (D.ints (D.cell 2 (nth r1 0))))), (.arr false (D.nil (D.cell 3 (nth r1 0))) (.ints .i64 (D.ints (D.cell 3 (nth r1 0))))), (.arr false (D.nil (D.cell 4 (nth r1 0))) (.ints .i64 (D.ints (D.cell 4 (nth r1 0))))), (.int .i64 (D.toInt (D.cell 5 (nth r1 0)))), (.int .i64 (D.toInt (D.cell 6 (nth r1 0)))), (.int .i64 (D.toInt (D.cell 7 (nth r1 0)))), (.int .i64 (D.toInt (D.cell 8 (nth r1 0)))), (.int .i64 (D.toInt (D.cell 9 (nth r1 0)))), (.int .i64 (D.toInt (D.cell 10 (nth r1 0)))), (.int .i64 (D.toInt (D.cell 11 (nth r1 0)))), (.int .i64 (D.toInt (D.cell (12 : Nat) (nth r1 0)))), (.int .i64 (D.toInt (D.cell (13 : Nat) (nth r1 0)))), (.int .i64 (D.toInt (D.cell (14 : Nat) (nth r1 0)))), (.int .i64 (D.toInt (D.cell (15 : Nat) (nth r1 0)))), (.int .i64 (D.toInt (D.cell (16 : Nat) (nth r1 0)))), (.int .i64 (D.toInt (D.cell (17 : Nat) (nth r1 0)))), (.int .i64 (D.toInt (D.cell (18 : Nat) (nth r1 0)))), (.int .i64 (D.toInt (D.cell (19 : Nat) (nth r1 0)))), (.int .i64 (D.toInt (D.cell (20 : Nat) (nth r1 0))))]), (.arr false (D.nil (nth r1 1)) (.r4 (D.r4 (nth r1 1))))]).bind fun r2 =>
 (go k impl_SameWorld [(.agg [(.int .i64 (D.toInt (D.cell 0 (nth r1 0)))), (.arr false (D.nil (D.cell 1 (nth r1 0))) (.r3 (D.r3 (D.cell 1 (nth r1 0))))), (.arr false (D.nil (D.cell 2 (nth r1 0))) (.ints .i64 (D.ints (D.cell 2 (nth r1 0))))), (.arr false (D.nil (D.cell 3 (nth r1 0))) (.ints .i64 (D.ints (D.cell 3 (nth r1 0))))), (.arr false (D.nil (D.cell 4 (nth r1 0))) (.ints .i64 (D.ints (D.cell 4 (nth r1 0))))), (.int .i64 (D.toInt (D.cell 5 (nth r1 0)))), (.int .i64 (D.toInt (D.cell 6 (nth r1 0)))), (.int .i64 (D.toInt (D.cell 7 (nth r1 0)))), (.int .i64 (D.toInt (D.cell 8 (nth r1 0)))), (.int .i64 (D.toInt (D.cell 9 (nth r1 0)))), (.int .i64 (D.toInt (D.cell 10 (nth r1 0)))), (.int .i64 (D.toInt (D.cell 11 (nth r1 0)))), (.int .i64 (D.toInt (D.cell (12 : Nat) (nth r1 0)))), (.int .i64 (D.toInt (D.cell (13 : Nat) (nth r1 0)))), (.int .i64 (D.toInt (D.cell (14 : Nat) (nth r1 0)))), (.int .i64 (D.toInt (D.cell (15 : Nat) (nth r1 0)))), (.int .i64 (D.toInt (D.cell (16 : Nat) (nth r1 0)))), (.int .i64 (D.toInt (D.cell (17 : Nat) (nth r1 0)))), (.int .i64 (D.toInt (D.cell (18 : Nat) (nth r1 0)))), (.int .i64 (D.toInt (D.cell (19 : Nat) (nth r1 0)))), (.int .i64 (D.toInt (D.cell (20 : Nat) (nth r1 0))))]), (.agg [(.int .i64 (D.toInt (D.cell 0 (nth r1 0)))), (.arr false (D.nil (D.cell 1 (nth r1 0))) (.r3 (D.r3 (D.cell 1 (nth r1 0))))), (.arr false (D.nil (D.cell 2 (nth r1 0))) (.ints .i64 (D.ints (D.cell 2 (nth r1 0))))), (.arr false (D.nil (D.cell 3 (nth r1 0))) (.ints .i64 (D.ints (D.cell 3 (nth r1 0))))), (.arr false (D.nil (D.cell 4 (nth r1 0))) (.ints .i64 (D.ints (D.cell 4 (nth r1 0))))), (.int .i64 (D.toInt (D.cell 5 (nth r1 0)))), (.int .i64 (D.toInt (D.cell 6 (nth r1 0)))), (.int .i64 (D.toInt (D.cell 7 (nth r1 0)))), (.int .i64 (D.toInt (D.cell 8 (nth r1 0)))), (.int .i64 (D.toInt (D.cell 9 (nth r1 0)))), (.int .i64 (D.toInt (D.cell 10 (nth r1 0)))), (.int .i64 (D.toInt (D.cell 11 (nth r1 0)))), (.int .i64 (D.toInt (D.cell (12 : Nat) (nth r1 0)))), (.int .i64 (D.toInt (D.cell (13 : Nat) (nth r1 0)))), (.int .i64 (D.toInt (D.cell (14 : Nat) (nth r1 0)))), (.int .i64 (D.toInt (D.cell (15 : Nat) (nth r1 0)))), (.int .i64 (D.toInt (D.cell (16 : Nat) (nth r1 0)))), (.int .i64 (D.toInt (D.cell (17 : Nat) (nth r1 0)))), (.int .i64 (D.toInt (D.cell (18 : Nat) (nth r1 0)))), (.int .i64 (D.toInt (D.cell (19 : Nat) (nth r1 0)))), (.int .i64 (D.toInt (D.cell (20 : Nat) (nth r1 0))))])]).bind fun r3 =>
 cond (bit (nth r3 0))
 ((go k impl_SameWorld [(.agg [(.int .i64 (D.toInt (D.cell 0 (nth r1 0)))), (.arr false (D.nil (D.cell 1 (nth r1 0))) (.r3 (D.r3 (D.cell 1 (nth r1 0))))), (.arr false (D.nil (D.cell 2 (nth r1 0))) (.ints .i64 (D.ints (D.cell 2 (nth r1 0))))), (.arr false (D.nil (D.cell 3 (nth r1 0))) (.ints .i64 (D.ints (D.cell 3 (nth r1 0))))), (.arr false (D.nil (D.cell 4 (nth r1 0))) (.ints .i64 (D.ints (D.cell 4 (nth r1 0))))), (.int .i64 (D.toInt (D.cell 5 (nth r1 0)))), (.int .i64 (D.toInt (D.cell 6 (nth r1 0)))), (.int .i64 (D.toInt (D.cell 7 (nth r1 0)))), (.int .i64 (D.toInt (D.cell 8 (nth r1 0)))), (.int .i64 (D.toInt (D.cell 9 (nth r1 0)))), (.int .i64 (D.toInt (D.cell 10 (nth r1 0)))), (.int .i64 (D.toInt (D.cell 11 (nth r1 0)))), (.int .i64 (D.toInt (D.cell (12 : Nat) (nth r1 0)))), (.int .i64 (D.toInt (D.cell (13 : Nat) (nth r1 0)))), (.int .i64 (D.toInt (D.cell (14 : Nat) (nth r1 0)))), (.int .i64 (D.toInt (D.cell (15 : Nat) (nth r1 0)))), (.int .i64 (D.toInt (D.cell (16 : Nat) (nth r1 0)))), (.int .i64 (D.toInt (D.cell (17 : Nat) (nth r1 0)))), (.int .i64 (D.toInt (D.cell (18 : Nat) (nth r1 0)))), (.int .i64 (D.toInt (D.cell (19 : Nat) (nth r1 0)))), (.int .i64 (D.toInt (D.cell (20 : Nat) (nth r1 0))))]), (.agg [(.int .i64 (D.toInt (D.cell 0 (nth r1 0)))), (.arr false (D.nil (D.cell 1 (nth r1 0))) (.r3 (D.r3 (D.cell 1 (nth r1 0))))), (.arr false (D.nil (D.cell 2 (nth r1 0))) (.ints .i64 (D.ints (D.cell 2 (nth r1 0))))), (.arr false (D.nil (D.cell 3 (nth r1 0))) (.ints .i64 (D.ints (D.cell 3 (nth r1 0))))), (.arr false (D.nil (D.cell 4 (nth r1 0))) (.ints .i64 (D.ints (D.cell 4 (nth r1 0))))), (.int .i64 (D.toInt (D.cell 5 (nth r1 0)))), (.int .i64 (D.toInt (D.cell 6 (nth r1 0)))), (.int .i64 (D.toInt (D.cell 7 (nth r1 0)))), (.int .i64 (D.toInt (D.cell 8 (nth r1 0)))), (.int .i64 (D.toInt (D.cell 9 (nth r1 0)))), (.int .i64 (D.toInt (D.cell 10 (nth r1 0)))), (.int .i64 (D.toInt (D.cell 11 (nth r1 0)))), (.int .i64 (D.toInt (D.cell (12 : Nat) (nth r1 0)))), (.int .i64 (D.toInt (D.cell (13 : Nat) (nth r1 0)))), (.int .i64 (IntKind.wrap .i64 (D.toInt (D.cell (14 : Nat) (nth r1 0)) + (1 : Int)))), (.int .i64 (D.toInt (D.cell (15 : Nat) (nth r1 0)))), (.int .i64 (D.toInt (D.cell (16 : Nat) (nth r1 0)))), (.int .i64 (D.toInt (D.cell (17 : Nat) (nth r1 0)))), (.int .i64 (D.toInt (D.cell (18 : Nat) (nth r1 0)))), (.int .i64 (D.toInt (D.cell (19 : Nat) (nth r1 0)))), (.int .i64 (D.toInt (D.cell (20 : Nat) (nth r1 0))))])]).bind fun r4 =>
 cond (!bit (nth r4 0))
 ((go k impl_IsReplay [(.agg [(.int .i64 (D.toInt (D.cell 0 (nth r1 0)))), (.arr false (D.nil (D.cell 1 (nth r1 0))) (.r3 (D.r3 (D.cell 1 (nth r1 0))))), (.arr false (D.nil (D.cell 2 (nth r1 0))) (.ints .i64 (D.ints (D.cell 2 (nth r1 0))))), (.arr false (D.nil (D.cell 3 (nth r1 0))) (.ints .i64 (D.ints (D.cell 3 (nth r1 0))))), (.arr false (D.nil (D.cell 4 (nth r1 0))) (.ints .i64 (D.ints (D.cell 4 (nth r1 0))))), (.int .i64 (D.toInt (D.cell 5 (nth r1 0)))), (.int .i64 (D.toInt (D.cell 6 (nth r1 0)))), (.int .i64 (D.toInt (D.cell 7 (nth r1 0)))), (.int .i64 (D.toInt (D.cell 8 (nth r1 0)))), (.int .i64 (D.toInt (D.cell 9 (nth r1 0)))), (.int .i64 (D.toInt (D.cell 10 (nth r1 0)))), (.int .i64 (D.toInt (D.cell 11 (nth r1 0)))), (.int .i64 (D.toInt (D.cell (12 : Nat) (nth r1 0)))), (.int .i64 (D.toInt (D.cell (13 : Nat) (nth r1 0)))), (.int .i64 (D.toInt (D.cell (14 : Nat) (nth r1 0)))), (.int .i64 (D.toInt (D.cell (15 : Nat) (nth r1 0)))), (.int .i64 (D.toInt (D.cell (16 : Nat) (nth r1 0)))), (.int .i64 (D.toInt (D.cell (17 : Nat) (nth r1 0)))), (.int .i64 (D.toInt (D.cell (18 : Nat) (nth r1 0)))), (.int .i64 (D.toInt (D.cell (19 : Nat) (nth r1 0)))), (.int .i64 (D.toInt (D.cell (20 : Nat) (nth r1 0))))]), (.arr false (D.nil (nth r1 1)) (.r4 (D.r4 (nth r1 1)))), (.arr false (D.nil (nth r2 1)) (.ints .i64 (D.ints (nth r2 1))))]).bind fun r5 =>
 cond (bit (nth r5 0))
 (cond (decide (List.length ([] ++ D.ints (nth r2 1)) ≤ bigLen))
 (cond (decide (List.length ([] ++ D.ints (nth r2 1) ++ [(1 : Int)]) ≤ bigLen))
 ((go k impl_IsReplay [(.agg [(.int .i64 (D.toInt (D.cell 0 (nth r1 0)))), (.arr false (D.nil (D.cell 1 (nth r1 0))) (.r3 (D.r3 (D.cell 1 (nth r1 0))))), (.arr false (D.nil (D.cell 2 (nth r1 0))) (.ints .i64 (D.ints (D.cell 2 (nth r1 0))))), (.arr false (D.nil (D.cell 3 (nth r1 0))) (.ints .i64 (D.ints (D.cell 3 (nth r1 0))))), (.arr false (D.nil (D.cell 4 (nth r1 0))) (.ints .i64 (D.ints (D.cell 4 (nth r1 0))))), (.int .i64 (D.toInt (D.cell 5 (nth r1 0)))), (.int .i64 (D.toInt (D.cell 6 (nth r1 0)))), (.int .i64 (D.toInt (D.cell 7 (nth r1 0)))), (.int .i64 (D.toInt (D.cell 8 (nth r1 0)))), (.int .i64 (D.toInt (D.cell 9 (nth r1 0)))), (.int .i64 (D.toInt (D.cell 10 (nth r1 0)))), (.int .i64 (D.toInt (D.cell 11 (nth r1 0)))), (.int .i64 (D.toInt (D.cell (12 : Nat) (nth r1 0)))), (.int .i64 (D.toInt (D.cell (13 : Nat) (nth r1 0)))), (.int .i64 (D.toInt (D.cell (14 : Nat) (nth r1 0)))), (.int .i64 (D.toInt (D.cell (15 : Nat) (nth r1 0)))), (.int .i64 (D.toInt (D.cell (16 : Nat) (nth r1 0)))), (.int .i64 (D.toInt (D.cell (17 : Nat) (nth r1 0)))), (.int .i64 (D.toInt (D.cell (18 : Nat) (nth r1 0)))), (.int .i64 (D.toInt (D.cell (19 : Nat) (nth r1 0)))), (.int .i64 (D.toInt (D.cell (20 : Nat) (nth r1 0))))]), (.arr false (D.nil (nth r1 1)) (.r4 (D.r4 (nth r1 1)))), (.arr false (false && decide (List.length ([] ++ D.ints (nth r2 1)) = 0) && decide (List.length ([] ++ D.ints (nth r2 1) ++ [(1 : Int)]) = 0)) (.ints .i64 ([] ++ D.ints (nth r2 1) ++ [(1 : Int)])))]).bind fun r6 =>
 some [(.bool (!bit (nth r6 0)))])
 none)
 none)
 (some [(.bool false)]))
 (some [(.bool false)]))
 (some [(.bool false)])) := by kernel_rfl
end Go.Proofs.YtoldpdhhfmlckaaGreat
end
section
namespace Go.Proofs.YtoldpdhhfmlckaaGreat
open Go.Ev
set_option maxRecDepth 20000
def samD (a b : Wd) : Bool := qx3 a.r b.r a.s.1 b.s.1 a.s.2.1 a.s.2.2 a.b b.s.2.1 b.s.2.2 b.b && qx2 a.p.bi a.p.bs a.p.bo a.p.rain a.p.loss a.p.dec a.p.high a.p.low a.p.every a.k a.ld.mi a.ld.mo a.ld.ti a.ld.ou a.f a.g b.p.bi b.p.bs b.p.bo b.p.rain b.p.loss b.p.dec b.p.high b.p.low b.p.every b.k b.ld.mi b.ld.mo b.ld.ti b.ld.ou b.f b.g
theorem qcg (k : Nat) (hk : 2000000 ≤ k) (a b : Wd) (S : Sml a) : go (k + 4) impl_SameWorld [wdR a, wdR b] = some [.bool (samD a b)] :=
  qcf k hk _ _ _ _ _ _ _ _ _ _ _ _ _ _ _ _ _ _ _ _ _ _ _ _ _ _ _ _ _ _ _ _ _ _ _ _ _ _ _ _ _ _ _ _ _ _ _ _ _ _ S.h1 S.h2 S.h3 S.h4
theorem qxz (w : Wd) : samD w w = true := by simp [samD, qx3, qx1, qx2]
theorem qx0 (w : Wd) : samD w { w with k := w.k + 1 } = false := by
  unfold samD
  rw [Bool.and_eq_false_iff]
  right
  have h : ¬ (w.k = w.k + 1) := by omega
  simp [qx2, h]
theorem law_FnSame (k : Nat) (hk : 2000000 ≤ k) (az : Bool) (a : List Int) : go (k + 17) laws_FnSame [(.arr false (az) (.ints IntKind.u8 (a)))] = some [.bool true] := by
  by_cases h : 1048576 < (a.length : Int)
  · rw [qkp]; simp (disch := omega) only [qdz, dT, bit, qt2, big0, Bool.false_and, qa9, nth0, qzt, qhl]
  have h : (a.length : Int) ≤ 1048576 := by omega
  obtain ⟨w, A, eD, G, hA, oA⟩ := qeh (k + 4) (by omega) az a h
  have S := G.F.sml
  have wk := G.k
  have eR := qex (k + 5) (by omega) w false A S (by omega)
  have e1 := qcg (k + 12) (by omega) w w S
  rw [qxz] at e1
  have e2 := qcg (k + 12) (by omega) w { w with k := w.k + 1 } S
  rw [qx0] at e2
  have L := qvz w A
  obtain ⟨c, hc⟩ : ∃ c, c = (runW w A).2 := ⟨_, rfl⟩
  rw [← hc] at eR L
  have e3 := qb2 k (by omega) w false false A c S (by omega) (by omega)
  rw [show qvs w A c = true by unfold qvs; rw [G.ok (by omega), dT (by omega), hc, dT rfl]; rfl] at e3
  have e4 := qb2 k (by omega) w false false A (c ++ [1]) S (by omega) (by rw [List.length_append]; show (((c.length + 1 : Nat)) : Int) ≤ _; omega)
  rw [show qvs w A (c ++ [1]) = false by
    unfold qvs
    rw [← hc, dF (p := c = c ++ [1]) (fun e => by have := congrArg List.length e; rw [List.length_append] at this; simp at this), Bool.and_false, Bool.and_false]] at e4
  have la : (c ++ [(1 : Int)]).length = c.length + 1 := by rw [List.length_append]; rfl
  have dn : decide ((c ++ [(1 : Int)]).length = 0) = false := dF (by omega)
  rw [qkp]
  simp (disch := omega) only [qdz, dF, bit, eD, qt2, big0, Bool.false_and, qa9, nth0, qgr, qzu, qgs, qt3, quv, qg3, qob, qg5, qg6, qg7, qg8, qg9, qha, qhb, qgt, qgu, qgv, qgw, qgx, qgy, qgz, qg0, qg1, qg2, qg4, nth1, quw, eR, e1, q0l, e2, qzt, Bool.not_false, qhl, e3, dT, la, e4, qhj]
end Go.Proofs.YtoldpdhhfmlckaaGreat
end
