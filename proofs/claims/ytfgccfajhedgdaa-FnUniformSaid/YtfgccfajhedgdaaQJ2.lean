/- What the program's functions compute, and plain facts of it (part 2). No condition beyond those that each theorem states. -/
import Derived.Test.YtfgccfajhedgdaaQJ1
set_option linter.unusedVariables false
set_option linter.unusedSimpArgs false
section
namespace Go.Proofs.Ytfgccfajhedgdaa
open Go.Ev
set_option maxRecDepth 20000
theorem qa1 (k : Nat) (hk : 2000000 ≤ k) (a : Int) (h : 0 ≤ a) (h' : a ≤ 1000000000) : go (k + 1) impl_SplitEven [(.int .i64 (a))] = some [.int .i64 (hA a), .int .i64 (hB a)] := by
  rw [qdo]
  have e : Int.tdiv a 2 = a / 2 := Int.tdiv_eq_ediv_of_nonneg h
  rw [e]
  simp (disch := omega) only [dF, qmc, qct]
theorem qax (k : Nat) (hk : 2000000 ≤ k) (r : Int) (l : List Cell) (h : qh1 r 0 l = true) (i : Nat) (hi : i < l.length) (hv : qgp l i < 4) :
    go (k + 2) impl_Mesh_refine [.ptr true [.int .i64 r, .arr true false (.r3 l)], .int .i64 (i : Int)] = some [.ptr true [.int .i64 r, .arr true false (.r3 (qkx l i))]] := by
  rw [qdh]
  have L := qh6 h
  have id := qfm.1 ((qh5 _ _ _ h).2.2.2.1 _ hi).2.2
  have hp : pow2 (l.getD i zz3).2.1 ≤ 16 := by
    rcases lev (qfo.2 id.2.1) with e | e | e | e | e <;> rw [e] <;> decide
  have eR := qbp k false false l [ch0 (l.getD i zz3), ch1 (l.getD i zz3)] (i : Int) ((i + 1 : Nat) : Int) (by omega) (by omega) (by omega) (by simp) (by simp <;> omega) (by omega) (by simp)
  rw [Int.toNat_natCast, Int.toNat_natCast] at eR
  simp only [qgp] at hv
  simp (disch := omega) only [dT, nI, Bool.and_true, Int.toNat_natCast, qd0, qmc, Int.add_zero, qcf, qak, nth0, qch, qlk, qci, qcj, eR, qib, qi4, qcv]
  rw [List.append_assoc]; rfl
theorem qbh (k : Nat) (hk : 2000000 ≤ k) (r : Int) (s : S3) (b : List Int) (U : StU r s b) (i : Nat) (hi : i < s.1.length) (hv : qgp s.1 i < 4) :
    go (k + 3) impl_State_refine [.ptr true [.int .i64 (r), .arr true (false) (.r3 (s.1)), .arr true (false) (.ints .i64 (s.2.1)), .arr true (false) (.ints .i64 (s.2.2)), .arr true (false) (.ints .i64 (b))], .int .i64 (i : Int)] = some [.ptr true [.int .i64 (r), .arr true (false) (.r3 ((rfS s i).1)), .arr true (false) (.ints .i64 ((rfS s i).2.1)), .arr true (false) (.ints .i64 ((rfS s i).2.2)), .arr true (false) (.ints .i64 (b))]] := by
  obtain ⟨l, m, t⟩ := s
  simp only at hi hv ⊢
  rw [qdu]
  have L := U.len; have ml : m.length = l.length := U.ml; have tl : t.length = l.length := U.tl; have bl := U.bl; have rr := U.rr
  have a : 0 ≤ m.getD i 0 ∧ m.getD i 0 ≤ 10000000 ∧ 0 ≤ t.getD i 0 ∧ t.getD i 0 ≤ 1000 * m.getD i 0 := U.at i
  simp only at L
  have q := hAB a.1
  have sh := qkv ⟨a.1, a.2.1⟩ ⟨a.2.2.1, a.2.2.2⟩
  simp only [shr] at sh
  have eM := qax k (by omega) r l U.mesh i hi hv
  have e1 := qbq (k + 1) false false m [hA (m.getD i 0), hB (m.getD i 0)] (i : Int) ((i + 1 : Nat) : Int) (by omega) (by omega) (by omega) (by simp) (by simp <;> omega) (by omega) (by simp)
  have e2 := qbq (k + 1) false false t [qkr (t.getD i 0) (hA (m.getD i 0)) (m.getD i 0), t.getD i 0 - qkr (t.getD i 0) (hA (m.getD i 0)) (m.getD i 0)] (i : Int) ((i + 1 : Nat) : Int) (by omega) (by omega) (by omega) (by simp) (by simp <;> omega) (by omega) (by simp)
  rw [Int.toNat_natCast, Int.toNat_natCast] at e1 e2
  simp (disch := omega) only [dT, nI, Bool.and_true, Int.toNat_natCast, qa1, qa0, eM, qcf, qmc, qcv, qak, nth0, qi1, qlk, qi2, qib, qi4, nth1, e1, e2, qfp]
  rw [List.append_assoc, List.append_assoc]
  rfl
theorem qam {a : Cell} (hid : idOk a.1 a.2.1 a.2.2 = true) (hv : 1 ≤ a.2.1) : (∀ (k : Nat), 2000000 ≤ k → go (k + 3) spec_ParentOf [.agg [.int .i64 a.1, .int .i64 a.2.1, .int .i64 a.2.2]] = some [.agg [.int .i64 (par a).1, .int .i64 (par a).2.1, .int .i64 (par a).2.2], .bool true]) ∧
    (∀ (k : Nat), 2000000 ≤ k → go (k + 4) impl_ParentOf [.agg [.int .i64 a.1, .int .i64 a.2.1, .int .i64 a.2.2]] = some [.agg [.int .i64 (par a).1, .int .i64 (par a).2.1, .int .i64 (par a).2.2], .bool true]) := by
  have id := qfm.1 hid
  have hp : pow2 a.2.1 ≤ 16 := by
    rcases lev (qfo.2 id.2.1) with e | e | e | e | e <;> rw [e] <;> decide
  have e : Int.tdiv a.2.2 2 = a.2.2 / 2 := Int.tdiv_eq_ediv_of_nonneg id.2.2.1
  refine ⟨fun k hk => ?_, fun k hk => ?_⟩
  · rw [qeo]; simp (disch := omega) only [qbu, hid, bit, dF, qmc, e, qct, qak, nth0, qlj, Bool.not_true]
  · rw [qdj]; simp (disch := omega) only [qar, hid, bit, dF, qmc, e, qct, qak, nth0, qlj, Bool.not_true]
theorem qaw (k : Nat) (hk : 2000000 ≤ k) (r : Int) (l : List Cell) (h : qh1 r 0 l = true) (i : Nat) (hi : i + 1 < l.length) (hv : 1 ≤ qgp l i) :
    go (k + 5) impl_Mesh_coarsen [.ptr true [.int .i64 r, .arr true false (.r3 l)], .int .i64 (i : Int)] = some [.ptr true [.int .i64 r, .arr true false (.r3 (qhy l i))]] := by
  rw [qdg]
  have L := qh6 h
  have eP := (qam ((qh5 _ _ _ h).2.2.2.1 _ (show i < l.length by omega)).2.2 hv).2 k (by omega)
  have eR := qbp (k + 3) false false l [par (l.getD i zz3)] (i : Int) ((i + 2 : Nat) : Int) (by omega) (by omega) (by omega) (by simp) (by simp <;> omega) (by omega) (by simp)
  rw [Int.toNat_natCast, Int.toNat_natCast] at eR
  simp (disch := omega) only [dT, nI, Bool.and_true, Int.toNat_natCast, eP, qcg, qmc, qak, nth0, qch, qlk, qci, qcj, eR, qib, qi4, qcv]
  rw [List.append_assoc]; rfl
theorem qa8 (k : Nat) (hk : 2000000 ≤ k) (r : Int) (s : S3) (b : List Int) (U : StU r s b) (i : Nat) (hi : i + 1 < s.1.length) (hv : 1 ≤ qgp s.1 i) :
    go (k + 6) impl_State_coarsen [.ptr true [.int .i64 (r), .arr true (false) (.r3 (s.1)), .arr true (false) (.ints .i64 (s.2.1)), .arr true (false) (.ints .i64 (s.2.2)), .arr true (false) (.ints .i64 (b))], .int .i64 (i : Int)] = some [.ptr true [.int .i64 (r), .arr true (false) (.r3 ((cmS s i).1)), .arr true (false) (.ints .i64 ((cmS s i).2.1)), .arr true (false) (.ints .i64 ((cmS s i).2.2)), .arr true (false) (.ints .i64 (b))]] := by
  obtain ⟨l, m, t⟩ := s
  simp only at hi hv ⊢
  rw [qdr]
  have L := U.len; have ml : m.length = l.length := U.ml; have tl : t.length = l.length := U.tl; have bl := U.bl; have rr := U.rr
  have a : 0 ≤ m.getD i 0 ∧ m.getD i 0 ≤ 10000000 ∧ 0 ≤ t.getD i 0 ∧ t.getD i 0 ≤ 1000 * m.getD i 0 := U.at i
  have a' : 0 ≤ m.getD (i + 1) 0 ∧ m.getD (i + 1) 0 ≤ 10000000 ∧ 0 ≤ t.getD (i + 1) 0 ∧ t.getD (i + 1) 0 ≤ 1000 * m.getD (i + 1) 0 := U.at (i + 1)
  simp only at L
  have eM := qaw k (by omega) r l U.mesh i hi hv
  have e1 := qbq (k + 4) false false m [m.getD i 0 + m.getD (i + 1) 0] (i : Int) ((i + 2 : Nat) : Int) (by omega) (by omega) (by omega) (by simp) (by simp <;> omega) (by omega) (by simp)
  have e2 := qbq (k + 4) false false t [t.getD i 0 + t.getD (i + 1) 0] (i : Int) ((i + 2 : Nat) : Int) (by omega) (by omega) (by omega) (by simp) (by simp <;> omega) (by omega) (by simp)
  rw [Int.toNat_natCast, Int.toNat_natCast] at e1 e2
  simp (disch := omega) only [eM, dT, nI, Bool.and_true, qcf, qmc, qcg, Int.toNat_natCast, e1, e2, qak, nth0, qib, qfp, qcv, qi1, qlk, qi2, qi4]
  rw [List.append_assoc, List.append_assoc]
  rfl
end Go.Proofs.Ytfgccfajhedgdaa
end
section
namespace Go.Proofs.Ytfgccfajhedgdaa
open Go.Ev
set_option maxRecDepth 20000
theorem len0 : List.length ([] : List Int) = 0 := Eq.trans rfl rfl
end Go.Proofs.Ytfgccfajhedgdaa
end
section
namespace Go.Proofs.Ytfgccfajhedgdaa
open Go.Ev
set_option maxRecDepth 20000
def qgq (x : Cell) : List Cell → Nat → Int
  | [], _ => -1
  | y :: r, i => if y = x then (i : Int) else qgq x r (i + 1)
def lof (l : List Cell) (x : Cell) : Int := qgq x l 0
theorem qgr (x : Cell) : ∀ (l : List Cell) (i : Nat), (qgq x l i = -1 ∧ x ∉ l) ∨ ∃ j, j < l.length ∧ qgq x l i = ((i + j : Nat) : Int) ∧ l.getD j zz3 = x
  | [], i => Or.inl ⟨rfl, by simp⟩
  | y :: r, i => by
    unfold qgq
    by_cases h : y = x
    · rw [if_pos h]; exact Or.inr ⟨0, by simp, by simp, by simpa using h⟩
    · rw [if_neg h]
      rcases qgr x r (i + 1) with ⟨e, n⟩ | ⟨j, hj, e, n⟩
      · exact Or.inl ⟨e, by simp only [List.mem_cons, not_or]; exact ⟨fun e => h e.symm, n⟩⟩
      · exact Or.inr ⟨j + 1, by simp; omega, by rw [e]; congr 1; omega, by simpa using n⟩
theorem qgt (l : List Cell) (x : Cell) : (lof l x = -1 ∧ x ∉ l) ∨ ∃ j, j < l.length ∧ lof l x = (j : Int) ∧ l.getD j zz3 = x := by
  rcases qgr x l 0 with h | ⟨j, hj, e, n⟩
  · exact Or.inl h
  · exact Or.inr ⟨j, hj, by unfold lof; rw [e, Nat.zero_add], n⟩
theorem qin : ∀ (l : List Cell) (p : Int), okp p l = true → ∀ x ∈ l, p ≤ qk1 x.1 x.2.1 x.2.2
  | [], p, h, x, hx => by cases hx
  | y :: l, p, h, x, hx => by
    rw [qim] at h
    rcases List.mem_cons.1 hx with rfl | hx
    · omega
    · have := qin l _ h.2.2 x hx
      have := ql8 y.2.1
      omega
theorem ql9 {x : Cell} (h : idOk x.1 x.2.1 x.2.2 = true) : 1 ≤ ql6 x.2.1 := by
  rcases lev (qfo.2 (qfm.1 h).2.1) with e | e | e | e | e <;> rw [e] <;> decide
end Go.Proofs.Ytfgccfajhedgdaa
end
section
namespace Go.Proofs.Ytfgccfajhedgdaa
open Go.Ev
structure Ld where
  mi : Int
  mo : Int
  ti : Int
  ou : Int
def Ld.add (a b : Ld) : Ld := ⟨a.mi + b.mi, a.mo + b.mo, a.ti + b.ti, a.ou + b.ou⟩
theorem qlc {f : Nat → Int} : ∀ n, (∀ j, j < n → 0 ≤ f j) → 0 ≤ qk9 f n
  | 0, h => Int.le_refl _
  | n + 1, h => by have := qlc n fun j hj => h j (by omega); have := h n (by omega); simp only [qk9]; omega
theorem qla {f g : Nat → Int} : ∀ n, (∀ j, j < n → f j ≤ g j) → qk9 f n ≤ qk9 g n
  | 0, h => Int.le_refl _
  | n + 1, h => by have := qla n fun j hj => h j (by omega); have := h n (by omega); simp only [qk9]; omega
section
variable {r : Int} {l : List Cell} {m t b : List Int}
end
section
variable {r : Int} {l : List Cell} {m t b : List Int}
end
end Go.Proofs.Ytfgccfajhedgdaa
end
section
namespace Go.Proofs.Ytfgccfajhedgdaa
open Go.Ev
structure StV (r : Int) (s : S3) (b : List Int) (M T : Int) : Prop where
  u : StU r s b
  m : isum s.2.1 = M
  t : isum s.2.2 = T
theorem rf_V {r : Int} {s : S3} {b : List Int} {M T : Int} (V : StV r s b M T) {i : Nat} (hi : i < s.1.length) (hl : qgp s.1 i < 4) : StV r (rfS s i) b M T := by
  have ml := V.u.ml; have tl := V.u.tl
  exact ⟨rf_U V.u hi hl, by show isum (rfM s.2.1 i) = M; rw [qjj (by omega) (V.u.at i).1]; exact V.m, by show isum (rfT s.2.2 s.2.1 i) = T; rw [qjl (by omega)]; exact V.t⟩
theorem cm_V {r : Int} {s : S3} {b : List Int} {M T : Int} (V : StV r s b M T) {i : Nat} (hi : i + 1 < s.1.length) (hs : sib (s.1.getD i zz3) (s.1.getD (i + 1) zz3) = true) : StV r (cmS s i) b M T := by
  have ml := V.u.ml; have tl := V.u.tl
  exact ⟨cm_U V.u hi hs, by show isum (cmM s.2.1 i) = M; rw [qcp (by omega)]; exact V.m, by show isum (cmM s.2.2 i) = T; rw [qcp (by omega)]; exact V.t⟩
end Go.Proofs.Ytfgccfajhedgdaa
end
section
namespace Go.Proofs.Ytfgccfajhedgdaa
open Go.Ev
abbrev cwd (x : Cell) : Int := ql6 x.2.1
abbrev cid (x : Cell) : Bool := idOk x.1 x.2.1 x.2.2
theorem qc1 {x : Cell} (h : cid x = true) : 1 ≤ cwd x := ql9 h
def cov (a b : Cell) : Bool := cid a && (cid b && (decide (a.1 = b.1) && (decide (a.2.1 ≤ b.2.1) && decide (b.2.2 / pow2 (b.2.1 - a.2.1) = a.2.2))))
set_option maxHeartbeats 1000000 in
theorem qcy {a b : Cell} (ha : cid a = true) (hb : cid b = true) : cov a b = true ↔ cst a ≤ cst b ∧ cst b < cst a + cwd a ∧ a.2.1 ≤ b.2.1 := by
  obtain ⟨r, la, i⟩ := a
  obtain ⟨r', lb, j⟩ := b
  have ha' := qfm.1 ha; have hb' := qfm.1 hb
  simp only [cov, ha, hb, Bool.true_and, Bool.and_eq_true, decide_eq_true_eq]
  show _ ↔ qk1 r la i ≤ qk1 r' lb j ∧ qk1 r' lb j < qk1 r la i + ql6 la ∧ la ≤ lb
  rw [qk3 ha, qk3 hb]
  clear ha hb
  rcases lev (qfo.2 ha'.2.1) with rfl | rfl | rfl | rfl | rfl <;> rcases lev (qfo.2 hb'.2.1) with rfl | rfl | rfl | rfl | rfl <;> simp only [w0, w1_, w2_, w3_, w4_, p20, p21, p22, p23, p24, Int.reduceSub, Int.sub_self] at ha' hb' ⊢ <;> omega
set_option maxHeartbeats 1000000 in
theorem qc8 {a b : Cell} (ha : cid a = true) (hb : cid b = true) {p : Int} (h1 : cst a ≤ p) (h2 : p < cst a + cwd a) (h3 : cst b ≤ p) (h4 : p < cst b + cwd b) (hl : a.2.1 ≤ b.2.1) : cst a ≤ cst b ∧ cst b + cwd b ≤ cst a + cwd a := by
  obtain ⟨r, la, i⟩ := a
  obtain ⟨r', lb, j⟩ := b
  have ha' := qfm.1 ha; have hb' := qfm.1 hb
  change qk1 r la i ≤ p at h1
  change p < qk1 r la i + ql6 la at h2
  change qk1 r' lb j ≤ p at h3
  change p < qk1 r' lb j + ql6 lb at h4
  show qk1 r la i ≤ qk1 r' lb j ∧ qk1 r' lb j + ql6 lb ≤ qk1 r la i + ql6 la
  change la ≤ lb at hl
  rw [qk3 ha, qk3 hb] at *
  clear ha hb
  rcases lev (qfo.2 ha'.2.1) with rfl | rfl | rfl | rfl | rfl <;> rcases lev (qfo.2 hb'.2.1) with rfl | rfl | rfl | rfl | rfl <;> simp only [w0, w1_, w2_, w3_, w4_, p20, p21, p22, p23, p24] at ha' hb' h1 h2 h3 h4 ⊢ <;> omega
theorem qko {a b : Cell} (ha : cid a = true) (hb : cid b = true) (h : cst a = cst b) (hl : a.2.1 = b.2.1) : a = b := by
  obtain ⟨r, la, i⟩ := a
  obtain ⟨r', lb, j⟩ := b
  have ha' := qfm.1 ha; have hb' := qfm.1 hb
  change qk1 r la i = qk1 r' lb j at h
  change la = lb at hl
  subst hl
  rw [qk3 ha, qk3 hb] at h
  have : r = r' ∧ i = j := by
    clear ha hb
    rcases lev (qfo.2 ha'.2.1) with rfl | rfl | rfl | rfl | rfl <;> simp only [w0, w1_, w2_, w3_, w4_, p20, p21, p22, p23, p24] at ha' hb' h <;> omega
  rw [this.1, this.2]
theorem qio {l : List Cell} {p : Int} (h : okp p l = true) {i : Nat} (hi : i < l.length) : cid (l.getD i zz3) = true := by
  induction l generalizing p i with
  | nil => simp at hi
  | cons x l ih =>
    rw [qim] at h
    cases i with
    | zero => exact h.1
    | succ i => exact ih h.2.2 (by simpa using hi)
theorem qir {l : List Cell} {p : Int} (h : okp p l = true) {i : Nat} (hi : i < l.length) : cst (l.getD i zz3) = endp p (l.take i) := by
  induction l generalizing p i with
  | nil => simp at hi
  | cons x l ih =>
    rw [qim] at h
    cases i with
    | zero => exact h.2.1
    | succ i => exact ih h.2.2 (by simpa using hi)
theorem qlg {l : List Cell} {i : Nat} (hi : i < l.length) : l.take (i + 1) = l.take i ++ [l.getD i zz3] := by
  rw [List.take_succ_eq_append_getElem hi]; simp [hi]
theorem qis {l : List Cell} {p : Int} (h : okp p l = true) {i : Nat} (hi : i + 1 < l.length) : cst (l.getD (i + 1) zz3) = cst (l.getD i zz3) + cwd (l.getD i zz3) := by
  rw [qir h hi, qir h (by omega), qlg (by omega), qe9]; rfl
theorem qiq {l : List Cell} {p : Int} (h : okp p l = true) {i : Nat} : ∀ {j : Nat}, i < j → j < l.length → cst (l.getD i zz3) + cwd (l.getD i zz3) ≤ cst (l.getD j zz3)
  | 0, hij, hj => by omega
  | j + 1, hij, hj => by
    have s := qis h hj
    by_cases e : i = j
    · subst e; omega
    · have := qiq h (i := i) (j := j) (by omega) (by omega)
      have w := qc1 (qio h (show j < l.length by omega))
      omega
theorem qil : ∀ {l : List Cell} {p q : Int}, okp p l = true → p ≤ q → q < endp p l → ∃ j, j < l.length ∧ cst (l.getD j zz3) ≤ q ∧ q < cst (l.getD j zz3) + cwd (l.getD j zz3)
  | [], p, q, h, h1, h2 => by have : endp p [] = p := rfl; omega
  | x :: l, p, q, h, h1, h2 => by
    rw [qim] at h
    rw [qfa] at h2
    have h21 : cst x = p := h.2.1
    by_cases g : q < p + cwd x
    · exact ⟨0, by simp, by show cst x ≤ q; omega, by show q < cst x + cwd x; omega⟩
    · obtain ⟨j, hj, h3, h4⟩ := qil h.2.2 (show p + ql6 x.2.1 ≤ q from Int.not_lt.1 g) h2
      exact ⟨j + 1, by simpa using hj, by simpa using h3, by simpa using h4⟩
theorem qit {l : List Cell} {p q : Int} (h : okp p l = true) {i j : Nat} (hi : i < l.length) (hj : j < l.length) (h1 : cst (l.getD i zz3) ≤ q) (h2 : q < cst (l.getD i zz3) + cwd (l.getD i zz3)) (h3 : cst (l.getD j zz3) ≤ q) (h4 : q < cst (l.getD j zz3) + cwd (l.getD j zz3)) : i = j := by
  by_cases e : i < j
  · have := qiq h e hj; omega
  · by_cases e' : j < i
    · have := qiq h e' hi; omega
    · omega
theorem qip {l : List Cell} {p : Int} (h : okp p l = true) {i : Nat} (hi : i < l.length) : p ≤ cst (l.getD i zz3) ∧ cst (l.getD i zz3) + cwd (l.getD i zz3) ≤ endp p l := by
  induction l generalizing p i with
  | nil => simp at hi
  | cons x l ih =>
    rw [qim] at h
    rw [qfa]
    have w : 1 ≤ ql6 x.2.1 := qc1 h.1
    have e : ∀ (l : List Cell) (p : Int), okp p l = true → p ≤ endp p l := by
      intro l
      induction l with
      | nil => intro p _; exact Int.le_refl p
      | cons y l ih => intro p h; rw [qim] at h; rw [qfa]; have := ih _ h.2.2; have := ql8 y.2.1; omega
    cases i with
    | zero =>
      have := e _ _ h.2.2
      have h21 := h.2.1
      show p ≤ qk1 x.1 x.2.1 x.2.2 ∧ qk1 x.1 x.2.1 x.2.2 + ql6 x.2.1 ≤ _
      omega
    | succ i =>
      have := ih h.2.2 (i := i) (by simpa using hi)
      simp only [List.getD_cons_succ]
      omega
theorem qhx {l : List Cell} {x : Cell} (h : x ∈ l) : ∃ j, j < l.length ∧ l.getD j zz3 = x := by
  obtain ⟨j, hj, e⟩ := List.getElem_of_mem h
  exact ⟨j, hj, by rw [List.getD_eq_getElem?_getD, List.getElem?_eq_getElem hj, Option.getD_some, e]⟩
def fstG (P : Cell → Bool) : List Cell → Nat → Int
  | [], i => -1
  | x :: l, i => if P x = true then (i : Int) else fstG P l (i + 1)
theorem qfd (P : Cell → Bool) : ∀ (l : List Cell) (i : Nat), (fstG P l i = -1 ∧ ∀ x ∈ l, P x = false) ∨ ∃ j, j < l.length ∧ fstG P l i = ((i + j : Nat) : Int) ∧ P (l.getD j zz3) = true
  | [], i => Or.inl ⟨rfl, by simp⟩
  | y :: l, i => by
    unfold fstG
    by_cases h : P y = true
    · rw [if_pos h]; exact Or.inr ⟨0, by simp, by simp, by simpa using h⟩
    · rw [if_neg h]
      rcases qfd P l (i + 1) with ⟨e, n⟩ | ⟨j, hj, e, n⟩
      · refine Or.inl ⟨e, fun x hx => ?_⟩
        rcases List.mem_cons.1 hx with rfl | hx
        · simpa using h
        · exact n x hx
      · exact Or.inr ⟨j + 1, by simp; omega, by rw [e]; congr 1; omega, by simpa using n⟩
def qk5 (m l : List Cell) : Int := fstG (fun x => decide (lof m x < 0)) l 0
theorem qgs (m : List Cell) (x : Cell) : lof m x < 0 ↔ x ∉ m := by
  rcases qgt m x with ⟨e, n⟩ | ⟨j, hj, e, n⟩
  · rw [e]; exact ⟨fun _ => n, fun _ => by omega⟩
  · rw [e]
    exact ⟨fun h => by omega, fun h => absurd (n ▸ qfj hj zz3) h⟩
theorem qk6 (m l : List Cell) : (qk5 m l = -1 ∧ ∀ x ∈ l, x ∈ m) ∨ ∃ j, j < l.length ∧ qk5 m l = (j : Int) ∧ l.getD j zz3 ∉ m := by
  rcases qfd (fun x => decide (lof m x < 0)) l 0 with ⟨e, n⟩ | ⟨j, hj, e, n⟩
  · refine Or.inl ⟨e, fun x hx => ?_⟩
    have := n x hx
    rw [decide_eq_false_iff_not, qgs] at this
    exact Classical.byContradiction this
  · rw [Nat.zero_add] at e
    exact Or.inr ⟨j, hj, e, by rw [decide_eq_true_eq, qgs] at n; exact n⟩
def qiu (m : List Cell) (x : Cell) : Int := fstG (fun y => cov y x) m 0
def qc2 (y : Cell) (l0 : List Cell) : List Cell → Nat → Int → Int
  | [], j, best => best
  | z :: l, j, best => qc2 y l0 l (j + 1) (if (cov y z && (decide (best < 0) || decide (qgp l0 best.toNat < z.2.1))) = true then (j : Int) else best)
def deep (l : List Cell) (y : Cell) : Int := qc2 y l l 0 (-1)
def qaa (y : Cell) (l : List Cell) (j : Nat) (best : Int) : Prop := (best = -1 ∧ ∀ q, q < j → cov y (l.getD q zz3) = false) ∨ ∃ b : Nat, best = (b : Int) ∧ b < j ∧ cov y (l.getD b zz3) = true ∧ (∀ q, q < j → cov y (l.getD q zz3) = true → qgp l q ≤ qgp l b) ∧ ∀ q, q < b → cov y (l.getD q zz3) = true → qgp l q < qgp l b
theorem qc3 (y : Cell) (l0 : List Cell) : ∀ (l : List Cell) (j : Nat) (best : Int), l = l0.drop j → j ≤ l0.length → qaa y l0 j best → qaa y l0 l0.length (qc2 y l0 l j best)
  | [], j, best, e, hj, D => by
    have : l0.length ≤ j := by
      have := congrArg List.length e
      rw [List.length_drop, List.length_nil] at this; omega
    have : j = l0.length := by omega
    rw [← this]; exact D
  | z :: l, j, best, e, hj, D => by
    have hj' : j < l0.length := by
      have := congrArg List.length e
      rw [List.length_drop, List.length_cons] at this; omega
    rw [qc6 hj' zz3] at e
    injection e with e1 e2
    unfold qc2
    refine qc3 y l0 l (j + 1) _ e2 hj' ?_
    by_cases g : (cov y z && (decide (best < 0) || decide (qgp l0 best.toNat < z.2.1))) = true
    · rw [if_pos g]
      simp only [Bool.and_eq_true, Bool.or_eq_true, decide_eq_true_eq] at g
      rw [e1] at g
      refine Or.inr ⟨j, rfl, by omega, g.1, ?_, ?_⟩
      · intro q hq hc
        by_cases h : q = j
        · subst h; exact Int.le_refl _
        · rcases D with ⟨_, n⟩ | ⟨b, rfl, hb, _, mx, _⟩
          · rw [n q (by omega)] at hc; cases hc
          · have := mx q (by omega) hc
            rw [Int.toNat_natCast] at g
            show _ ≤ (l0.getD j zz3).2.1
            omega
      · intro q hq hc
        rcases D with ⟨_, n⟩ | ⟨b, rfl, hb, _, mx, _⟩
        · rw [n q hq] at hc; cases hc
        · have := mx q hq hc
          rw [Int.toNat_natCast] at g
          show _ < (l0.getD j zz3).2.1
          omega
    · rw [if_neg g]
      rw [e1] at g
      rcases D with ⟨rfl, n⟩ | ⟨b, rfl, hb, hc, mx, fs⟩
      · refine Or.inl ⟨rfl, fun q hq => ?_⟩
        by_cases h : q = j
        · subst h
          cases hc : cov y (l0.getD q zz3)
          · rfl
          · exact absurd (by rw [hc]; rfl) g
        · exact n q (by omega)
      · refine Or.inr ⟨b, rfl, by omega, hc, fun q hq h => ?_, fs⟩
        by_cases e : q = j
        · subst e
          simp only [h, Bool.true_and, Bool.or_eq_true, decide_eq_true_eq, Int.toNat_natCast] at g
          show (l0.getD q zz3).2.1 ≤ _
          omega
        · exact mx q (by omega) h
theorem qc4 (y : Cell) (l : List Cell) : qaa y l l.length (deep l y) := qc3 y l l 0 (-1) rfl (Nat.zero_le _) (Or.inl ⟨rfl, fun q hq => by omega⟩)
structure Two (r : Int) (a c : List Cell) : Prop where
  l : okp 0 a = true
  m : okp 0 c = true
  e : endp 0 a = endp 0 c
theorem qid {r : Int} {l m : List Cell} (T : Two r l m) {i : Nat} (hi : i < l.length) (hx : l.getD i zz3 ∉ m) : (∃ y ∈ m, cov y (l.getD i zz3) = true) ∨ ∃ y ∈ m, y ≠ l.getD i zz3 ∧ cov (l.getD i zz3) y = true := by
  have ix := qio T.l hi
  have wx := qc1 ix
  have rx := qip T.l hi
  obtain ⟨k, hk, h1, h2⟩ := qil T.m (q := cst (l.getD i zz3)) rx.1 (by have := T.e; omega)
  have iy := qio T.m hk
  have my := qfj hk zz3
  by_cases g : (m.getD k zz3).2.1 ≤ (l.getD i zz3).2.1
  · exact Or.inl ⟨_, my, (qcy iy ix).2 ⟨h1, h2, g⟩⟩
  · refine Or.inr ⟨_, my, fun e => hx (e ▸ my), ?_⟩
    have d := qc8 ix iy (p := cst (l.getD i zz3)) (Int.le_refl _) (by omega) h1 h2 (by omega)
    exact (qcy ix iy).2 ⟨d.1, by have := qc1 iy; omega, by omega⟩
theorem qic {r : Int} {l m : List Cell} (T : Two r l m) {i : Nat} (hi : i < l.length) (hx : l.getD i zz3 ∉ m) {y y' : Cell} (hy : y ∈ m) (hy' : y' ∈ m) (h : cov y (l.getD i zz3) = true) (h' : cov (l.getD i zz3) y' = true) : False := by
  have ix := qio T.l hi
  obtain ⟨a, ha, rfl⟩ := qhx hy
  obtain ⟨b, hb, rfl⟩ := qhx hy'
  have ia := qio T.m ha; have ib := qio T.m hb
  have wx := qc1 ix; have wa := qc1 ia; have wb := qc1 ib
  have c1 := (qcy ia ix).1 h
  have c2 := (qcy ix ib).1 h'
  have d1 := qc8 ia ix c1.1 c1.2.1 (Int.le_refl _) (by omega) c1.2.2
  have d2 := qc8 ix ib c2.1 c2.2.1 (Int.le_refl _) (by omega) c2.2.2
  have e := qit T.m ha hb (q := cst (m.getD b zz3)) (by omega) (by omega) (Int.le_refl _) (by omega)
  subst e
  exact hx (qko ia ix (by omega) (by omega) ▸ hy)
theorem qk0 {r : Int} {l m : List Cell} (T : Two r l m) {i : Nat} (hi : i < l.length) (hx : l.getD i zz3 ∉ m) {y : Cell} (hy : y ∈ m) (h : cov (l.getD i zz3) y = true) : (l.getD i zz3).2.1 < 4 ∧ ∀ (k : Nat) (q : Int), k < m.length → cst (m.getD k zz3) ≤ q → q < cst (m.getD k zz3) + cwd (m.getD k zz3) → cst (l.getD i zz3) ≤ q → q < cst (l.getD i zz3) + cwd (l.getD i zz3) → (l.getD i zz3).2.1 < (m.getD k zz3).2.1 := by
  have ix := qio T.l hi
  obtain ⟨b, hb, rfl⟩ := qhx hy
  have ib := qio T.m hb
  have c := (qcy ix ib).1 h
  have ne : (l.getD i zz3).2.1 ≠ (m.getD b zz3).2.1 := fun e => by
    have wx := qc1 ix
    have d := qc8 ib ix (p := cst (m.getD b zz3)) (Int.le_refl _) (by have := qc1 ib; omega) c.1 c.2.1 (by omega)
    exact hx (qko ix ib (by omega) e ▸ hy)
  have lb := (qfm.1 ib).2.1
  refine ⟨by omega, fun k q hk h1 h2 h3 h4 => ?_⟩
  have ik := qio T.m hk
  by_cases g : (l.getD i zz3).2.1 < (m.getD k zz3).2.1
  · exact g
  · exfalso
    have d := qc8 ik ix h1 h2 h3 h4 (by omega)
    exact qic T hi hx (qfj hk zz3) hy ((qcy ik ix).2 ⟨d.1, by have := qc1 ix; omega, by omega⟩) h
set_option maxHeartbeats 1000000 in
theorem qc5 {r : Int} {l m : List Cell} (T : Two r l m) {i : Nat} (hi : i < l.length) (hx : l.getD i zz3 ∉ m) {y : Cell} (hy : y ∈ m) (h : cov y (l.getD i zz3) = true) :
    ∃ j : Nat, deep l y = (j : Int) ∧ j + 1 < l.length ∧ sib (l.getD j zz3) (l.getD (j + 1) zz3) = true ∧ y.2.1 < (l.getD j zz3).2.1 ∧ cst y ≤ cst (l.getD j zz3) ∧ cst (l.getD j zz3) + 2 * cwd (l.getD j zz3) ≤ cst y + cwd y := by
  have ix := qio T.l hi
  obtain ⟨a, ha, rfl⟩ := qhx hy
  have iy := qio T.m ha
  have c := (qcy iy ix).1 h
  have ry := qip T.m ha
  have ne : (m.getD a zz3).2.1 < (l.getD i zz3).2.1 := by
    by_cases e : (m.getD a zz3).2.1 = (l.getD i zz3).2.1
    · exfalso
      have wx := qc1 ix
      have d := qc8 ix iy (p := cst (l.getD i zz3)) (Int.le_refl _) (by omega) c.1 c.2.1 (by omega)
      exact hx (qko iy ix (by omega) e ▸ hy)
    · omega
  rcases qc4 (m.getD a zz3) l with ⟨_, n⟩ | ⟨j, e, hj, hc, mx, fs⟩
  · rw [n i hi] at h; cases h
  refine ⟨j, e, ?_⟩
  have ij := qio T.l hj
  have cj := (qcy iy ij).1 hc
  have dj := qc8 iy ij cj.1 cj.2.1 (Int.le_refl _) (by have := qc1 ij; omega) cj.2.2
  have lj : (m.getD a zz3).2.1 < (l.getD j zz3).2.1 := by have := mx i hi h; unfold qgp at this; omega
  -- the leaf that covers a point qma y is no deeper than leaf j
  have near : ∀ q : Int, cst (m.getD a zz3) ≤ q → q < cst (m.getD a zz3) + cwd (m.getD a zz3) → ∃ z, z < l.length ∧ cst (l.getD z zz3) ≤ q ∧ q < cst (l.getD z zz3) + cwd (l.getD z zz3) ∧ (cov (m.getD a zz3) (l.getD z zz3) = true → qgp l z ≤ qgp l j) ∧ ((m.getD a zz3).2.1 ≤ (l.getD z zz3).2.1 → cov (m.getD a zz3) (l.getD z zz3) = true) := by
    intro q h1 h2
    obtain ⟨z, hz, z1, z2⟩ := qil T.l (q := q) (by omega) (by have := T.e; omega)
    refine ⟨z, hz, z1, z2, mx z hz, fun hl => ?_⟩
    have iz := qio T.l hz
    have d := qc8 iy iz h1 h2 z1 z2 hl
    exact (qcy iy iz).2 ⟨d.1, by have := qc1 iz; omega, hl⟩
  generalize hX : l.getD j zz3 = X at *
  generalize hY : m.getD a zz3 = Y at *
  obtain ⟨rx, lx, kx⟩ := X
  obtain ⟨sy, ly, ky⟩ := Y
  have ij' : (0 ≤ rx ∧ rx ≤ 7) ∧ (0 ≤ lx ∧ lx ≤ 4) ∧ 0 ≤ kx ∧ kx < pow2 lx := qfm.1 ij
  have iy' : (0 ≤ sy ∧ sy ≤ 7) ∧ (0 ≤ ly ∧ ly ≤ 4) ∧ 0 ≤ ky ∧ ky < pow2 ly := qfm.1 iy
  have eX : cst (rx, lx, kx) = rx * 16 + kx * ql6 lx := qk3 ij
  have eY : cst (sy, ly, ky) = sy * 16 + ky * ql6 ly := qk3 iy
  have levX : qgp l j = lx := by show (l.getD j zz3).2.1 = lx; rw [hX]
  change ly < lx at lj
  have even : kx % 2 = 0 := by
    by_cases ev : kx % 2 = 0
    · exact ev
    · exfalso
      have is : idOk rx lx (kx - 1) = true := qfm.2 ⟨ij'.1, ij'.2.1, by omega, by omega⟩
      have eS : cst (rx, lx, kx - 1) = rx * 16 + (kx - 1) * ql6 lx := qk3 is
      have wX : 1 ≤ ql6 lx := qc1 (x := (rx, lx, kx)) ij
      have mulS : (kx - 1) * ql6 lx = kx * ql6 lx - ql6 lx := by rw [Int.sub_mul, Int.one_mul]
      have inS : cst (sy, ly, ky) ≤ cst (rx, lx, kx - 1) ∧ cst (rx, lx, kx - 1) < cst (sy, ly, ky) + ql6 ly := by
        have h1 := cj.1; have h2 := cj.2.1
        change cst (rx, lx, kx) < cst (sy, ly, ky) + ql6 ly at h2
        refine ⟨?_, by omega⟩
        rw [eS, eY] at *
        rw [eX] at h1 h2
        clear near fs mx eS eY eX dj mulS
        rcases lev (qfo.2 ij'.2.1) with rfl | rfl | rfl | rfl | rfl <;> rcases lev (qfo.2 iy'.2.1) with rfl | rfl | rfl | rfl | rfl <;> simp only [w0, w1_, w2_, w3_, w4_, p20, p21, p22, p23, p24] at * <;> omega
      obtain ⟨z, hz, z1, z2, zm, zc⟩ := near _ inS.1 inS.2
      have iz := qio T.l hz
      by_cases g : lx ≤ (l.getD z zz3).2.1
      · -- the sibling, or deeper in it
        have hzc := zc (by show ly ≤ _; omega)
        have lz := zm hzc
        rw [levX] at lz
        have lz' : (l.getD z zz3).2.1 = lx := by unfold qgp at lz; omega
        have zj : z < j := by
          by_cases h : z < j
          · exact h
          · exfalso
            by_cases h' : z = j
            · subst h'; rw [hX] at z1 z2; omega
            · have := qiq T.l (i := j) (j := z) (by omega) hz
              rw [hX] at this
              have : cst (rx, lx, kx) + ql6 lx ≤ cst (l.getD z zz3) := this
              omega
        have := fs z zj hzc
        rw [levX] at this
        unfold qgp at this
        omega
      · -- it contains the parent
        have d := qc8 (b := (rx, lx, kx - 1)) iz is (p := cst (rx, lx, kx - 1)) z1 z2 (Int.le_refl _) (by show cst (rx, lx, kx - 1) < cst (rx, lx, kx - 1) + ql6 lx; omega) (by show (l.getD z zz3).2.1 ≤ lx; omega)
        have inJ : cst (l.getD z zz3) ≤ cst (rx, lx, kx) ∧ cst (rx, lx, kx) < cst (l.getD z zz3) + cwd (l.getD z zz3) := by
          generalize l.getD z zz3 = Z at iz z1 z2 g d ⊢
          obtain ⟨rz, vz, kz⟩ := Z
          have iz' : (0 ≤ rz ∧ rz ≤ 7) ∧ (0 ≤ vz ∧ vz ≤ 4) ∧ 0 ≤ kz ∧ kz < pow2 vz := qfm.1 iz
          have eZ : cst (rz, vz, kz) = rz * 16 + kz * ql6 vz := qk3 iz
          change ¬ lx ≤ vz at g
          change cst (rz, vz, kz) ≤ cst (rx, lx, kx - 1) at z1
          change cst (rx, lx, kx - 1) < cst (rz, vz, kz) + ql6 vz at z2
          show cst (rz, vz, kz) ≤ cst (rx, lx, kx) ∧ cst (rx, lx, kx) < cst (rz, vz, kz) + ql6 vz
          rw [eZ, eS] at *
          rw [eX]
          clear near fs mx eS eY eX dj d inS mulS eZ cj zm zc
          rcases lev (qfo.2 ij'.2.1) with rfl | rfl | rfl | rfl | rfl <;> rcases lev (qfo.2 iz'.2.1) with rfl | rfl | rfl | rfl | rfl <;> simp only [w0, w1_, w2_, w3_, w4_, p20, p21, p22, p23, p24] at * <;> omega
        have ez := qit T.l hz hj (q := cst (rx, lx, kx)) inJ.1 inJ.2 (by rw [hX]; exact Int.le_refl _) (by rw [hX]; show cst (rx, lx, kx) < cst (rx, lx, kx) + ql6 lx; omega)
        subst ez
        rw [hX] at g
        exact g (Int.le_refl _)
  -- the right sibling
  have is : idOk rx lx (kx + 1) = true := by
    refine qfm.2 ⟨ij'.1, ij'.2.1, by omega, ?_⟩
    have a := ij'.2.2
    clear near fs mx eX eY dj cj
    rcases lev (qfo.2 ij'.2.1) with rfl | rfl | rfl | rfl | rfl <;> rcases lev (qfo.2 iy'.2.1) with rfl | rfl | rfl | rfl | rfl <;> simp only [p20, p21, p22, p23, p24] at * <;> omega
  have wX : 1 ≤ ql6 lx := qc1 (x := (rx, lx, kx)) ij
  have eS : cst (rx, lx, kx + 1) = rx * 16 + (kx + 1) * ql6 lx := qk3 is
  have mulS : (kx + 1) * ql6 lx = kx * ql6 lx + ql6 lx := by rw [Int.add_mul, Int.one_mul]
  have inS : cst (rx, lx, kx) + 2 * ql6 lx ≤ cst (sy, ly, ky) + ql6 ly := by
    have h1 := cj.1; have h2 := cj.2.1
    change cst (rx, lx, kx) < cst (sy, ly, ky) + ql6 ly at h2
    rw [eX, eY] at *
    clear near fs mx eS eX eY dj mulS is cj
    rcases lev (qfo.2 ij'.2.1) with rfl | rfl | rfl | rfl | rfl <;> rcases lev (qfo.2 iy'.2.1) with rfl | rfl | rfl | rfl | rfl <;> simp only [w0, w1_, w2_, w3_, w4_, p20, p21, p22, p23, p24] at * <;> omega
  have yl := cj.1
  obtain ⟨z, hz, z1, z2, zm, zc⟩ := near (cst (rx, lx, kx + 1)) (by omega) (by show cst (rx, lx, kx + 1) < cst (sy, ly, ky) + ql6 ly; omega)
  have iz := qio T.l hz
  have hj1 : j + 1 < l.length := by
    have zj : j < z := by
      by_cases h : j < z
      · exact h
      · exfalso
        by_cases h' : z = j
        · subst h'
          rw [hX] at z2
          change cst (rx, lx, kx + 1) < cst (rx, lx, kx) + ql6 lx at z2
          omega
        · have := qiq T.l (i := z) (j := j) (by omega) hj
          rw [hX] at this
          omega
    omega
  have st1 := qis T.l hj1
  rw [hX] at st1
  change cst (l.getD (j + 1) zz3) = cst (rx, lx, kx) + ql6 lx at st1
  have iz1 := qio T.l hj1
  have w1 := qc1 iz1
  have ez := qit T.l hz hj1 (q := cst (rx, lx, kx + 1)) z1 z2 (by omega) (by omega)
  subst ez
  have lz : (l.getD (j + 1) zz3).2.1 = lx := by
    by_cases g : lx ≤ (l.getD (j + 1) zz3).2.1
    · have := zm (zc (by show ly ≤ _; omega))
      rw [levX] at this
      unfold qgp at this
      omega
    · exfalso
      generalize l.getD (j + 1) zz3 = Z at iz1 g st1
      obtain ⟨rz, vz, kz⟩ := Z
      have iz' : (0 ≤ rz ∧ rz ≤ 7) ∧ (0 ≤ vz ∧ vz ≤ 4) ∧ 0 ≤ kz ∧ kz < pow2 vz := qfm.1 iz1
      have eZ : cst (rz, vz, kz) = rz * 16 + kz * ql6 vz := qk3 iz1
      change ¬ lx ≤ vz at g
      rw [eZ, eX] at st1
      clear near fs mx eS eX eY dj mulS is cj eZ zm zc z1 z2 inS yl
      rcases lev (qfo.2 ij'.2.1) with rfl | rfl | rfl | rfl | rfl <;> rcases lev (qfo.2 iz'.2.1) with rfl | rfl | rfl | rfl | rfl <;> simp only [w0, w1_, w2_, w3_, w4_, p20, p21, p22, p23, p24] at * <;> omega
  have eq1 := qko (b := (rx, lx, kx + 1)) iz1 is (by rw [st1]; omega) lz
  refine ⟨hj1, ?_, lj, yl, inS⟩
  rw [eq1]
  simp only [sib, Bool.and_eq_true, decide_eq_true_eq]
  exact ⟨ij, is, trivial, trivial, even, trivial⟩
end Go.Proofs.Ytfgccfajhedgdaa
end
section
namespace Go.Proofs.Ytfgccfajhedgdaa
open Go.Ev
def lvp : List Cell → Int → Int
  | [], q => 0
  | x :: l, q => if q < cst x + cwd x then x.2.1 else lvp l q
theorem qfb : ∀ (l : List Cell) (p : Int), okp p l = true → p ≤ endp p l
  | [], p, _ => Int.le_refl p
  | y :: l, p, h => by rw [qim] at h; rw [qfa]; have := qfb l _ h.2.2; have := ql8 y.2.1; omega
theorem qgu : ∀ {l : List Cell} {p q : Int} {j : Nat}, okp p l = true → j < l.length → cst (l.getD j zz3) ≤ q → q < cst (l.getD j zz3) + cwd (l.getD j zz3) → lvp l q = (l.getD j zz3).2.1
  | [], p, q, j, h, hj, h1, h2 => by simp at hj
  | x :: l, p, q, 0, h, hj, h1, h2 => by unfold lvp; rw [if_pos (show q < cst x + cwd x from h2)]; rfl
  | x :: l, p, q, j + 1, h, hj, h1, h2 => by
    have a := qiq h (i := 0) (j := j + 1) (by omega) hj
    rw [qim] at h
    unfold lvp
    simp only [List.getD_cons_succ, List.getD_cons_zero] at *
    rw [if_neg (by omega)]
    exact qgu h.2.2 (by simpa using hj) h1 h2
theorem qgx : ∀ (A X : List Cell) (p q : Int), okp p A = true → p ≤ q → q < endp p A → lvp (A ++ X) q = lvp A q
  | [], X, p, q, h, h1, h2 => by have : endp p [] = p := rfl; omega
  | x :: A, X, p, q, h, h1, h2 => by
    rw [qim] at h; rw [qfa] at h2
    rw [List.cons_append, lvp, lvp]
    by_cases g : q < cst x + cwd x
    · rw [if_pos g, if_pos g]
    · rw [if_neg g, if_neg g]
      have g' : ¬ q < qk1 x.1 x.2.1 x.2.2 + ql6 x.2.1 := g
      exact qgx A X _ q h.2.2 (by omega) h2
theorem qgv : ∀ (A X : List Cell) (p q : Int), okp p A = true → endp p A ≤ q → lvp (A ++ X) q = lvp X q
  | [], X, p, q, h, h1 => rfl
  | x :: A, X, p, q, h, h1 => by
    rw [qim] at h; rw [qfa] at h1
    have := qfb A _ h.2.2
    have g : ¬ q < cst x + cwd x := by show ¬ q < qk1 x.1 x.2.1 x.2.2 + ql6 x.2.1; omega
    rw [List.cons_append, lvp, if_neg g]
    exact qgv A X _ q h.2.2 h1
theorem qgz {l : List Cell} (h : okp 0 l = true) {i : Nat} (hi : i < l.length) (hl : (l.getD i zz3).2.1 < 4) {q : Int} (h0 : 0 ≤ q) : lvp (qkx l i) q = if cst (l.getD i zz3) ≤ q ∧ q < cst (l.getD i zz3) + cwd (l.getD i zz3) then (l.getD i zz3).2.1 + 1 else lvp l q := by
  have hs := qir h hi
  have e := qc0 hi zz3
  have h1 := h
  rw [e, qik, Bool.and_eq_true] at h1
  have c := qcn (qio h hi) hl
  have el : lvp l q = lvp (l.take i ++ l.getD i zz3 :: l.drop (i + 1)) q := by rw [← e]
  rw [el]
  unfold qkx
  by_cases g : q < endp 0 (l.take i)
  · rw [qgx _ _ 0 q h1.1 h0 g, qgx _ _ 0 q h1.1 h0 g, if_neg (by omega)]
  · rw [qgv _ _ 0 q h1.1 (by omega), qgv _ _ 0 q h1.1 (by omega)]
    simp only [lvp]
    have c0 : cst (ch0 (l.getD i zz3)) = cst (l.getD i zz3) := c.2.2.1
    have c1 : cst (ch1 (l.getD i zz3)) = cst (l.getD i zz3) + ql6 ((l.getD i zz3).2.1 + 1) := c.2.2.2.1
    have d0 : cwd (ch0 (l.getD i zz3)) = ql6 ((l.getD i zz3).2.1 + 1) := rfl
    have d1 : cwd (ch1 (l.getD i zz3)) = ql6 ((l.getD i zz3).2.1 + 1) := rfl
    have d2 : cwd (l.getD i zz3) = ql6 (l.getD i zz3).2.1 := rfl
    have cw := c.2.2.2.2
    have wl := ql8 ((l.getD i zz3).2.1 + 1)
    by_cases g1 : q < cst (l.getD i zz3) + cwd (l.getD i zz3)
    · rw [if_pos (show cst (l.getD i zz3) ≤ q ∧ q < cst (l.getD i zz3) + cwd (l.getD i zz3) by omega)]
      by_cases g2 : q < cst (ch0 (l.getD i zz3)) + cwd (ch0 (l.getD i zz3))
      · rw [if_pos g2]
      · rw [if_neg g2, if_pos (by omega)]
    · rw [if_neg (by omega), if_neg (by omega), if_neg (by omega), if_neg (by omega)]
theorem qgy {l : List Cell} (h : okp 0 l = true) {j : Nat} (hj : j + 1 < l.length) (hs : sib (l.getD j zz3) (l.getD (j + 1) zz3) = true) {q : Int} (h0 : 0 ≤ q) : lvp (qhy l j) q = if cst (l.getD j zz3) ≤ q ∧ q < cst (l.getD j zz3) + 2 * cwd (l.getD j zz3) then (l.getD j zz3).2.1 - 1 else lvp l q := by
  have hst := qir h (show j < l.length by omega)
  have st1 := qis h hj
  have e := qc0 (show j < l.length by omega) zz3
  rw [qc6 hj zz3] at e
  have h1 := h
  rw [e, qik, Bool.and_eq_true] at h1
  simp only [sib, Bool.and_eq_true, decide_eq_true_eq] at hs
  obtain ⟨s1, s2, s3, s4, s5, s6⟩ := hs
  have s2' := s2
  rw [← s3, ← s4, s6] at s2'
  have c := qiw s1 s2' s5
  have el : lvp l q = lvp (l.take j ++ l.getD j zz3 :: l.getD (j + 1) zz3 :: l.drop (j + 1 + 1)) q := by rw [← e]
  rw [el]
  unfold qhy
  rw [show j + 2 = j + 1 + 1 from rfl]
  by_cases g : q < endp 0 (l.take j)
  · rw [qgx _ _ 0 q h1.1 h0 g, qgx _ _ 0 q h1.1 h0 g, if_neg (by omega)]
  · rw [qgv _ _ 0 q h1.1 (by omega), qgv _ _ 0 q h1.1 (by omega)]
    simp only [lvp]
    have cp : cst (par (l.getD j zz3)) = cst (l.getD j zz3) := c.2.2.1
    have dp : cwd (par (l.getD j zz3)) = ql6 ((l.getD j zz3).2.1 - 1) := rfl
    have d2 : cwd (l.getD j zz3) = ql6 (l.getD j zz3).2.1 := rfl
    have d3 : cwd (l.getD (j + 1) zz3) = ql6 (l.getD j zz3).2.1 := by show ql6 (l.getD (j + 1) zz3).2.1 = _; rw [s4]
    have cw := c.2.2.2.2
    have wl := ql8 (l.getD j zz3).2.1
    by_cases g1 : q < cst (l.getD j zz3) + 2 * cwd (l.getD j zz3)
    · rw [if_pos (show q < cst (par (l.getD j zz3)) + cwd (par (l.getD j zz3)) by omega), if_pos (by omega)]
    · rw [if_neg (by omega), if_neg (by omega), if_neg (by omega), if_neg (by omega)]
def far (a b : Int) : Int := max (a - b) (b - a)
def muF (l m : List Cell) (n : Nat) : Int := far (lvp l n) (lvp m n)
def mu (r : Int) (l m : List Cell) : Int := qk9 (muF l m) (16 * r).toNat
theorem qlb {f g : Nat → Int} : ∀ (n i : Nat), (∀ j, j < n → f j ≤ g j) → i < n → f i < g i → qk9 f n < qk9 g n
  | 0, i, h, hi, hl => by omega
  | n + 1, i, h, hi, hl => by
    have a := qla n fun j hj => h j (by omega)
    have b := h n (by omega)
    simp only [qk9]
    by_cases e : i = n
    · subst e; omega
    · have := qlb n i (fun j hj => h j (by omega)) (by omega) hl; omega
def rmS (m : List Cell) (s : S3) : S3 := if qiu m (s.1.getD (qk5 m s.1).toNat zz3) < 0 then rfS s (qk5 m s.1).toNat else cmS s (deep s.1 (m.getD (qiu m (s.1.getD (qk5 m s.1).toNat zz3)).toNat zz3)).toNat
def rmN (m : List Cell) : Nat → S3 → S3
  | 0, s => s
  | n + 1, s => if qk5 m s.1 < 0 then s else rmN m n (rmS m s)
def qma (m : List Cell) (x : Cell) : Bool := m.any fun y => decide (y ≠ x) && cov x y
theorem qmb (m : List Cell) (x : Cell) : qma m x = true ↔ ∃ y ∈ m, y ≠ x ∧ cov x y = true := by
  unfold qma
  rw [List.any_eq_true]
  refine ⟨fun ⟨y, hy, e⟩ => ?_, fun ⟨y, hy, e1, e2⟩ => ⟨y, hy, ?_⟩⟩
  · simp only [Bool.and_eq_true, decide_eq_true_eq] at e; exact ⟨y, hy, e.1, e.2⟩
  · simp only [Bool.and_eq_true, decide_eq_true_eq]; exact ⟨e1, e2⟩
theorem qlm {r : Int} {s : S3} {b : List Int} (U : StU r s b) {m : List Cell} (hm : qh1 r 0 m = true) : Two r s.1 m := by
  have a := qh3.1 U.mesh; have c := qh3.1 hm
  exact ⟨a.1, c.1, by rw [a.2.2, c.2.2]⟩
structure RmC (r : Int) (m : List Cell) (s : S3) (i : Nat) : Prop where
  e : qk5 m s.1 = (i : Int)
  hi : i < s.1.length
  nm : s.1.getD i zz3 ∉ m
theorem qjp {r : Int} {s : S3} {b : List Int} (U : StU r s b) {m : List Cell} (hm : qh1 r 0 m = true) (h : ¬ qk5 m s.1 < 0) : ∃ i : Nat, RmC r m s i ∧
    ((qiu m (s.1.getD i zz3) = -1 ∧ qma m (s.1.getD i zz3) = true ∧ qgp s.1 i < 4 ∧ rmS m s = rfS s i) ∨
     ∃ k j : Nat, qiu m (s.1.getD i zz3) = (k : Int) ∧ k < m.length ∧ cov (m.getD k zz3) (s.1.getD i zz3) = true ∧ qma m (s.1.getD i zz3) = false ∧ deep s.1 (m.getD k zz3) = (j : Int) ∧ j + 1 < s.1.length ∧ sib (s.1.getD j zz3) (s.1.getD (j + 1) zz3) = true ∧ rmS m s = cmS s j) := by
  have T := qlm U hm
  rcases qk6 m s.1 with ⟨e, _⟩ | ⟨i, hi, e, nm⟩
  · rw [e] at h; omega
  refine ⟨i, ⟨e, hi, nm⟩, ?_⟩
  rcases qfd (fun y => cov y (s.1.getD i zz3)) m 0 with ⟨eo, no⟩ | ⟨k, hk, eo, co⟩
  · left
    have eo' : qiu m (s.1.getD i zz3) = -1 := eo
    have w : qma m (s.1.getD i zz3) = true := by
      rw [qmb]
      rcases qid T hi nm with ⟨y, hy, c⟩ | ⟨y, hy, c⟩
      · rw [no y hy] at c; cases c
      · exact ⟨y, hy, c⟩
    obtain ⟨y, hy, ne, c⟩ := (qmb _ _).1 w
    refine ⟨eo', w, (qk0 T hi nm hy c).1, ?_⟩
    unfold rmS
    rw [e, Int.toNat_natCast, eo', if_pos (by omega)]
  · right
    rw [Nat.zero_add] at eo
    have eo' : qiu m (s.1.getD i zz3) = (k : Int) := eo
    obtain ⟨j, ej, hj, sj, _⟩ := qc5 T hi nm (qfj hk zz3) co
    refine ⟨k, j, eo', hk, co, ?_, ej, hj, sj, ?_⟩
    · rw [← Bool.not_eq_true, qmb]
      rintro ⟨y, hy, ne, c⟩
      exact qic T hi nm (qfj hk zz3) hy co c
    · unfold rmS
      rw [e, Int.toNat_natCast, eo', if_neg (by omega), Int.toNat_natCast, ej, Int.toNat_natCast]
theorem rm_V {r : Int} {s : S3} {b : List Int} {M S : Int} (V : StV r s b M S) {m : List Cell} (hm : qh1 r 0 m = true) (h : ¬ qk5 m s.1 < 0) : StV r (rmS m s) b M S := by
  obtain ⟨i, C, ⟨_, _, hl, e⟩ | ⟨k, j, _, _, _, _, _, hj, sj, e⟩⟩ := qjp V.u hm h
  · rw [e]; exact rf_V V C.hi hl
  · rw [e]; exact cm_V V hj sj
set_option maxHeartbeats 1000000 in
theorem qjq {r : Int} {s : S3} {b : List Int} (U : StU r s b) {m : List Cell} (hm : qh1 r 0 m = true) (h : ¬ qk5 m s.1 < 0) : mu r (rmS m s).1 m < mu r s.1 m := by
  have T := qlm U hm
  have en := (qh3.1 U.mesh).2.2
  obtain ⟨i, C, ⟨_, w, hl, e⟩ | ⟨k, j, _, hk, ck, _, ej, hj, sj, e⟩⟩ := qjp U hm h
  · rw [e]
    obtain ⟨y, hy, ne, c⟩ := (qmb _ _).1 w
    have so := qk0 T C.hi C.nm hy c
    have ix := qio T.l C.hi
    have wx := qc1 ix
    have rx := qip T.l C.hi
    have key : ∀ q : Nat, q < (16 * r).toNat → cst (s.1.getD i zz3) ≤ q → (q : Int) < cst (s.1.getD i zz3) + cwd (s.1.getD i zz3) → muF (qkx s.1 i) m q < muF s.1 m q := by
      intro q hq h1 h2
      obtain ⟨k, hk, k1, k2⟩ := qil T.m (q := (q : Int)) (by omega) (by rw [← T.e, en]; omega)
      have d := so.2 k q hk k1 k2 h1 h2
      unfold muF
      rw [qgz T.l C.hi hl (by omega), if_pos ⟨h1, h2⟩, qgu T.l C.hi h1 h2, qgu T.m hk k1 k2]
      unfold far; omega
    refine qlb _ (cst (s.1.getD i zz3)).toNat (fun q hq => ?_) (by omega) (key _ (by omega) (by omega) (by omega))
    by_cases g : cst (s.1.getD i zz3) ≤ q ∧ (q : Int) < cst (s.1.getD i zz3) + cwd (s.1.getD i zz3)
    · exact Int.le_of_lt (key q hq g.1 g.2)
    · show far (lvp (qkx s.1 i) q) _ ≤ far (lvp s.1 q) _
      rw [qgz T.l C.hi hl (by omega), if_neg g]; exact Int.le_refl _
  · rw [e]
    obtain ⟨j', ej', hj', sj', dl, d1, d2⟩ := qc5 T C.hi C.nm (qfj hk zz3) ck
    rw [ej] at ej'
    have : j = j' := by omega
    subst this
    have ix := qio T.l (show j < s.1.length by omega)
    have wx := qc1 ix
    have rx := qip T.l (show j < s.1.length by omega)
    have ry := qip T.m hk
    have em := (qh3.1 hm).2.2
    have st1 := qis T.l hj
    have w1 : cwd (s.1.getD (j + 1) zz3) = cwd (s.1.getD j zz3) := by
      simp only [sib, Bool.and_eq_true, decide_eq_true_eq] at sj
      show ql6 (s.1.getD (j + 1) zz3).2.1 = ql6 (s.1.getD j zz3).2.1
      rw [sj.2.2.2.1]
    have l1 : (s.1.getD (j + 1) zz3).2.1 = (s.1.getD j zz3).2.1 := by
      simp only [sib, Bool.and_eq_true, decide_eq_true_eq] at sj
      exact sj.2.2.2.1.symm
    have key : ∀ q : Nat, q < (16 * r).toNat → cst (s.1.getD j zz3) ≤ q → (q : Int) < cst (s.1.getD j zz3) + 2 * cwd (s.1.getD j zz3) → muF (qhy s.1 j) m q < muF s.1 m q := by
      intro q hq h1 h2
      have lq : lvp s.1 q = (s.1.getD j zz3).2.1 := by
        by_cases g : (q : Int) < cst (s.1.getD j zz3) + cwd (s.1.getD j zz3)
        · exact qgu T.l (by omega) h1 g
        · rw [qgu T.l hj (by omega) (by omega), l1]
      unfold muF
      rw [qgy T.l hj sj (by omega), if_pos ⟨h1, h2⟩, lq, qgu T.m hk (by omega) (by omega)]
      unfold far; omega
    refine qlb _ (cst (s.1.getD j zz3)).toNat (fun q hq => ?_) (by omega) (key _ (by omega) (by omega) (by omega))
    by_cases g : cst (s.1.getD j zz3) ≤ q ∧ (q : Int) < cst (s.1.getD j zz3) + 2 * cwd (s.1.getD j zz3)
    · exact Int.le_of_lt (key q hq g.1 g.2)
    · show far (lvp (qhy s.1 j) q) _ ≤ far (lvp s.1 q) _
      rw [qgy T.l hj sj (by omega), if_neg g]; exact Int.le_refl _
theorem qh9 (r : Int) (l m : List Cell) : 0 ≤ mu r l m := qlc _ fun j _ => by unfold muF far; omega
theorem qgw : ∀ {l : List Cell} {p : Int} (q : Int), okp p l = true → 0 ≤ lvp l q ∧ lvp l q ≤ 4
  | [], p, q, h => by unfold lvp; omega
  | x :: l, p, q, h => by
    rw [qim] at h
    have := (qfm.1 h.1).2.1
    unfold lvp
    split
    · exact this
    · exact qgw q h.2.2
theorem qh8 {r : Int} {l m : List Cell} (T : Two r l m) (hr : 0 ≤ r ∧ r ≤ 8) : mu r l m ≤ 512 := by
  have : ∀ n : Nat, qk9 (muF l m) n ≤ 4 * n := by
    intro n
    induction n with
    | zero => simp [qk9]
    | succ n ih =>
      have a := qgw (n : Int) T.l; have b := qgw (n : Int) T.m
      simp only [qk9, muF, far]; omega
  have := this (16 * r).toNat
  unfold mu; omega
theorem qjm {r : Int} {b : List Int} {M S : Int} {m : List Cell} (hm : qh1 r 0 m = true) : ∀ (n : Nat) (s : S3), StV r s b M S → mu r s.1 m < n → StV r (rmN m n s) b M S ∧ qk5 m (rmN m n s).1 < 0
  | 0, s, V, h => by have := qh9 r s.1 m; omega
  | n + 1, s, V, h => by
    unfold rmN
    by_cases g : qk5 m s.1 < 0
    · rw [if_pos g]; exact ⟨V, g⟩
    · rw [if_neg g]
      exact qjm hm n _ (rm_V V hm g) (by have := qjq V.u hm g; omega)
theorem qkp : ∀ (l m : List Cell) (p : Int), okp p l = true → okp p m = true → endp p l = endp p m → (∀ x ∈ l, x ∈ m) → l = m
  | [], [], p, _, _, _, _ => rfl
  | [], y :: m, p, h1, h2, he, hs => by
    rw [qim] at h2
    have := qfb m _ h2.2.2; have w : 1 ≤ ql6 y.2.1 := qc1 h2.1
    have e : endp p [] = p := rfl
    rw [qfa] at he; omega
  | x :: l, [], p, h1, h2, he, hs => by have := hs x (by simp); cases this
  | x :: l, y :: m, p, h1, h2, he, hs => by
    have h1' := h1; have h2' := h2
    rw [qim] at h1 h2
    rw [qfa, qfa] at he
    have wx : 1 ≤ ql6 x.2.1 := qc1 h1.1; have wy : 1 ≤ ql6 y.2.1 := qc1 h2.1
    have hxy : x = y := by
      rcases List.mem_cons.1 (hs x (by simp)) with e | e
      · exact e
      · have := qin m _ h2.2.2 x e; omega
    subst hxy
    rw [qkp l m _ h1.2.2 h2.2.2 he fun z hz => by
      rcases List.mem_cons.1 (hs z (by simp [hz])) with e | e
      · have := qin l _ h1.2.2 z hz; rw [e] at this; omega
      · exact e]
theorem qjn {r : Int} {s : S3} {b : List Int} {M S : Int} {m : List Cell} (hm : qh1 r 0 m = true) (V : StV r s b M S) (h : qk5 m s.1 < 0) : s.1 = m := by
  have T := qlm V.u hm
  rcases qk6 m s.1 with ⟨_, n⟩ | ⟨i, _, e, _⟩
  · exact qkp _ _ 0 T.l T.m T.e n
  · omega
def rmp (m : List Cell) (s : S3) : S3 := rmN m 513 s
theorem qjs {r : Int} {s : S3} {b : List Int} (F : StF r s.1 s.2.1 s.2.2 b) {m : List Cell} (hm : qh1 r 0 m = true) (hu : unb m < 0) : StF r (rmp m s).1 (rmp m s).2.1 (rmp m s).2.2 b ∧ (rmp m s).1 = m ∧ isum (rmp m s).2.1 = isum s.2.1 ∧ isum (rmp m s).2.2 = isum s.2.2 := by
  have V : StV r s b (isum s.2.1) (isum s.2.2) := ⟨F.toU, rfl, rfl⟩
  have rr := F.rr
  have := qh8 (qlm V.u hm) (by omega)
  have W := qjm hm 513 s V (by omega)
  have e := qjn hm W.1 W.2
  exact ⟨W.1.u.toF (by rw [e]; exact hu), e, W.1.m, W.1.t⟩
end Go.Proofs.Ytfgccfajhedgdaa
end
section
namespace Go.Proofs.Ytfgccfajhedgdaa
open Go.Ev
def rowN (r L : Int) : Nat → List Cell
  | 0 => []
  | n + 1 => rowN r L n ++ [(r, L, (n : Int))]
def uni (L : Int) (w : Nat) : Nat → List Cell
  | 0 => []
  | n + 1 => uni L w n ++ rowN (n : Int) L w
theorem qjw (r L : Int) : ∀ n, (rowN r L n).length = n
  | 0 => rfl
  | n + 1 => by simp [rowN, qjw r L n]
theorem qlw (L : Int) (w : Nat) : ∀ n, (uni L w n).length = n * w
  | 0 => by simp [uni]
  | n + 1 => by rw [uni, List.length_append, qlw L w n, qjw, Nat.succ_mul]
theorem qlv : ((List.range 8).all fun r => (List.range 5).all fun L => qh1 ((r + 1 : Nat) : Int) 0 (uni (L : Int) (2 ^ L) (r + 1)) && decide (unb (uni (L : Int) (2 ^ L) (r + 1)) < 0)) = true := by decide +kernel
theorem qlz {r L : Nat} (hr : 1 ≤ r ∧ r ≤ 8) (hL : L ≤ 4) : qh1 (r : Int) 0 (uni (L : Int) (2 ^ L) r) = true ∧ unb (uni (L : Int) (2 ^ L) r) < 0 := by
  have h := qlv
  rw [List.all_eq_true] at h
  have h1 := h (r - 1) (List.mem_range.2 (by omega))
  rw [List.all_eq_true] at h1
  have h2 := h1 L (List.mem_range.2 (by omega))
  rw [show r - 1 + 1 = r by omega, Bool.and_eq_true, decide_eq_true_eq] at h2
  exact h2
end Go.Proofs.Ytfgccfajhedgdaa
end
section
namespace Go.Proofs.Ytfgccfajhedgdaa
open Go.Ev
def qjy (x0 x1 x2 : Int) (z3 : Bool) (l4 : List (Int × Int × Int)) (x5 : Int) (z6 : Bool) (l7 : List (Int × Int × Int)) (x8 : Int) : St := ⟨fill 41 [(1, (.int .i64 (x0))), (4, (.ptr 1 (0) (0))), (6, (.ptr 3 (0) (0))), (20, (.int .i64 (x1))), (21, (.int .i64 (x2)))], [], [(.arr true (z3) (.r3 (l4))), (.box true [(.int .i64 (x5)), (.sl 0 none)]), (.arr true (z6) (.r3 (l7))), (.box true [(.int .i64 (x8)), (.sl 2 none)])]⟩
def qjz (x0 x1 x2 x3 x4 x5 : Int) (z6 : Bool) (l7 : List (Int × Int × Int)) (x8 : Int) (z9 : Bool) (l10 : List (Int × Int × Int)) (x11 : Int) : St := ⟨fill 41 [(1, (.int .i64 (x0))), (4, (.ptr 1 (0) (0))), (6, (.ptr 3 (0) (0))), (7, (.int .i64 (x1))), (20, (.int .i64 (x2))), (21, (.int .i64 (x3))), (25, (.int .i64 (x4))), (26, (.int .i64 (x5)))], [], [(.arr true (z6) (.r3 (l7))), (.box true [(.int .i64 (x8)), (.sl 0 none)]), (.arr true (z9) (.r3 (l10))), (.box true [(.int .i64 (x11)), (.sl 2 none)])]⟩
theorem qde (k : Nat) (a b : Int) : go (k + 1) impl_MeshNew [(.int .i64 (a)), (.int .i64 (b))] =
 (go k impl_within [(.int .i64 (a)), (.int .i64 ((1 : Int))), (.int .i64 ((8 : Int)))]).bind fun r0 =>
 cond (!bit (nth r0 0))
 (some [(.agg [(.int .i64 (0 : Int)), (.arr true (true) (.r3 ([])))]), (.bool (false))])
 ((go k impl_isLevel [(.int .i64 (b))]).bind fun r1 =>
 cond (!bit (nth r1 0))
 (some [(.agg [(.int .i64 (0 : Int)), (.arr true (true) (.r3 ([])))]), (.bool (false))])
 (lp k impl_MeshNew [] [] 5 k (qjy b a (0 : Int) true ([]) (0 : Int) true ([]) a))) := by kernel_rfl
theorem qfz (k n : Nat) (fu : List (Nat × Nat)) (x0 x1 x2 : Int) (z3 : Bool) (l4 : List (Int × Int × Int)) (x5 : Int) (z6 : Bool) (l7 : List (Int × Int × Int)) (x8 : Int) : lp k impl_MeshNew [] fu 5 (n + 1) (qjy x0 x1 x2 z3 l4 x5 z6 l7 x8) =
 cond (decide (x2 < x1))
 (cond (decide ((0 : Int) ≤ x0))
 (lp k impl_MeshNew [] ((5, n) :: fu) 8 k (qjz x0 x2 x1 x2 (IntKind.wrap .i64 ((1 : Int) * (2 : Int) ^ shiftN .i64 x0)) (0 : Int) z3 l4 x5 z6 l7 x8))
 (none))
 (some [(.agg [(.int .i64 (x8)), (.arr true (z6) (.r3 (l7)))]), (.bool (true))]) := by kernel_rfl
theorem qf0 (k n : Nat) (fu : List (Nat × Nat)) (x0 x1 x2 x3 x4 x5 : Int) (z6 : Bool) (l7 : List (Int × Int × Int)) (x8 : Int) (z9 : Bool) (l10 : List (Int × Int × Int)) (x11 : Int) : lp k impl_MeshNew [] fu 8 (n + 1) (qjz x0 x1 x2 x3 x4 x5 z6 l7 x8 z9 l10 x11) =
 cond (decide (x5 < x4))
 (cond (decide (List.length (l10 ++ [(x1, x0, x5)]) ≤ bigLen))
 (lp k impl_MeshNew [] fu 8 n (qjz x0 x1 x2 x3 x4 (IntKind.wrap .i64 (x5 + (1 : Int))) z6 l7 x8 (z9 && decide (List.length (l10 ++ [(x1, x0, x5)]) = 0)) (l10 ++ [(x1, x0, x5)]) x11))
 (none))
 (lp k impl_MeshNew [] fu 5 (fuelOf fu 5) (qjy x0 x2 (IntKind.wrap .i64 (x3 + (1 : Int))) z6 l7 x8 z9 l10 x11)) := by kernel_rfl
theorem qc9 (k : Nat) (a0 a1 a2 b0 b1 b2 : Int) : go (k + 1) impl_Contains [(.agg [(.int .i64 (a0)), (.int .i64 (a1)), (.int .i64 (a2))]), (.agg [(.int .i64 (b0)), (.int .i64 (b1)), (.int .i64 (b2))])] =
 (go k impl_IdOk [(.agg [(.int .i64 (a0)), (.int .i64 (a1)), (.int .i64 (a2))])]).bind fun r0 =>
 cond (bit (nth r0 0))
 ((go k impl_IdOk [(.agg [(.int .i64 (b0)), (.int .i64 (b1)), (.int .i64 (b2))])]).bind fun r1 =>
 cond (bit (nth r1 0))
 (cond (decide (a0 = b0))
 (cond (decide (a1 ≤ b1))
 (cond (decide ((0 : Int) ≤ IntKind.wrap .i64 (b1 - a1)))
 (some [(.bool (decide (Int.fdiv b2 ((2 : Int) ^ shiftN .i64 (IntKind.wrap .i64 (b1 - a1))) = a2)))])
 (none))
 (some [(.bool (false))]))
 (some [(.bool (false))]))
 (some [(.bool (false))]))
 (some [(.bool (false))]) := by kernel_rfl
theorem qdd (k : Nat) (a0 : Int) (a1z : Bool) (a1 : List (Int × Int × Int)) (b0 b1 b2 : Int) : go (k + 1) impl_LeafOf [(.agg [(.int .i64 (a0)), (.arr false (a1z) (.r3 (a1)))]), (.agg [(.int .i64 (b0)), (.int .i64 (b1)), (.int .i64 (b2))])] =
 (go k slices_Index_impl_Id_impl_Id [(.arr false (a1z) (.r3 (a1))), (.agg [(.int .i64 (b0)), (.int .i64 (b1)), (.int .i64 (b2))])]).bind fun r0 =>
 some [(.int .i64 (D.toInt (nth r0 0)))] := by kernel_rfl
def qkc (x0 x1 : Int) (z2 : Bool) (l3 : List (Int × Int × Int)) (x4 x5 x6 : Int) : St := ⟨fill 19 [(0, (.sl 0 none)), (3, (.ptr 1 (0) (0))), (7, (.int .i64 (x0))), (8, (.int .i64 (x1)))], [], [(.arr false (z2) (.r3 (l3))), (.box true [(.int .i64 (x4)), (.int .i64 (x5)), (.int .i64 (x6))])]⟩
theorem qeh (k : Nat) (az : Bool) (a : List (Int × Int × Int)) (b0 b1 b2 : Int) : go (k + 1) slices_Index_impl_Id_impl_Id [(.arr false (az) (.r3 (a))), (.agg [(.int .i64 (b0)), (.int .i64 (b1)), (.int .i64 (b2))])] =
 lp k slices_Index_impl_Id_impl_Id [] [] 2 k (qkc (nI (List.length a)) (0 : Int) az a b0 b1 b2) := by kernel_rfl
theorem qgd (k n : Nat) (fu : List (Nat × Nat)) (x0 x1 : Int) (z2 : Bool) (l3 : List (Int × Int × Int)) (x4 x5 x6 : Int) : lp k slices_Index_impl_Id_impl_Id [] fu 2 (n + 1) (qkc x0 x1 z2 l3 x4 x5 x6) =
 cond (decide (x1 < x0))
 (cond (decide ((0 : Int) ≤ x1) && decide (x1 < nI (List.length l3)))
 (cond (decide (x4 = Prod.fst (List.getD l3 (Int.toNat x1) zz3)) && (decide (x5 = Prod.fst (Prod.snd (List.getD l3 (Int.toNat x1) zz3))) && (decide (x6 = Prod.snd (Prod.snd (List.getD l3 (Int.toNat x1) zz3))) && true)))
 (some [(.int .i64 (x1))])
 (lp k slices_Index_impl_Id_impl_Id [] fu 2 n (qkc x0 (IntKind.wrap .i64 (x1 + (1 : Int))) z2 l3 x4 x5 x6)))
 (none))
 (some [(.int .i64 ((-1 : Int)))]) := by kernel_rfl
def qj4 (z0 : Bool) (l1 : List (Int × Int × Int)) (x2 : Int) (z3 : Bool) (l4 : List (Int × Int × Int)) (z5 : Bool) (l6 : List Int) (z7 : Bool) (l8 : List Int) (z9 : Bool) (l10 : List Int) (x11 : Int) (z12 : Bool) (l13 : List (Int × Int × Int)) (z14 : Bool) (l15 : List Int) (z16 : Bool) (l17 : List Int) (z18 : Bool) (l19 : List Int) (x20 : Int) : St := ⟨fill 38 [(3, (.ptr 1 (0) (0))), (4, (.ptr 6 (0) (0))), (6, (.ptr 11 (0) (0)))], [], [(.arr false (z0) (.r3 (l1))), (.box true [(.int .i64 (x2)), (.sl 0 none)]), (.arr true (z3) (.r3 (l4))), (.arr true (z5) (.ints .i64 (l6))), (.arr true (z7) (.ints .i64 (l8))), (.arr true (z9) (.ints .i64 (l10))), (.box true [(.int .i64 (x11)), (.sl 2 none), (.sl 3 none), (.sl 4 none), (.sl 5 none)]), (.arr true (z12) (.r3 (l13))), (.arr true (z14) (.ints .i64 (l15))), (.arr true (z16) (.ints .i64 (l17))), (.arr true (z18) (.ints .i64 (l19))), (.box true [(.int .i64 (x20)), (.sl 7 none), (.sl 8 none), (.sl 9 none), (.sl 10 none)])]⟩
theorem qdl (k : Nat) (a0 : Int) (a1z : Bool) (a1 : List (Int × Int × Int)) (a2z : Bool) (a2 : List Int) (a3z : Bool) (a3 : List Int) (a4z : Bool) (a4 : List Int) (b0 : Int) (b1z : Bool) (b1 : List (Int × Int × Int)) : go (k + 1) impl_RemapState [(.agg [(.int .i64 (a0)), (.arr false (a1z) (.r3 (a1))), (.arr false (a2z) (.ints .i64 (a2))), (.arr false (a3z) (.ints .i64 (a3))), (.arr false (a4z) (.ints .i64 (a4)))]), (.agg [(.int .i64 (b0)), (.arr false (b1z) (.r3 (b1)))])] =
 (go k impl_StateOk [(.agg [(.int .i64 (a0)), (.arr false (a1z) (.r3 (a1))), (.arr false (a2z) (.ints .i64 (a2))), (.arr false (a3z) (.ints .i64 (a3))), (.arr false (a4z) (.ints .i64 (a4)))])]).bind fun r0 =>
 cond (!bit (nth r0 0))
 (some [(.agg [(.int .i64 (0 : Int)), (.arr true (true) (.r3 ([]))), (.arr true (true) (.ints .i64 ([]))), (.arr true (true) (.ints .i64 ([]))), (.arr true (true) (.ints .i64 ([])))]), (.bool (false))])
 ((go k impl_IsBalanced [(.agg [(.int .i64 (b0)), (.arr false (b1z) (.r3 (b1)))])]).bind fun r1 =>
 cond (!bit (nth r1 0))
 (some [(.agg [(.int .i64 (0 : Int)), (.arr true (true) (.r3 ([]))), (.arr true (true) (.ints .i64 ([]))), (.arr true (true) (.ints .i64 ([]))), (.arr true (true) (.ints .i64 ([])))]), (.bool (false))])
 (cond (!decide (a0 = b0))
 (some [(.agg [(.int .i64 (0 : Int)), (.arr true (true) (.r3 ([]))), (.arr true (true) (.ints .i64 ([]))), (.arr true (true) (.ints .i64 ([]))), (.arr true (true) (.ints .i64 ([])))]), (.bool (false))])
 ((go k impl_copyState [(.agg [(.int .i64 (a0)), (.arr false (a1z) (.r3 (a1))), (.arr false (a2z) (.ints .i64 (a2))), (.arr false (a3z) (.ints .i64 (a3))), (.arr false (a4z) (.ints .i64 (a4)))])]).bind fun r2 =>
 lp k impl_RemapState [] [] 4 k (qj4 b1z b1 b0 true ([]) true ([]) true ([]) true ([]) (0 : Int) (D.nil (D.cell 1 (nth r2 0))) (D.r3 (D.cell 1 (nth r2 0))) (D.nil (D.cell 2 (nth r2 0))) (D.ints (D.cell 2 (nth r2 0))) (D.nil (D.cell 3 (nth r2 0))) (D.ints (D.cell 3 (nth r2 0))) (D.nil (D.cell 4 (nth r2 0))) (D.ints (D.cell 4 (nth r2 0))) (D.toInt (D.cell 0 (nth r2 0))))))) := by kernel_rfl
theorem qf5 (k n : Nat) (fu : List (Nat × Nat)) (z0 : Bool) (l1 : List (Int × Int × Int)) (x2 : Int) (z3 : Bool) (l4 : List (Int × Int × Int)) (z5 : Bool) (l6 : List Int) (z7 : Bool) (l8 : List Int) (z9 : Bool) (l10 : List Int) (x11 : Int) (z12 : Bool) (l13 : List (Int × Int × Int)) (z14 : Bool) (l15 : List Int) (z16 : Bool) (l17 : List Int) (z18 : Bool) (l19 : List Int) (x20 : Int) : lp k impl_RemapState [] fu 4 (n + 1) (qj4 z0 l1 x2 z3 l4 z5 l6 z7 l8 z9 l10 x11 z12 l13 z14 l15 z16 l17 z18 l19 x20) =
 (go k slices_IndexFunc_impl_Id_impl_Id [(.arr false (z12) (.r3 (l13))), (.fn impl_RemapState_1 [(.ptr false [(.int .i64 (x2)), (.arr false (z0) (.r3 (l1)))])])]).bind fun r0 =>
 cond (decide (D.toInt (nth r0 0) < (0 : Int)))
 (some [(.agg [(.int .i64 (x20)), (.arr true (z12) (.r3 (l13))), (.arr true (z14) (.ints .i64 (l15))), (.arr true (z16) (.ints .i64 (l17))), (.arr true (z18) (.ints .i64 (l19)))]), (.bool (true))])
 ((go k impl_State_remap [(.ptr true [(.int .i64 (x20)), (.arr true (z12) (.r3 (l13))), (.arr true (z14) (.ints .i64 (l15))), (.arr true (z16) (.ints .i64 (l17))), (.arr true (z18) (.ints .i64 (l19)))]), (.agg [(.int .i64 (x2)), (.arr false (z0) (.r3 (l1)))]), (.int .i64 (D.toInt (nth r0 0)))]).bind fun r1 =>
 lp k impl_RemapState [] fu 4 n (qj4 z0 l1 x2 z3 l4 z5 l6 z7 l8 z9 l10 x11 (D.nil (D.cell 1 (nth r1 0))) (D.r3 (D.cell 1 (nth r1 0))) (D.nil (D.cell 2 (nth r1 0))) (D.ints (D.cell 2 (nth r1 0))) (D.nil (D.cell 3 (nth r1 0))) (D.ints (D.cell 3 (nth r1 0))) (D.nil (D.cell 4 (nth r1 0))) (D.ints (D.cell 4 (nth r1 0))) (D.toInt (D.cell 0 (nth r1 0))))) := by kernel_rfl
theorem qdm (k : Nat) (v0 v1 v2 v3 : Int) (v4 : Bool) (v5 : List (Int × Int × Int)) : go (k + 1) impl_RemapState_1 [(.agg [(.int .i64 (v0)), (.int .i64 (v1)), (.int .i64 (v2))]), (.ptr false [(.int .i64 (v3)), (.arr false (v4) (.r3 (v5)))])] =
 (go k impl_LeafOf [(.agg [(.int .i64 (v3)), (.arr false (v4) (.r3 (v5)))]), (.agg [(.int .i64 (v0)), (.int .i64 (v1)), (.int .i64 (v2))])]).bind fun r0 =>
 some [(.bool (decide (D.toInt (nth r0 0) < (0 : Int))))] := by kernel_rfl
def qj6 (x0 x1 x2 x3 : Int) (z4 : Bool) (l5 : List (Int × Int × Int)) (z6 : Bool) (l7 : List Int) (z8 : Bool) (l9 : List Int) (z10 : Bool) (l11 : List Int) (x12 : Int) (z13 : Bool) (l14 : List (Int × Int × Int)) (x15 : Int) : St := ⟨fill 69 [(0, (.ptr 4 (0) (0))), (4, (.ptr 6 (0) (0))), (7, (.int .i64 (x0))), (8, (.int .i64 (x1))), (32, (.sl 0 none)), (33, (.int .i64 (x2))), (34, (.int .i64 (x3)))], [(.ptr 4 (0) (0))], [(.arr true (z4) (.r3 (l5))), (.arr true (z6) (.ints .i64 (l7))), (.arr true (z8) (.ints .i64 (l9))), (.arr true (z10) (.ints .i64 (l11))), (.box true [(.int .i64 (x12)), (.sl 0 none), (.sl 1 none), (.sl 2 none), (.sl 3 none)]), (.arr false (z13) (.r3 (l14))), (.box true [(.int .i64 (x15)), (.sl 5 none)])]⟩
theorem qdv (k : Nat) (a0 : Int) (a1z : Bool) (a1 : List (Int × Int × Int)) (a2z : Bool) (a2 : List Int) (a3z : Bool) (a3 : List Int) (a4z : Bool) (a4 : List Int) (b0 : Int) (b1z : Bool) (b1 : List (Int × Int × Int)) (c : Int) : go (k + 1) impl_State_remap [(.ptr true [(.int .i64 (a0)), (.arr true (a1z) (.r3 (a1))), (.arr true (a2z) (.ints .i64 (a2))), (.arr true (a3z) (.ints .i64 (a3))), (.arr true (a4z) (.ints .i64 (a4)))]), (.agg [(.int .i64 (b0)), (.arr false (b1z) (.r3 (b1)))]), (.int .i64 (c))] =
 cond (decide ((0 : Int) ≤ c) && decide (c < nI (List.length a1)))
 ((go k slices_IndexFunc_impl_Id_impl_Id [(.arr false (b1z) (.r3 (b1))), (.fn impl_State_remap_1 [(.ptr false [(.int .i64 (Prod.fst (List.getD a1 (Int.toNat c) zz3))), (.int .i64 (Prod.fst (Prod.snd (List.getD a1 (Int.toNat c) zz3)))), (.int .i64 (Prod.snd (Prod.snd (List.getD a1 (Int.toNat c) zz3))))])])]).bind fun r0 =>
 cond (decide (D.toInt (nth r0 0) < (0 : Int)))
 ((go k impl_State_refine [(.ptr true [(.int .i64 (a0)), (.arr true (a1z) (.r3 (a1))), (.arr true (a2z) (.ints .i64 (a2))), (.arr true (a3z) (.ints .i64 (a3))), (.arr true (a4z) (.ints .i64 (a4)))]), (.int .i64 (c))]).bind fun r1 =>
 some [(.ptr true [(.int .i64 (D.toInt (D.cell 0 (nth r1 0)))), (.arr true (D.nil (D.cell 1 (nth r1 0))) (.r3 (D.r3 (D.cell 1 (nth r1 0))))), (.arr true (D.nil (D.cell 2 (nth r1 0))) (.ints .i64 (D.ints (D.cell 2 (nth r1 0))))), (.arr true (D.nil (D.cell 3 (nth r1 0))) (.ints .i64 (D.ints (D.cell 3 (nth r1 0))))), (.arr true (D.nil (D.cell 4 (nth r1 0))) (.ints .i64 (D.ints (D.cell 4 (nth r1 0)))))])])
 (lp k impl_State_remap [(.ptr true [(.int .i64 (a0)), (.arr true (a1z) (.r3 (a1))), (.arr true (a2z) (.ints .i64 (a2))), (.arr true (a3z) (.ints .i64 (a3))), (.arr true (a4z) (.ints .i64 (a4)))])] [] 7 k (qj6 (D.toInt (nth r0 0)) ((-1 : Int)) (nI (List.length a1)) (0 : Int) a1z a1 a2z a2 a3z a3 a4z a4 a0 b1z b1 b0)))
 (none) := by kernel_rfl
theorem qf7 (k n : Nat) (fu : List (Nat × Nat)) (a0 : Int) (a1z : Bool) (a1 : List (Int × Int × Int)) (a2z : Bool) (a2 : List Int) (a3z : Bool) (a3 : List Int) (a4z : Bool) (a4 : List Int) (x0 x1 x2 x3 : Int) (z4 : Bool) (l5 : List (Int × Int × Int)) (z6 : Bool) (l7 : List Int) (z8 : Bool) (l9 : List Int) (z10 : Bool) (l11 : List Int) (x12 : Int) (z13 : Bool) (l14 : List (Int × Int × Int)) (x15 : Int) : lp k impl_State_remap [(.ptr true [(.int .i64 (a0)), (.arr true (a1z) (.r3 (a1))), (.arr true (a2z) (.ints .i64 (a2))), (.arr true (a3z) (.ints .i64 (a3))), (.arr true (a4z) (.ints .i64 (a4)))])] fu 7 (n + 1) (qj6 x0 x1 x2 x3 z4 l5 z6 l7 z8 l9 z10 l11 x12 z13 l14 x15) =
 cond (decide (x3 < x2))
 (cond (decide ((0 : Int) ≤ x3) && decide (x3 < nI (List.length l5)))
 (cond (decide ((0 : Int) ≤ x0) && decide (x0 < nI (List.length l14)))
 ((go k impl_Contains [(.agg [(.int .i64 (Prod.fst (List.getD l14 (Int.toNat x0) zz3))), (.int .i64 (Prod.fst (Prod.snd (List.getD l14 (Int.toNat x0) zz3)))), (.int .i64 (Prod.snd (Prod.snd (List.getD l14 (Int.toNat x0) zz3))))]), (.agg [(.int .i64 (Prod.fst (List.getD l5 (Int.toNat x3) zz3))), (.int .i64 (Prod.fst (Prod.snd (List.getD l5 (Int.toNat x3) zz3)))), (.int .i64 (Prod.snd (Prod.snd (List.getD l5 (Int.toNat x3) zz3))))])]).bind fun r0 =>
 cond (bit (nth r0 0))
 (cond (decide (x1 < (0 : Int)))
 (lp k impl_State_remap [(.ptr true [(.int .i64 (a0)), (.arr true (a1z) (.r3 (a1))), (.arr true (a2z) (.ints .i64 (a2))), (.arr true (a3z) (.ints .i64 (a3))), (.arr true (a4z) (.ints .i64 (a4)))])] fu 7 n (qj6 x0 x3 x2 (IntKind.wrap .i64 (x3 + (1 : Int))) z4 l5 z6 l7 z8 l9 z10 l11 x12 z13 l14 x15))
 (cond (decide ((0 : Int) ≤ x1) && decide (x1 < nI (List.length l5)))
 (cond (decide (Prod.fst (Prod.snd (List.getD l5 (Int.toNat x1) zz3)) < Prod.fst (Prod.snd (List.getD l5 (Int.toNat x3) zz3))))
 (lp k impl_State_remap [(.ptr true [(.int .i64 (a0)), (.arr true (a1z) (.r3 (a1))), (.arr true (a2z) (.ints .i64 (a2))), (.arr true (a3z) (.ints .i64 (a3))), (.arr true (a4z) (.ints .i64 (a4)))])] fu 7 n (qj6 x0 x3 x2 (IntKind.wrap .i64 (x3 + (1 : Int))) z4 l5 z6 l7 z8 l9 z10 l11 x12 z13 l14 x15))
 (lp k impl_State_remap [(.ptr true [(.int .i64 (a0)), (.arr true (a1z) (.r3 (a1))), (.arr true (a2z) (.ints .i64 (a2))), (.arr true (a3z) (.ints .i64 (a3))), (.arr true (a4z) (.ints .i64 (a4)))])] fu 7 n (qj6 x0 x1 x2 (IntKind.wrap .i64 (x3 + (1 : Int))) z4 l5 z6 l7 z8 l9 z10 l11 x12 z13 l14 x15)))
 (none)))
 (lp k impl_State_remap [(.ptr true [(.int .i64 (a0)), (.arr true (a1z) (.r3 (a1))), (.arr true (a2z) (.ints .i64 (a2))), (.arr true (a3z) (.ints .i64 (a3))), (.arr true (a4z) (.ints .i64 (a4)))])] fu 7 n (qj6 x0 x1 x2 (IntKind.wrap .i64 (x3 + (1 : Int))) z4 l5 z6 l7 z8 l9 z10 l11 x12 z13 l14 x15)))
 (none))
 (none))
 ((go k impl_State_coarsen [(.ptr true [(.int .i64 (x12)), (.arr true (z4) (.r3 (l5))), (.arr true (z6) (.ints .i64 (l7))), (.arr true (z8) (.ints .i64 (l9))), (.arr true (z10) (.ints .i64 (l11)))]), (.int .i64 (x1))]).bind fun r1 =>
 some [(.ptr true [(.int .i64 (D.toInt (D.cell 0 (nth r1 0)))), (.arr true (D.nil (D.cell 1 (nth r1 0))) (.r3 (D.r3 (D.cell 1 (nth r1 0))))), (.arr true (D.nil (D.cell 2 (nth r1 0))) (.ints .i64 (D.ints (D.cell 2 (nth r1 0))))), (.arr true (D.nil (D.cell 3 (nth r1 0))) (.ints .i64 (D.ints (D.cell 3 (nth r1 0))))), (.arr true (D.nil (D.cell 4 (nth r1 0))) (.ints .i64 (D.ints (D.cell 4 (nth r1 0)))))])]) := by kernel_rfl
theorem qdw (k : Nat) (v0 v1 v2 v3 v4 v5 : Int) : go (k + 1) impl_State_remap_1 [(.agg [(.int .i64 (v0)), (.int .i64 (v1)), (.int .i64 (v2))]), (.ptr false [(.int .i64 (v3)), (.int .i64 (v4)), (.int .i64 (v5))])] =
 (go k impl_Contains [(.agg [(.int .i64 (v0)), (.int .i64 (v1)), (.int .i64 (v2))]), (.agg [(.int .i64 (v3)), (.int .i64 (v4)), (.int .i64 (v5))])]).bind fun r0 =>
 some [(.bool (bit (nth r0 0)))] := by kernel_rfl
theorem qdx (k : Nat) (a0 : Int) (a1z : Bool) (a1 : List (Int × Int × Int)) (a2z : Bool) (a2 : List Int) (a3z : Bool) (a3 : List Int) (a4z : Bool) (a4 : List Int) (b : Int) : go (k + 1) impl_UniformOf [(.agg [(.int .i64 (a0)), (.arr false (a1z) (.r3 (a1))), (.arr false (a2z) (.ints .i64 (a2))), (.arr false (a3z) (.ints .i64 (a3))), (.arr false (a4z) (.ints .i64 (a4)))]), (.int .i64 (b))] =
 (go k impl_MeshNew [(.int .i64 (a0)), (.int .i64 (b))]).bind fun r0 =>
 cond (!bit (nth r0 1))
 (some [(.agg [(.int .i64 (0 : Int)), (.arr true (true) (.r3 ([]))), (.arr true (true) (.ints .i64 ([]))), (.arr true (true) (.ints .i64 ([]))), (.arr true (true) (.ints .i64 ([])))]), (.bool (false))])
 ((go k impl_RemapState [(.agg [(.int .i64 (a0)), (.arr false (a1z) (.r3 (a1))), (.arr false (a2z) (.ints .i64 (a2))), (.arr false (a3z) (.ints .i64 (a3))), (.arr false (a4z) (.ints .i64 (a4)))]), (.agg [(.int .i64 (D.toInt (D.cell 0 (nth r0 0)))), (.arr false (D.nil (D.cell 1 (nth r0 0))) (.r3 (D.r3 (D.cell 1 (nth r0 0)))))])]).bind fun r1 =>
 some [(.agg [(.int .i64 (D.toInt (D.cell 0 (nth r1 0)))), (.arr true (D.nil (D.cell 1 (nth r1 0))) (.r3 (D.r3 (D.cell 1 (nth r1 0))))), (.arr true (D.nil (D.cell 2 (nth r1 0))) (.ints .i64 (D.ints (D.cell 2 (nth r1 0))))), (.arr true (D.nil (D.cell 3 (nth r1 0))) (.ints .i64 (D.ints (D.cell 3 (nth r1 0))))), (.arr true (D.nil (D.cell 4 (nth r1 0))) (.ints .i64 (D.ints (D.cell 4 (nth r1 0)))))]), (.bool (bit (nth r1 1)))]) := by kernel_rfl

end Go.Proofs.Ytfgccfajhedgdaa
end
section
namespace Go.Proofs.Ytfgccfajhedgdaa
open Go.Ev
set_option maxRecDepth 20000
abbrev qcm (x : Cell) : D := .agg [.int .i64 x.1, .int .i64 x.2.1, .int .i64 x.2.2]
theorem qcz {x y : Cell} (hx : cid x = true) (hy : cid y = true) (h : x.2.1 ≤ y.2.1) : Int.fdiv y.2.2 ((2 : Int) ^ shiftN .i64 (y.2.1 - x.2.1)) = y.2.2 / pow2 (y.2.1 - x.2.1) := by
  have a := qfn hx; have b := qfn hy
  have a3 := qfo.1 a.2.2.1; have b3 := qfo.1 b.2.2.1
  rw [shp (qfo.2 (by omega))]
  have p : 0 ≤ pow2 (y.2.1 - x.2.1) := by
    rcases lev (qfo.2 (show 0 ≤ y.2.1 - x.2.1 ∧ y.2.1 - x.2.1 ≤ 4 by omega)) with e | e | e | e | e <;> rw [e] <;> decide
  exact Int.fdiv_eq_ediv_of_nonneg _ p
theorem qao (k : Nat) (hk : 2000000 ≤ k) (x y : Cell) : go (k + 4) impl_Contains [qcm x, qcm y] = some [.bool (cov x y)] := by
  rw [qc9]
  unfold cov
  cases hx : cid x
  · simp (disch := omega) only [qar, hx, bit, qak, nth0, qlj, qct, Bool.false_and]
  cases hy : cid y
  · simp (disch := omega) only [qar, hx, bit, hy, qak, nth0, qlj, qct, qcv, Bool.false_and, Bool.and_false]
  have a := qfn hx; have b := qfn hy
  have a3 := qfo.1 a.2.2.1; have b3 := qfo.1 b.2.2.1
  by_cases h1 : x.1 = y.1
  case neg => simp (disch := omega) only [qar, hx, bit, hy, dF, qmc, qct, qak, nth0, qlj, qcv, Bool.false_and, Bool.and_false]
  by_cases h2 : x.2.1 ≤ y.2.1
  case neg => simp (disch := omega) only [qar, hx, bit, hy, dT, dF, qmc, qct, qcv, qak, nth0, qlj, Bool.false_and, Bool.and_false]
  have e := qcz hx hy h2
  simp (disch := omega) only [qar, hx, bit, hy, dT, qmc, e, qcv, qak, nth0, qlj, Bool.true_and]
theorem qhi (k : Nat) (hk : 2000000 ≤ k) (fu : List (Nat × Nat)) (z : Bool) (l : List Cell) (x : Cell) (hl : l.length ≤ 1048576) : ∀ (N i : Nat), i ≤ l.length → l.length - i < N →
    lp k slices_Index_impl_Id_impl_Id [] fu 2 (N) (qkc (l.length : Int) (i : Int) z l x.1 x.2.1 x.2.2) = some [.int .i64 (qgq x (l.drop i) i)]
  | 0, i, hi, hN => by omega
  | N + 1, i, hi, hN => by
    rw [qgd]
    by_cases g : i < l.length
    · have IH := qhi k hk fu z l x hl N (i + 1) (by omega) (by omega)
      rw [qc6 g zz3, qgq]
      by_cases h : l.getD i zz3 = x
      · rw [if_pos h]; simp (disch := omega) only [dT, nI, Bool.and_true, Int.toNat_natCast, h, dTT, qcf, qmc, qcv]
      · rw [if_neg h]
        have : (decide (x.1 = (l.getD i zz3).1) && (decide (x.2.1 = (l.getD i zz3).2.1) && decide (x.2.2 = (l.getD i zz3).2.2))) = false := by
          rw [← Bool.not_eq_true]
          intro e
          simp only [Bool.and_eq_true, decide_eq_true_eq] at e
          exact h (Prod.ext e.1.symm (Prod.ext e.2.1.symm e.2.2.symm))
        simp (disch := omega) only [dT, nI, Bool.and_true, Int.toNat_natCast, this, qcf, qmc, IH, qct, qcv]
    · rw [List.drop_of_length_le (by omega)]; simp (disch := omega) only [dF, dT, nI, Bool.and_false, Int.toNat_natCast, Bool.and_true, qcf, qmc, qct]; rfl
theorem qat (k : Nat) (hk : 2000000 ≤ k) (r : Int) (z : Bool) (l : List Cell) (x : Cell) (hl : l.length ≤ 1048576) : go (k + 2) impl_LeafOf [.agg [.int .i64 r, .arr false z (.r3 l)], qcm x] = some [.int .i64 (lof l x)] := by
  have e := qhi k (by omega) [] z l x hl (k + 0) 0 (by omega) (by omega)
  rw [show ((0 : Nat) : Int) = 0 from rfl] at e
  simp only [Nat.add_zero, List.drop_zero] at e
  rw [qdd]
  simp (disch := omega) only [qeh, nI, e, qak, nth0, qlk]
  rfl
theorem qhh (k : Nat) (hk : 2000000 ≤ k) (fu : List (Nat × Nat)) (z : Bool) (l : List Cell) (x : Cell) (hl : l.length ≤ 1048576) : ∀ (N i : Nat), i ≤ l.length → l.length - i < N →
    lp (k + 6) slices_IndexFunc_impl_Id_impl_Id [] fu 2 (N) (qka (l.length : Int) (i : Int) z l x.1 x.2.1 x.2.2) = some [.int .i64 (fstG (fun y => cov y x) (l.drop i) i)]
  | 0, i, hi, hN => by omega
  | N + 1, i, hi, hN => by
    rw [qgb]
    by_cases g : i < l.length
    · have IH := qhh k hk fu z l x hl N (i + 1) (by omega) (by omega)
      rw [qc6 g zz3, fstG]
      by_cases h : cov (l.getD i zz3) x = true
      · rw [if_pos h]; simp (disch := omega) only [dT, nI, Bool.and_true, Int.toNat_natCast, qdw, qao, h, bit, qak, nth0, qlj, qcf, qmc, qcv]
      · rw [if_neg h]
        have h : cov (l.getD i zz3) x = false := by simpa using h
        simp (disch := omega) only [dT, nI, Bool.and_true, Int.toNat_natCast, qdw, qao, h, bit, qak, nth0, qlj, qcf, qmc, IH, qct, qcv]
    · rw [List.drop_of_length_le (by omega)]; simp (disch := omega) only [dF, dT, nI, Bool.and_false, Int.toNat_natCast, bit, qcf, qmc, qct]; rfl
theorem qg4 (k : Nat) (hk : 2000000 ≤ k) (fu : List (Nat × Nat)) (z z' : Bool) (l m : List Cell) (r : Int) (hl : l.length ≤ 1048576) (hm : m.length ≤ 1048576) : ∀ (N i : Nat), i ≤ l.length → l.length - i < N →
    lp (k + 6) slices_IndexFunc_impl_Id_impl_Id [] fu 2 (N) (qj9 (l.length : Int) (i : Int) z l z' m r) = some [.int .i64 (fstG (fun x => decide (lof m x < 0)) (l.drop i) i)]
  | 0, i, hi, hN => by omega
  | N + 1, i, hi, hN => by
    rw [qga]
    by_cases g : i < l.length
    · have IH := qg4 k hk fu z z' l m r hl hm N (i + 1) (by omega) (by omega)
      rw [qc6 g zz3, fstG]
      by_cases h : lof m (l.getD i zz3) < 0
      · rw [if_pos (dT h)]; simp (disch := omega) only [dT, nI, Bool.and_true, Int.toNat_natCast, qdm, qat, qak, nth0, qlk, h, dTT, bit, qcf, qmc, qlj, qcv]
      · rw [if_neg (by rw [dF h]; decide)]
        simp (disch := omega) only [dT, nI, Bool.and_true, Int.toNat_natCast, qdm, qat, qak, nth0, qlk, h, dFF, bit, qcf, qmc, IH, qlj, qct, qcv]
    · rw [List.drop_of_length_le (by omega)]; simp (disch := omega) only [dF, dT, nI, Bool.and_false, Int.toNat_natCast, bit, qcf, qmc, qct]; rfl
end Go.Proofs.Ytfgccfajhedgdaa
end
section
namespace Go.Proofs.Ytfgccfajhedgdaa
open Go.Ev
set_option maxRecDepth 20000
theorem qg7 (k : Nat) (hk : 2000000 ≤ k) (fu : List (Nat × Nat)) (L p : Nat) (R : Int) (w : Nat) (hw : 1 ≤ w ∧ w ≤ 16) (hp : p ≤ 7) (z6 : Bool) (l7 : List Cell) (x8 x11 : Int) (acc : List Cell) (ha : acc.length ≤ 1000) : ∀ (N i : Nat) (z : Bool), i ≤ w → w - i < N → (z = false ∨ i = 0) →
    lp (k + 2) impl_MeshNew [] fu 8 (N) (qjz (L : Int) (p : Int) R (p : Int) (w : Int) (i : Int) z6 l7 x8 z (acc ++ rowN (p : Int) (L : Int) i) x11) = lp (k + 2) impl_MeshNew [] fu 5 (fuelOf fu 5) (qjy (L : Int) R ((p + 1 : Nat) : Int) z6 l7 x8 false (acc ++ rowN (p : Int) (L : Int) w) x11)
  | 0, i, z, hi, hN, hz => by omega
  | N + 1, i, z, hi, hN, hz => by
    rw [qf0]
    by_cases g : i < w
    · have IH := qg7 k hk fu L p R w hw hp z6 l7 x8 x11 acc ha N (i + 1) false (by omega) (by omega) (Or.inl rfl)
      have e : acc ++ rowN (p : Int) (L : Int) (i + 1) = acc ++ rowN (p : Int) (L : Int) i ++ [((p : Int), (L : Int), (i : Int))] := by rw [rowN, List.append_assoc]
      rw [e] at IH
      have la : (acc ++ rowN (p : Int) (L : Int) i ++ [((p : Int), (L : Int), (i : Int))]).length = acc.length + i + 1 := by rw [List.length_append, List.length_append, qjw]; rfl
      simp (disch := omega) only [dT, la, big0, qcf, qmc, dF, Bool.and_false, IH, qcv]
    · have hi' : i = w := by omega
      subst hi'
      have hz' : z = false := hz.elim id (fun h => absurd h (by omega))
      subst hz'
      simp (disch := omega) only [dF, big0, qcf, qmc, Bool.false_and, qct]
theorem qll {L : Nat} (hL : L ≤ 4) : (1 ≤ 2 ^ L ∧ 2 ^ L ≤ 16) ∧ pow2 (L : Int) = ((2 ^ L : Nat) : Int) := by
  obtain h | h | h | h | h : L = 0 ∨ L = 1 ∨ L = 2 ∨ L = 3 ∨ L = 4 := by omega
  all_goals subst h; decide
theorem qg6 (k : Nat) (hk : 2000000 ≤ k) (L R : Nat) (hL : L ≤ 4) (hR : 1 ≤ R ∧ R ≤ 8) (z3 : Bool) (l4 : List Cell) (x5 : Int) : ∀ (N : Nat) (fu : List (Nat × Nat)) (p : Nat) (z : Bool), p ≤ R → R - p < N → (z = false ∨ p = 0) →
    lp (k + 2) impl_MeshNew [] fu 5 (N) (qjy (L : Int) (R : Int) (p : Int) z3 l4 x5 z (uni (L : Int) (2 ^ L) p) (R : Int)) = some [.agg [.int .i64 (R : Int), .arr true false (.r3 (uni (L : Int) (2 ^ L) R))], .bool true]
  | 0, fu, p, z, hp, hN, hz => by omega
  | N + 1, fu, p, z, hp, hN, hz => by
    rw [qfz]
    have w16 := qll hL
    by_cases g : p < R
    · have ul : (uni (L : Int) (2 ^ L) p).length ≤ 1000 := by
        rw [qlw]
        calc p * 2 ^ L ≤ 8 * 16 := Nat.mul_le_mul (by omega) w16.1.2
          _ ≤ 1000 := by decide
      have e := qg7 k hk ((5, N) :: fu) L p (R : Int) (2 ^ L) w16.1 (by omega) z3 l4 x5 (R : Int) (uni (L : Int) (2 ^ L) p) ul (k + 2) 0 z (by omega) (by omega) (Or.inr rfl)
      have e2 := qg6 k hk L R hL hR z3 l4 x5 N ((5, N) :: fu) (p + 1) false (by omega) (by omega) (Or.inl rfl)
      rw [qfe, show uni (L : Int) (2 ^ L) p ++ rowN (p : Int) (L : Int) 0 = uni (L : Int) (2 ^ L) p from List.append_nil _, show uni (L : Int) (2 ^ L) p ++ rowN (p : Int) (L : Int) (2 ^ L) = uni (L : Int) (2 ^ L) (p + 1) from rfl, show ((0 : Nat) : Int) = 0 from rfl] at e
      have ep : IntKind.wrap .i64 ((1 : Int) * (2 : Int) ^ shiftN .i64 (L : Int)) = ((2 ^ L : Nat) : Int) := (pw (qfo.2 (by omega))).trans w16.2
      simp (disch := omega) only [dT, ep, qcv]
      exact e.trans e2
    · have hp' : p = R := by omega
      subst hp'
      have hz' : z = false := hz.elim id (fun h => absurd h (by omega))
      subst hz'
      simp (disch := omega) only [dF, dT, qcv, qct]
theorem qau (k : Nat) (hk : 2000000 ≤ k) (a b : Int) : go (k + 3) impl_MeshNew [.int .i64 a, .int .i64 b] = cond (inR a 1 8 && inR b 0 4) (some [.agg [.int .i64 a, .arr true false (.r3 (uni b (2 ^ b.toNat) a.toNat))], .bool true]) (some [.agg [.int .i64 0, .arr true true (.r3 [])], .bool false]) := by
  rw [qde]
  cases g : inR a 1 8
  · simp (disch := omega) only [qbl, g, bit, qak, nth0, qlj, Bool.not_false, qcv, Bool.false_and, qct]
  cases g2 : inR b 0 4
  · simp (disch := omega) only [qbl, g, bit, qbg, g2, qak, nth0, qlj, Bool.not_false, qcv, Bool.not_true, qct, Bool.and_false]
  have h1 := qfo.1 g; have h2 := qfo.1 g2
  obtain ⟨R, rfl⟩ : ∃ R : Nat, a = (R : Int) := ⟨a.toNat, by omega⟩
  obtain ⟨L, rfl⟩ : ∃ L : Nat, b = (L : Int) := ⟨b.toNat, by omega⟩
  have e := qg6 k hk L R (by omega) (by omega) true [] 0 (k + 2) [] 0 true (by omega) (by omega) (Or.inr rfl)
  rw [show ((0 : Nat) : Int) = 0 from rfl, show uni (L : Int) (2 ^ L) 0 = [] from rfl] at e
  simp (disch := omega) only [qbl, g, bit, qbg, g2, qak, nth0, qlj, Bool.not_true, qct, Bool.and_true, Int.toNat_natCast, qcv]
  exact e
end Go.Proofs.Ytfgccfajhedgdaa
end
section
namespace Go.Proofs.Ytfgccfajhedgdaa
open Go.Ev
set_option maxRecDepth 20000
theorem ql0 (o : Bool) (d0 : D) (l : List D) : (D.ptr o (d0 :: l)).cell 0 = d0 := Eq.trans rfl rfl
theorem ql1 (o : Bool) (d0 d1 : D) (l : List D) : (D.ptr o (d0 :: d1 :: l)).cell 1 = d1 := Eq.trans rfl rfl
theorem ql2 (o : Bool) (d0 d1 d2 : D) (l : List D) : (D.ptr o (d0 :: d1 :: d2 :: l)).cell 2 = d2 := Eq.trans rfl rfl
theorem ql3 (o : Bool) (d0 d1 d2 d3 : D) (l : List D) : (D.ptr o (d0 :: d1 :: d2 :: d3 :: l)).cell 3 = d3 := Eq.trans rfl rfl
theorem ql4 (o : Bool) (d0 d1 d2 d3 d4 : D) (l : List D) : (D.ptr o (d0 :: d1 :: d2 :: d3 :: d4 :: l)).cell 4 = d4 := Eq.trans rfl rfl
theorem qhd (k : Nat) (hk : 2000000 ≤ k) (fu : List (Nat × Nat)) (a0 : Int) (a1z : Bool) (a1 : List Cell) (a2z : Bool) (a2 : List Int) (a3z : Bool) (a3 : List Int) (a4z : Bool) (a4 : List Int) (r r' : Int) (s : S3) (b : List Int) (z : Bool) (m : List Cell) (q : Nat) (hq : q < m.length) (hl : s.1.length ≤ 128) (j : Nat) (t : S3)
    (eC : go (k + 7) impl_State_coarsen [.ptr true [.int .i64 (r), .arr true (false) (.r3 (s.1)), .arr true (false) (.ints .i64 (s.2.1)), .arr true (false) (.ints .i64 (s.2.2)), .arr true (false) (.ints .i64 (b))], .int .i64 (j : Int)] = some [.ptr true [.int .i64 (r), .arr true (false) (.r3 (t.1)), .arr true (false) (.ints .i64 (t.2.1)), .arr true (false) (.ints .i64 (t.2.2)), .arr true (false) (.ints .i64 (b))]]) (hm : m.length ≤ 128) : ∀ (N i : Nat) (best : Int), i ≤ s.1.length → s.1.length - i < N → -1 ≤ best → best < s.1.length → qc2 (m.getD q zz3) s.1 (s.1.drop i) i best = (j : Int) →
    lp (k + 7) impl_State_remap [(.ptr true [(.int .i64 (a0)), (.arr true (a1z) (.r3 (a1))), (.arr true (a2z) (.ints .i64 (a2))), (.arr true (a3z) (.ints .i64 (a3))), (.arr true (a4z) (.ints .i64 (a4)))])] fu 7 (N) (qj6 (q : Int) best (s.1.length : Int) (i : Int) false s.1 false s.2.1 false s.2.2 false b r z m r') = some [.ptr true [.int .i64 (r), .arr true (false) (.r3 (t.1)), .arr true (false) (.ints .i64 (t.2.1)), .arr true (false) (.ints .i64 (t.2.2)), .arr true (false) (.ints .i64 (b))]]
  | 0, i, best, hi, hN, h0, h1, hd => by omega
  | N + 1, i, best, hi, hN, h0, h1, hd => by
    rw [qf7]
    by_cases g : i < s.1.length
    · rw [qc6 g zz3, qc2] at hd
      cases hc : cov (m.getD q zz3) (s.1.getD i zz3)
      · rw [hc, Bool.false_and, if_neg (by decide)] at hd
        have IH := qhd k hk fu a0 a1z a1 a2z a2 a3z a3 a4z a4 r r' s b z m q hq hl j t eC hm N (i + 1) best (by omega) (by omega) h0 h1 hd
        simp (disch := omega) only [dT, nI, Bool.and_true, Int.toNat_natCast, qao, hc, bit, qcf, qmc, IH, qak, nth0, qlj, qct, qcv]
      · rw [hc, Bool.true_and] at hd
        by_cases h2 : best < 0
        · rw [dT h2, Bool.true_or, if_pos rfl] at hd
          have IH := qhd k hk fu a0 a1z a1 a2z a2 a3z a3 a4z a4 r r' s b z m q hq hl j t eC hm N (i + 1) (i : Int) (by omega) (by omega) (by omega) (by omega) hd
          simp (disch := omega) only [dT, nI, Bool.and_true, Int.toNat_natCast, qao, hc, bit, qcf, qmc, IH, dF, qct, qcv, qak, nth0, qlj]
        · obtain ⟨c, rfl⟩ : ∃ c : Nat, best = (c : Int) := ⟨best.toNat, by omega⟩
          rw [dF h2, Bool.false_or, Int.toNat_natCast] at hd
          by_cases h3 : qgp s.1 c < (s.1.getD i zz3).2.1
          · rw [dT h3, if_pos rfl] at hd
            have IH := qhd k hk fu a0 a1z a1 a2z a2 a3z a3 a4z a4 r r' s b z m q hq hl j t eC hm N (i + 1) (i : Int) (by omega) (by omega) (by omega) (by omega) hd
            simp (disch := omega) only [dT, nI, Bool.and_true, Int.toNat_natCast, qao, hc, bit, dF, qcf, qmc, IH, qcv, qct, qak, nth0, qlj]
          · rw [dF h3, if_neg (by decide)] at hd
            have IH := qhd k hk fu a0 a1z a1 a2z a2 a3z a3 a4z a4 r r' s b z m q hq hl j t eC hm N (i + 1) (c : Int) (by omega) (by omega) (by omega) (by omega) hd
            simp (disch := omega) only [dT, nI, Bool.and_true, Int.toNat_natCast, qao, hc, bit, dF, qcf, qmc, IH, qct, qcv, qak, nth0, qlj]
    · rw [List.drop_of_length_le (by omega), qc2] at hd
      subst hd
      simp (disch := omega) only [dF, dT, nI, Bool.and_false, Bool.and_true, Int.toNat_natCast, bit, qcf, qmc, qcv, qct, eC, qak, nth0, ql0, qlk, ql1, qib, qi4, ql2, qfp, ql3, ql4]
theorem qbi (k : Nat) (hk : 2000000 ≤ k) (r : Int) (s : S3) (b : List Int) (U : StU r s b) (z : Bool) (r' : Int) (m : List Cell) (hm : qh1 r 0 m = true) (h : ¬ qk5 m s.1 < 0) :
    go (k + 8) impl_State_remap [.ptr true [.int .i64 (r), .arr true (false) (.r3 (s.1)), .arr true (false) (.ints .i64 (s.2.1)), .arr true (false) (.ints .i64 (s.2.2)), .arr true (false) (.ints .i64 (b))], .agg [.int .i64 r', .arr false z (.r3 m)], .int .i64 (qk5 m s.1)] = some [.ptr true [.int .i64 (r), .arr true (false) (.r3 ((rmS m s).1)), .arr true (false) (.ints .i64 ((rmS m s).2.1)), .arr true (false) (.ints .i64 ((rmS m s).2.2)), .arr true (false) (.ints .i64 (b))]] := by
  have L := qh6 hm
  have M := qh6 U.mesh
  obtain ⟨i, C, H⟩ := qjp U hm h
  have e0 := qhh k (by omega) [] z m (s.1.getD i zz3) (by omega) (k + 6) 0 (by omega) (by omega)
  rw [show ((0 : Nat) : Int) = 0 from rfl, List.drop_zero, show fstG (fun y => cov y (s.1.getD i zz3)) m 0 = qiu m (s.1.getD i zz3) from rfl] at e0
  have ci := C.hi
  rw [qdv, C.e]
  rcases H with ⟨o, _, hl, e⟩ | ⟨q, j, o, hq, _, _, d, hj, sj, e⟩
  · have eR := qbh (k + 4) (by omega) r s b U i ci hl
    rw [o] at e0
    rw [e]
    simp (disch := omega) only [dT, nI, Bool.and_true, Int.toNat_natCast, qef, e0, eR, qak, nth0, ql0, qlk, ql1, qib, qi4, ql2, qfp, ql3, ql4, qcv]
  · have hv : 1 ≤ qgp s.1 j := qkw sj
    have eC := qa8 (k + 1) (by omega) r s b U j hj hv
    rw [o] at e0
    rw [e]
    have e7 := qhd k hk [] r false s.1 false s.2.1 false s.2.2 false b r r' s b z m q hq M.2 j (cmS s j) eC L.2 (k + 7) 0 (-1) (by omega) (by omega) (by omega) (by omega) d
    rw [show ((0 : Nat) : Int) = 0 from rfl] at e7
    simp (disch := omega) only [dT, nI, Bool.and_true, Int.toNat_natCast, qef, e0, qak, nth0, qlk, dF, qct, qcv]
    exact e7
theorem qhb (k : Nat) (hk : 2000000 ≤ k) (fu : List (Nat × Nat)) (r : Int) (b : List Int) (M S : Int) (m : List Cell) (hm : qh1 r 0 m = true) (z : Bool) (r' : Int) (z3 : Bool) (l4 : List Cell) (z5 : Bool) (l6 : List Int) (z7 : Bool) (l8 : List Int) (z9 : Bool) (l10 : List Int) (x11 : Int) : ∀ (N n : Nat) (s : S3), StV r s b M S → mu r s.1 m < n → n < N →
    lp (k + 8) impl_RemapState [] fu 4 (N) (qj4 z m r' z3 l4 z5 l6 z7 l8 z9 l10 x11 false s.1 false s.2.1 false s.2.2 false b r) = some [.agg [.int .i64 (r), .arr true (false) (.r3 ((rmN m n s).1)), .arr true (false) (.ints .i64 ((rmN m n s).2.1)), .arr true (false) (.ints .i64 ((rmN m n s).2.2)), .arr true (false) (.ints .i64 (b))], .bool true]
  | 0, n, s, V, h, hN => by omega
  | N + 1, 0, s, V, h, hN => by have := qh9 r s.1 m; omega
  | N + 1, n + 1, s, V, h, hN => by
    rw [qf5]
    have L := qh6 hm
    have T := qh6 V.u.mesh
    have e0 := qg4 (k + 1) (by omega) [] false z s.1 m r' (by omega) (by omega) ((k + 1) + 6) 0 (by omega) (by omega)
    rw [show ((0 : Nat) : Int) = 0 from rfl, List.drop_zero, show fstG (fun x => decide (lof m x < 0)) s.1 0 = qk5 m s.1 from rfl] at e0
    unfold rmN
    by_cases g : qk5 m s.1 < 0
    · rw [if_pos g]
      simp (disch := omega) only [qee, nI, e0, qak, nth0, qlk, dT, qcv]
    · rw [if_neg g]
      have eR := qbi k (by omega) r s b V.u z r' m hm g
      have IH := qhb k hk fu r b M S m hm z r' z3 l4 z5 l6 z7 l8 z9 l10 x11 N n (rmS m s) (rm_V V hm g) (by have := qjq V.u hm g; omega) (by omega)
      simp (disch := omega) only [qee, nI, e0, qak, nth0, qlk, dF, eR, ql1, qib, qi4, ql2, qfp, ql3, ql4, ql0, IH, qct]
def qlt (r : Int) (s : S3) (b : List Int) (L : Int) : Bool := stOk r s.1 s.2.1 s.2.2 b && inR L 0 4
abbrev unM (r L : Int) : List Cell := uni L (2 ^ L.toNat) r.toNat
theorem qlp {r L : Int} (hr : 1 ≤ r ∧ r ≤ 8) (hL : 0 ≤ L ∧ L ≤ 4) : qh1 r 0 (unM r L) = true ∧ unb (unM r L) < 0 := by
  obtain ⟨R, rfl⟩ : ∃ R : Nat, r = (R : Int) := ⟨r.toNat, by omega⟩
  obtain ⟨K, rfl⟩ : ∃ K : Nat, L = (K : Int) := ⟨L.toNat, by omega⟩
  exact qlz (by omega) (by omega)
theorem qaz (k : Nat) (hk : 2000000 ≤ k) (r : Int) (s : S3) (b : List Int) (F : StF r s.1 s.2.1 s.2.2 b) (z : Bool) (m : List Cell) (hm : qh1 r 0 m = true) (hu : unb m < 0) :
    go (k + 9) impl_RemapState [.agg [.int .i64 (r), .arr false (false) (.r3 (s.1)), .arr false (false) (.ints .i64 (s.2.1)), .arr false (false) (.ints .i64 (s.2.2)), .arr false (false) (.ints .i64 (b))], .agg [.int .i64 r, .arr false z (.r3 m)]] = some [.agg [.int .i64 (r), .arr true (false) (.r3 ((rmp m s).1)), .arr true (false) (.ints .i64 ((rmp m s).2.1)), .arr true (false) (.ints .i64 ((rmp m s).2.2)), .arr true (false) (.ints .i64 (b))], .bool true] := by
  have V : StV r s b (isum s.2.1) (isum s.2.2) := ⟨F.toU, rfl, rfl⟩
  have rr := F.rr; have fl := F.len; have ml := F.ml; have tl := F.tl; have bl := F.bl
  have mm := qh6 hm
  have := qh8 (qlm V.u hm) (by omega)
  have e := qhb k hk [] r b _ _ m hm z r true [] true [] true [] true [] 0 (k + 8) 513 s V (by omega) (by omega)
  have eS := qa3 k (by omega) r false s.1 false s.2.1 false s.2.2 false b (by omega) (by omega)
  rw [stF.2 F] at eS
  have eB := qas (k + 1) (by omega) r z m (by omega)
  rw [show qag r m = true by unfold qag; rw [hm, dT hu]; rfl] at eB
  rw [qdl]
  simp (disch := omega) only [eS, bit, eB, dTT, Bool.not_true, qba, qak, nth0, qci, qib, qi4, qcj, qfp, qck, qcl, qch, qlk, qct, qlj]
  exact e
end Go.Proofs.Ytfgccfajhedgdaa
end
section
namespace Go.Proofs.Ytfgccfajhedgdaa
open Go.Ev
set_option maxRecDepth 20000
abbrev qe7 : D := .agg [.int .i64 0, .arr true true (.r3 []), .arr true true (.ints .i64 []), .arr true true (.ints .i64 []), .arr true true (.ints .i64 [])]
theorem qa4 (k : Nat) (hk : 2000000 ≤ k) (r : Int) (s : S3) (b : List Int) (L : Int) (h1 : (s.1.length : Int) ≤ 1048576) (h4 : (b.length : Int) ≤ 1048576) :
    go (k + 10) impl_UniformOf [.agg [.int .i64 (r), .arr false (false) (.r3 (s.1)), .arr false (false) (.ints .i64 (s.2.1)), .arr false (false) (.ints .i64 (s.2.2)), .arr false (false) (.ints .i64 (b))], .int .i64 L] = cond (qlt r s b L) (some [.agg [.int .i64 (r), .arr true (false) (.r3 ((rmp (unM r L) s).1)), .arr true (false) (.ints .i64 ((rmp (unM r L) s).2.1)), .arr true (false) (.ints .i64 ((rmp (unM r L) s).2.2)), .arr true (false) (.ints .i64 (b))], .bool true]) (some [qe7, .bool false]) := by
  rw [qdx]
  have eM := qau (k + 6) (by omega) r L
  unfold qlt
  cases g : stOk r s.1 s.2.1 s.2.2 b
  · cases g1 : (inR r 1 8 && inR L 0 4)
    · rw [g1] at eM
      simp (disch := omega) only [eM, qct, bit, qak, nth1, qlj, Bool.not_false, nth0, qch, qlk, qci, qib, qi4, qcv, Bool.false_and]
    · rw [g1] at eM
      have eS := qa3 k (by omega) r false s.1 false s.2.1 false s.2.2 false b h1 h4
      rw [g] at eS
      simp (disch := omega) only [eM, qcv, bit, qdl, eS, qak, nth0, qlj, Bool.not_false, qch, qlk, qci, qib, qi4, qcj, qfp, qck, qcl, nth1, Bool.not_true, qct, Bool.false_and]
  · have F := stF.1 g
    have rr := F.rr
    rw [qfo.2 rr, Bool.true_and] at eM
    cases g2 : inR L 0 4
    · rw [g2] at eM
      simp (disch := omega) only [eM, qct, bit, qak, nth1, qlj, Bool.not_false, nth0, qch, qlk, qci, qib, qi4, qcv, Bool.and_false]
    · rw [g2] at eM
      have U := qlp rr (qfo.1 g2)
      have eR := qaz k (by omega) r s b F false (unM r L) U.1 U.2
      simp (disch := omega) only [eM, qcv, bit, qak, nth1, qlj, Bool.not_true, nth0, qch, qlk, qci, qib, qi4, eR, qcj, qfp, qck, qcl, qct, Bool.and_true]
end Go.Proofs.Ytfgccfajhedgdaa
end
section
namespace Go.Proofs.Ytfgccfajhedgdaa
open Go.Ev
def prof : List Cell → List Int → List Int
  | x :: l, m :: ms => List.replicate (ql6 x.2.1).toNat (m * pow2 x.2.1) ++ prof l ms
  | _, _ => []
theorem qi0 : ∀ (l : List Cell) (m : List Int) (r p : Int), qh1 r p l = true → m.length = l.length → p + (prof l m).length = 16 * r
  | [], m, r, p, h, hm => by
    have := (qh5 [] r p h).2.2.2.2 rfl
    simp [prof, this]
  | x :: l, [], r, p, h, hm => by simp at hm
  | x :: l, y :: m, r, p, h, hm => by
    simp only [qh1, Bool.and_eq_true, decide_eq_true_eq] at h
    have w := ql8 x.2.1
    have ih := qi0 l m r _ h.2.2 (by simpa using hm)
    simp only [prof, List.length_append, List.length_replicate]; omega
theorem qiz : ∀ (l : List Cell) (m : List Int), (∀ i, inR (l.getD i zz3).2.1 0 4 = true) → (∀ x ∈ m, 0 ≤ x ∧ x ≤ 10000000) → ∀ y ∈ prof l m, 0 ≤ y ∧ y ≤ 160000000
  | [], m, hl, hm, y, hy => by simp [prof] at hy
  | x :: l, [], hl, hm, y, hy => by simp [prof] at hy
  | x :: l, a :: m, hl, hm, y, hy => by
    simp only [prof, List.mem_append, List.mem_replicate] at hy
    rcases hy with ⟨_, rfl⟩ | hy
    · have h0 := hl 0
      simp only [List.getD_cons_zero] at h0
      have h1 := hm a (by simp)
      have := mulp h0 h1.1
      omega
    · exact qiz l m (fun i => by simpa using hl (i + 1)) (fun z hz => hm z (by simp [hz])) y hy
theorem qjh {α : Type} (out : List α) (v : α) (n : Nat) : (out ++ [v]) ++ List.replicate n v = out ++ List.replicate (n + 1) v := by
  rw [List.append_assoc]; rfl
theorem qha (k : Nat) (hk : 2000000 ≤ k) (fu : List (Nat × Nat)) (z1 z2 z3 z4 : Bool) (l : List Cell) (m t b : List Int) (r : Int) (x16 lv x18 L : Int) (i : Nat) (hi : i < m.length) (hm : (m.length : Int) ≤ 1048576) (hv : inR lv 0 4 = true) (h0 : 0 ≤ m.getD i 0) (h1 : m.getD i 0 ≤ 10000000) (w : Nat) (hw : w ≤ 16) : ∀ (n j : Nat) (out : List Int), j ≤ w → w - j < n → out.length ≤ 100000 + j →
    lp (k + 8) impl_ProfileOf [] fu 8 (n) (qj3 (i : Int) L (i : Int) (w : Int) (j : Int) z1 l z2 m z3 t z4 b r false out x16 lv x18) = lp (k + 8) impl_ProfileOf [] fu 5 (fuelOf fu 5) (qj2 L ((i + 1 : Nat) : Int) z1 l z2 m z3 t z4 b r false (out ++ List.replicate (w - j) (m.getD i 0 * pow2 lv)))
  | 0, j, out, hj, hn, ho => by omega
  | n + 1, j, out, hj, hn, ho => by
    rw [qf4]
    by_cases h : j < w
    · have e := qha k hk fu z1 z2 z3 z4 l m t b r x16 lv x18 L i hi hm hv h0 h1 w hw n (j + 1) (out ++ [m.getD i 0 * pow2 lv]) (by omega) (by omega) (by simp; omega)
      have q := mulp hv h0
      have q2 := lev0 hv
      rw [qjh, show w - (j + 1) + 1 = w - j by omega] at e
      simp (disch := omega) only [dT, nI, Bool.and_true, Int.toNat_natCast, shp hv, qmc, List.length_append, List.length_cons, List.length_nil, big0, qcf, dF, Bool.and_false, qcv]
      exact e
    · simp (disch := omega) only [dF, dT, nI, Bool.and_true, Int.toNat_natCast, big0, qcf, qmc, Bool.false_and, qcv, qct]
      rw [show w - j = 0 by omega]; simp
theorem qg9 (k : Nat) (hk : 2000000 ≤ k) (z1 z2 z3 z4 : Bool) (l : List Cell) (m t b : List Int) (r : Int) (F : StF r l m t b) : ∀ (n : Nat) (fu : List (Nat × Nat)) (i : Nat) (out : List Int), i ≤ l.length → l.length - i < n → out.length ≤ 16 * i →
    lp (k + 8) impl_ProfileOf [] fu 5 (n) (qj2 (l.length : Int) (i : Int) z1 l z2 m z3 t z4 b r false out) = some [.arr true false (.ints .i64 (out ++ prof (l.drop i) (m.drop i)))]
  | 0, fu, i, out, hi, hn, ho => by omega
  | n + 1, fu, i, out, hi, hn, ho => by
    have hl := F.len; have hm := F.ml
    rw [qf3]
    by_cases h : i < l.length
    · have hw := ql8 (l.getD i zz3).2.1
      obtain ⟨w, hw'⟩ : ∃ w : Nat, ql6 (l.getD i zz3).2.1 = (w : Int) := ⟨(ql6 (l.getD i zz3).2.1).toNat, by omega⟩
      have hat := F.at i
      have e := qha k hk ((5, n) :: fu) z1 z2 z3 z4 l m t b r (l.getD i zz3).1 (l.getD i zz3).2.1 (l.getD i zz3).2.2 (l.length : Int) i (by omega) (by omega) (F.lev i) (by omega) (by omega) w (by omega) (k + 8) 0 out (by omega) (by omega) (by omega)
      have e2 := qg9 k hk z1 z2 z3 z4 l m t b r F n ((5, n) :: fu) (i + 1) (out ++ List.replicate w (m.getD i 0 * pow2 (l.getD i zz3).2.1)) (by omega) (by omega) (by simp; omega)
      rw [qc6 h zz3, qc6 (l := m) (by omega : i < m.length) 0]
      rw [qfe, Nat.sub_zero] at e
      simp (disch := omega) only [dT, nI, Bool.and_true, Int.toNat_natCast, qa6, hw', qak, nth0, qlk, qcv]
      refine Eq.trans e (Eq.trans e2 ?_)
      simp only [prof, hw', Int.toNat_natCast, List.append_assoc]
    · rw [List.drop_of_length_le (by omega)]
      simp (disch := omega) only [dF, dT, nI, Bool.and_false, Int.toNat_natCast, qct, prof, List.append_nil]
theorem qay (k : Nat) (hk : 2000000 ≤ k) (a0 : Int) (a1z : Bool) (a1 : List (Int × Int × Int)) (a2z : Bool) (a2 : List Int) (a3z : Bool) (a3 : List Int) (a4z : Bool) (a4 : List Int) (h1 : (a1.length : Int) ≤ 1048576) (h2 : (a4.length : Int) ≤ 1048576) : go (k + 9) impl_ProfileOf [(.agg [(.int .i64 (a0)), (.arr false (a1z) (.r3 (a1))), (.arr false (a2z) (.ints .i64 (a2))), (.arr false (a3z) (.ints .i64 (a3))), (.arr false (a4z) (.ints .i64 (a4)))])] = some [.arr true (!stOk a0 a1 a2 a3 a4) (.ints .i64 (cond (stOk a0 a1 a2 a3 a4) (prof a1 a2) []))] := by
  rw [qdk]
  simp (disch := omega) only [qa3, bit, nI, qak, nth0, qlj]
  cases g1 : stOk a0 a1 a2 a3 a4
  · rfl
  have e := qg9 k hk a1z a2z a3z a4z a1 a2 a3 a4 a0 (stF.1 g1) (k + 8) [] 0 [] (by omega) (by omega) (by simp)
  simp only [List.drop_zero, List.nil_append] at e
  simp only [Bool.not_true, qct, qcv]
  exact e
def gaps : List Int → List Int → List Int
  | x :: l, y :: m => gap x y :: gaps l m
  | _, _ => []
theorem qfi : ∀ (l m : List Int), l.length = m.length → (gaps l m).length = l.length
  | [], m, h => by simp [gaps]
  | x :: l, [], h => by simp at h
  | x :: l, y :: m, h => by simp only [gaps, List.length_cons]; rw [qfi l m (by simpa using h)]
theorem qfh (l m : List Int) (hl : ∀ x ∈ l, 0 ≤ x ∧ x ≤ 160000000) (hm : ∀ x ∈ m, 0 ≤ x ∧ x ≤ 160000000) : ∀ y ∈ gaps l m, 0 ≤ y ∧ y ≤ 160000000 := by
  induction l generalizing m with
  | nil => intro y hy; simp [gaps] at hy
  | cons x l ih =>
    cases m with
    | nil => intro y hy; simp [gaps] at hy
    | cons z m =>
      intro y hy
      simp only [gaps, List.mem_cons] at hy
      rcases hy with rfl | hy
      · exact qff (hl x (by simp)) (hm z (by simp))
      · exact ih m (fun a ha => hl a (by simp [ha])) (fun a ha => hm a (by simp [ha])) y hy
theorem qhc (k : Nat) (hk : 2000000 ≤ k) (fu : List (Nat × Nat)) (z1 z2 : Bool) (x y : List Int) (hy : (y.length : Int) ≤ 1048576) (hxy : x.length = y.length) (bx : ∀ a ∈ x, 0 ≤ a ∧ a ≤ 160000000) (by_ : ∀ a ∈ y, 0 ≤ a ∧ a ≤ 160000000) : ∀ (n i : Nat) (o : List Int), i ≤ y.length → y.length - i < n → o.length = x.length → o.drop i = x.drop i →
    lp (k + 9) impl_differences [] fu 5 (n) (qj7 (y.length : Int) (i : Int) z1 o z2 y) = some [.arr true z1 (.ints .i64 (o.take i ++ gaps (x.drop i) (y.drop i))), .bool true]
  | 0, i, o, hi, hn, ho, hd => by omega
  | n + 1, i, o, hi, hn, ho, hd => by
    rw [qf8]
    by_cases h : i < y.length
    · have hd' := hd
      rw [qc6 (l := o) (by omega : i < o.length) 0, qc6 (l := x) (by omega : i < x.length) 0] at hd'
      simp only [List.cons.injEq] at hd'
      have b1 := bx _ (qfj (l := x) (by omega : i < x.length) 0)
      have b2 := by_ _ (qfj h 0)
      have e := qhc k hk fu z1 z2 x y hy hxy bx by_ n (i + 1) (o.set i (gap (x.getD i 0) (y.getD i 0))) (by omega) (by omega) (by simp [ho]) (by rw [List.drop_set_of_lt (by omega)]; exact hd'.2)
      rw [qkq o o i _ _ (by omega)] at e
      rw [qc6 (l := x) (by omega : i < x.length) 0, qc6 h 0]
      simp (disch := omega) only [dT, nI, Bool.and_true, Int.toNat_natCast, hd'.1, qmc, qa7, qfg, qcf, qcv, qak, nth0, qlk, gaps]
      exact e
    · simp (disch := omega) only [dF, dT, nI, Bool.and_false, Int.toNat_natCast, qcf, qmc, qct]
      rw [List.drop_of_length_le (by omega), List.take_of_length_le (by omega)]
      simp [gaps]
def ask (r : Int) (l : List Cell) (m t b : List Int) (r' : Int) (l' : List Cell) (m' t' b' : List Int) : Bool := stOk r l m t b && (stOk r' l' m' t' b' && decide (r = r'))
theorem qae {r : Int} {l : List Cell} {m t b : List Int} {r' : Int} {l' : List Cell} {m' t' b' : List Int} (h : ask r l m t b r' l' m' t' b' = true) :
    StF r l m t b ∧ StF r' l' m' t' b' ∧ r = r' ∧ (prof l m).length = (prof l' m').length ∧ ((prof l m).length : Int) = 16 * r ∧ (∀ a ∈ prof l m, 0 ≤ a ∧ a ≤ 160000000) ∧ (∀ a ∈ prof l' m', 0 ≤ a ∧ a ≤ 160000000) ∧ 1 ≤ r ∧ r ≤ 8 := by
  simp only [ask, Bool.and_eq_true, decide_eq_true_eq] at h
  have F := stF.1 h.1; have G := stF.1 h.2.1
  have p1 := qi0 l m r 0 F.mesh F.ml
  have p2 := qi0 l' m' r' 0 G.mesh G.ml
  have := h.2.2
  exact ⟨F, G, h.2.2, by omega, by omega, qiz l m F.lev (fun x hx => by have := (qhv m t (by rw [F.ml, F.tl]) F.mt).1 x hx; omega), qiz l' m' G.lev (fun x hx => by have := (qhv m' t' (by rw [G.ml, G.tl]) G.mt).1 x hx; omega), F.rr.1, F.rr.2⟩
theorem qbb (k : Nat) (hk : 2000000 ≤ k) (a0 : Int) (a1z : Bool) (a1 : List (Int × Int × Int)) (a2z : Bool) (a2 : List Int) (a3z : Bool) (a3 : List Int) (a4z : Bool) (a4 : List Int) (b0 : Int) (b1z : Bool) (b1 : List (Int × Int × Int)) (b2z : Bool) (b2 : List Int) (b3z : Bool) (b3 : List Int) (b4z : Bool) (b4 : List Int) (h1 : (a1.length : Int) ≤ 1048576) (h2 : (a4.length : Int) ≤ 1048576) (h3 : (b1.length : Int) ≤ 1048576) (h4 : (b4.length : Int) ≤ 1048576) : go (k + 10) impl_differences [(.agg [(.int .i64 (a0)), (.arr false (a1z) (.r3 (a1))), (.arr false (a2z) (.ints .i64 (a2))), (.arr false (a3z) (.ints .i64 (a3))), (.arr false (a4z) (.ints .i64 (a4)))]), (.agg [(.int .i64 (b0)), (.arr false (b1z) (.r3 (b1))), (.arr false (b2z) (.ints .i64 (b2))), (.arr false (b3z) (.ints .i64 (b3))), (.arr false (b4z) (.ints .i64 (b4)))])] = some [.arr true (!ask a0 a1 a2 a3 a4 b0 b1 b2 b3 b4) (.ints .i64 (cond (ask a0 a1 a2 a3 a4 b0 b1 b2 b3 b4) (gaps (prof a1 a2) (prof b1 b2)) [])), .bool (ask a0 a1 a2 a3 a4 b0 b1 b2 b3 b4)] := by
  rw [qd3]
  simp (disch := omega) only [qa3, bit, qay, nI, qak, nth0, qfp, qib, qlj]
  cases g : ask a0 a1 a2 a3 a4 b0 b1 b2 b3 b4
  · unfold ask at g
    cases g1 : stOk a0 a1 a2 a3 a4
    · rfl
    cases g2 : stOk b0 b1 b2 b3 b4
    · rfl
    simp only [g1, g2, Bool.true_and, decide_eq_false_iff_not] at g
    simp (disch := omega) only [Bool.not_true, dF, Bool.not_false, qcv, qct]
  · obtain ⟨F, G, e1, e2, e3, b1_, b2_, r1, r2⟩ := qae g
    rw [stF.2 F, stF.2 G]
    have e := qhc k hk [] false false (prof a1 a2) (prof b1 b2) (by omega) e2 b1_ b2_ (k + 9) 0 (prof a1 a2) (by omega) (by omega) rfl rfl
    simp only [List.drop_zero, List.take_zero, List.nil_append] at e
    simp (disch := omega) only [Bool.not_true, dT, qcv, qct]
    exact e
theorem qap (k : Nat) (hk : 2000000 ≤ k) (a0 : Int) (a1z : Bool) (a1 : List (Int × Int × Int)) (a2z : Bool) (a2 : List Int) (a3z : Bool) (a3 : List Int) (a4z : Bool) (a4 : List Int) (b0 : Int) (b1z : Bool) (b1 : List (Int × Int × Int)) (b2z : Bool) (b2 : List Int) (b3z : Bool) (b3 : List Int) (b4z : Bool) (b4 : List Int) (h1 : (a1.length : Int) ≤ 1048576) (h2 : (a4.length : Int) ≤ 1048576) (h3 : (b1.length : Int) ≤ 1048576) (h4 : (b4.length : Int) ≤ 1048576) : go (k + 11) impl_DistanceOf [(.agg [(.int .i64 (a0)), (.arr false (a1z) (.r3 (a1))), (.arr false (a2z) (.ints .i64 (a2))), (.arr false (a3z) (.ints .i64 (a3))), (.arr false (a4z) (.ints .i64 (a4)))]), (.agg [(.int .i64 (b0)), (.arr false (b1z) (.r3 (b1))), (.arr false (b2z) (.ints .i64 (b2))), (.arr false (b3z) (.ints .i64 (b3))), (.arr false (b4z) (.ints .i64 (b4)))])] = some [.int .i64 (cond (ask a0 a1 a2 a3 a4 b0 b1 b2 b3 b4) (isum (gaps (prof a1 a2) (prof b1 b2))) (-1))] := by
  rw [qda]
  simp (disch := omega) only [qbb, bit, qak, nth1, qlj, nth0, qib, qfp]
  cases g : ask a0 a1 a2 a3 a4 b0 b1 b2 b3 b4
  · rfl
  · obtain ⟨F, G, e1, e2, e3, b1_, b2_, r1, r2⟩ := qae g
    simp only [Bool.not_true, qct, qcv]
    rw [qbj _ (by omega) _ _ (by rw [qfi _ _ e2]; omega) (fun x hx => by have := qfh _ _ b1_ b2_ x hx; omega)]
    simp (disch := omega) only [qak, nth0, qlk]
end Go.Proofs.Ytfgccfajhedgdaa
end
section
namespace Go.Proofs.Ytfgccfajhedgdaa
open Go.Ev
theorem qfv : ∀ (d : List Int) (M : Int), (∀ q, q < d.length → d.getD q 0 ≤ M) → isum d ≤ M * d.length
  | [], M, h => by show (0 : Int) ≤ M * ((0 : Nat) : Int); omega
  | x :: d, M, h => by
    have a := qfv d M (fun q hq => by have := h (q + 1) (by simpa using hq); simpa using this)
    have b := h 0 (by simp)
    have b' : x ≤ M := b
    have e : M * ((x :: d).length : Int) = M * d.length + M := by rw [List.length_cons, Int.natCast_add, Int.mul_add]; simp
    rw [e]
    simp only [isum]; omega
end Go.Proofs.Ytfgccfajhedgdaa
end
section
namespace Go.Proofs.Ytfgccfajhedgdaa
open Go.Ev
theorem qea (k : Nat) (az : Bool) (a : List Int) : go (k + 1) laws_big [(.arr false (az) (.ints IntKind.u8 (a)))] =
 some [(.bool (decide ((1048576 : Int) < nI (List.length a))))] := by kernel_rfl
theorem qd9 (k : Nat) (az : Bool) (a : List Int) : go (k + 1) laws_FnUniform [(.arr false (az) (.ints IntKind.u8 (a)))] =
 (go k laws_big [(.arr false (az) (.ints IntKind.u8 (a)))]).bind fun r0 =>
 cond (bit (nth r0 0))
 (some [(.bool (true))])
 ((go k spec_DrawState [(.arr false (az) (.ints IntKind.u8 (a)))]).bind fun r1 =>
 (go k impl_UniformOf [(.agg [(.int .i64 (D.toInt (D.cell 0 (nth r1 0)))), (.arr false (D.nil (D.cell 1 (nth r1 0))) (.r3 (D.r3 (D.cell 1 (nth r1 0))))), (.arr false (D.nil (D.cell 2 (nth r1 0))) (.ints .i64 (D.ints (D.cell 2 (nth r1 0))))), (.arr false (D.nil (D.cell 3 (nth r1 0))) (.ints .i64 (D.ints (D.cell 3 (nth r1 0))))), (.arr false (D.nil (D.cell 4 (nth r1 0))) (.ints .i64 (D.ints (D.cell 4 (nth r1 0)))))]), (.int .i64 ((4 : Int)))]).bind fun r2 =>
 (go k impl_UniformOf [(.agg [(.int .i64 (D.toInt (D.cell 0 (nth r1 0)))), (.arr false (D.nil (D.cell 1 (nth r1 0))) (.r3 (D.r3 (D.cell 1 (nth r1 0))))), (.arr false (D.nil (D.cell 2 (nth r1 0))) (.ints .i64 (D.ints (D.cell 2 (nth r1 0))))), (.arr false (D.nil (D.cell 3 (nth r1 0))) (.ints .i64 (D.ints (D.cell 3 (nth r1 0))))), (.arr false (D.nil (D.cell 4 (nth r1 0))) (.ints .i64 (D.ints (D.cell 4 (nth r1 0)))))]), (.int .i64 (0 : Int))]).bind fun r3 =>
 (go k impl_DistanceOf [(.agg [(.int .i64 (D.toInt (D.cell 0 (nth r1 0)))), (.arr false (D.nil (D.cell 1 (nth r1 0))) (.r3 (D.r3 (D.cell 1 (nth r1 0))))), (.arr false (D.nil (D.cell 2 (nth r1 0))) (.ints .i64 (D.ints (D.cell 2 (nth r1 0))))), (.arr false (D.nil (D.cell 3 (nth r1 0))) (.ints .i64 (D.ints (D.cell 3 (nth r1 0))))), (.arr false (D.nil (D.cell 4 (nth r1 0))) (.ints .i64 (D.ints (D.cell 4 (nth r1 0)))))]), (.agg [(.int .i64 (D.toInt (D.cell 0 (nth r2 0)))), (.arr false (D.nil (D.cell 1 (nth r2 0))) (.r3 (D.r3 (D.cell 1 (nth r2 0))))), (.arr false (D.nil (D.cell 2 (nth r2 0))) (.ints .i64 (D.ints (D.cell 2 (nth r2 0))))), (.arr false (D.nil (D.cell 3 (nth r2 0))) (.ints .i64 (D.ints (D.cell 3 (nth r2 0))))), (.arr false (D.nil (D.cell 4 (nth r2 0))) (.ints .i64 (D.ints (D.cell 4 (nth r2 0)))))])]).bind fun r4 =>
 cond (bit (nth r2 1))
 (cond (bit (nth r3 1))
 (cond (decide ((0 : Int) ≤ D.toInt (nth r4 0)))
 (cond (decide (D.toInt (nth r4 0) ≤ IntKind.wrap .i64 ((240 : Int) * D.toInt (D.cell 0 (nth r1 0)))))
 (cond (decide (nI (List.length (D.ints (D.cell 2 (nth r3 0)))) = D.toInt (D.cell 0 (nth r1 0))))
 ((go k spec_TotalMass [(.agg [(.int .i64 (D.toInt (D.cell 0 (nth r2 0)))), (.arr false (D.nil (D.cell 1 (nth r2 0))) (.r3 (D.r3 (D.cell 1 (nth r2 0))))), (.arr false (D.nil (D.cell 2 (nth r2 0))) (.ints .i64 (D.ints (D.cell 2 (nth r2 0))))), (.arr false (D.nil (D.cell 3 (nth r2 0))) (.ints .i64 (D.ints (D.cell 3 (nth r2 0))))), (.arr false (D.nil (D.cell 4 (nth r2 0))) (.ints .i64 (D.ints (D.cell 4 (nth r2 0)))))])]).bind fun r5 =>
 (go k spec_TotalMass [(.agg [(.int .i64 (D.toInt (D.cell 0 (nth r1 0)))), (.arr false (D.nil (D.cell 1 (nth r1 0))) (.r3 (D.r3 (D.cell 1 (nth r1 0))))), (.arr false (D.nil (D.cell 2 (nth r1 0))) (.ints .i64 (D.ints (D.cell 2 (nth r1 0))))), (.arr false (D.nil (D.cell 3 (nth r1 0))) (.ints .i64 (D.ints (D.cell 3 (nth r1 0))))), (.arr false (D.nil (D.cell 4 (nth r1 0))) (.ints .i64 (D.ints (D.cell 4 (nth r1 0)))))])]).bind fun r6 =>
 cond (decide (D.toInt (nth r5 0) = D.toInt (nth r6 0)))
 ((go k spec_TotalMass [(.agg [(.int .i64 (D.toInt (D.cell 0 (nth r3 0)))), (.arr false (D.nil (D.cell 1 (nth r3 0))) (.r3 (D.r3 (D.cell 1 (nth r3 0))))), (.arr false (D.nil (D.cell 2 (nth r3 0))) (.ints .i64 (D.ints (D.cell 2 (nth r3 0))))), (.arr false (D.nil (D.cell 3 (nth r3 0))) (.ints .i64 (D.ints (D.cell 3 (nth r3 0))))), (.arr false (D.nil (D.cell 4 (nth r3 0))) (.ints .i64 (D.ints (D.cell 4 (nth r3 0)))))])]).bind fun r7 =>
 (go k spec_TotalMass [(.agg [(.int .i64 (D.toInt (D.cell 0 (nth r1 0)))), (.arr false (D.nil (D.cell 1 (nth r1 0))) (.r3 (D.r3 (D.cell 1 (nth r1 0))))), (.arr false (D.nil (D.cell 2 (nth r1 0))) (.ints .i64 (D.ints (D.cell 2 (nth r1 0))))), (.arr false (D.nil (D.cell 3 (nth r1 0))) (.ints .i64 (D.ints (D.cell 3 (nth r1 0))))), (.arr false (D.nil (D.cell 4 (nth r1 0))) (.ints .i64 (D.ints (D.cell 4 (nth r1 0)))))])]).bind fun r8 =>
 some [(.bool (decide (D.toInt (nth r7 0) = D.toInt (nth r8 0))))])
 (some [(.bool (false))]))
 (some [(.bool (false))]))
 (some [(.bool (false))]))
 (some [(.bool (false))]))
 (some [(.bool (false))]))
 (some [(.bool (false))])) := by kernel_rfl

end Go.Proofs.Ytfgccfajhedgdaa
end
section
namespace Go.Proofs.Ytfgccfajhedgdaa
open Go.Ev
set_option maxRecDepth 20000
theorem qbm (k : Nat) (hk : 2000000 ≤ k) (z : Bool) (l : List Int) : go (k + 1) laws_big [.arr false z (.ints .u8 l)] = some [.bool (decide (1048576 < (l.length : Int)))] := by
  rw [qea]
abbrev prS (s : S3) : List Int := prof s.1 s.2.1
structure Prf (r : Int) (p : List Int) : Prop where
  len : (p.length : Int) = 16 * r
  at_ : ∀ x ∈ p, 0 ≤ x ∧ x ≤ 160000000
theorem qiy {r : Int} {s : S3} {b : List Int} (F : StF r s.1 s.2.1 s.2.2 b) : Prf r (prS s) :=
  ⟨by have := qi0 s.1 s.2.1 r 0 F.mesh F.ml; show ((prof s.1 s.2.1).length : Int) = _; omega, qiz s.1 s.2.1 (fun i => qfo.2 (qh7 _ _ _ F.mesh i)) (fun x hx => by have := (qhv s.2.1 s.2.2 (by rw [F.ml, F.tl]) F.mt).1 x hx; omega)⟩
def dst (a b : S3) : Int := isum (gaps (prS a) (prS b))
theorem qc7 {r : Int} {a b : S3} (A : Prf r (prS a)) (B : Prf r (prS b)) (hr : 1 ≤ r ∧ r ≤ 8) : 0 ≤ dst a b ∧ dst a b ≤ 20480000000 := by
  have g := qfh (prS a) (prS b) A.at_ B.at_
  have gl := qfi (prS a) (prS b) (by have := A.len; have := B.len; omega)
  have l := A.len
  have u := qfv (gaps (prS a) (prS b)) 160000000 (fun q hq => (g _ (qfj hq 0)).2)
  exact ⟨qfw (fun x hx => (g x hx).1), by show isum _ ≤ _; omega⟩
theorem qaq (k : Nat) (hk : 2000000 ≤ k) (r : Int) (s t : S3) (b : List Int) (F : StF r s.1 s.2.1 s.2.2 b) (G : StF r t.1 t.2.1 t.2.2 b) :
    go (k + 11) impl_DistanceOf [.agg [.int .i64 (r), .arr false (false) (.r3 (s.1)), .arr false (false) (.ints .i64 (s.2.1)), .arr false (false) (.ints .i64 (s.2.2)), .arr false (false) (.ints .i64 (b))], .agg [.int .i64 (r), .arr false (false) (.r3 (t.1)), .arr false (false) (.ints .i64 (t.2.1)), .arr false (false) (.ints .i64 (t.2.2)), .arr false (false) (.ints .i64 (b))]] = some [.int .i64 (dst s t)] := by
  have := F.len; have := G.len; have := F.bl; have := F.rr
  have e := qap k hk r false s.1 false s.2.1 false s.2.2 false b r false t.1 false t.2.1 false t.2.2 false b (by omega) (by omega) (by omega) (by omega)
  rw [show ask r s.1 s.2.1 s.2.2 b r t.1 t.2.1 t.2.2 b = true by unfold ask; rw [stF.2 F, stF.2 G, dT rfl]; rfl, qcv] at e
  exact e
theorem qa5 (k : Nat) (hk : 2000000 ≤ k) (r : Int) (s : S3) (b : List Int) (F : StF r s.1 s.2.1 s.2.2 b) (L : Int) (hL : 0 ≤ L ∧ L ≤ 4) :
    go (k + 10) impl_UniformOf [.agg [.int .i64 (r), .arr false (false) (.r3 (s.1)), .arr false (false) (.ints .i64 (s.2.1)), .arr false (false) (.ints .i64 (s.2.2)), .arr false (false) (.ints .i64 (b))], .int .i64 L] = some [.agg [.int .i64 (r), .arr true (false) (.r3 ((rmp (unM r L) s).1)), .arr true (false) (.ints .i64 ((rmp (unM r L) s).2.1)), .arr true (false) (.ints .i64 ((rmp (unM r L) s).2.2)), .arr true (false) (.ints .i64 (b))], .bool true] := by
  have := F.len; have := F.bl; have := F.rr
  have e := qa4 k hk r s b L (by omega) (by omega)
  rw [show qlt r s b L = true by unfold qlt; rw [stF.2 F, qfo.2 hL]; rfl, qcv] at e
  exact e
end Go.Proofs.Ytfgccfajhedgdaa
end
section
namespace Go.Proofs.Ytfgccfajhedgdaa
open Go.Ev
def nr : List Cell → List Int → List Int → Prop
  | x :: l, y :: m, Z => (∀ z ∈ Z.take (ql6 x.2.1).toNat, z ≤ y * pow2 x.2.1 + pow2 x.2.1 - 1 ∧ y * pow2 x.2.1 ≤ z + pow2 x.2.1 - 1) ∧ nr l m (Z.drop (ql6 x.2.1).toNat)
  | _, _, _ => True
theorem wd {v : Int} (h : 0 ≤ v ∧ v < 4) : (ql6 v).toNat = (ql6 (v + 1)).toNat + (ql6 (v + 1)).toNat ∧ pow2 (v + 1) = 2 * pow2 v ∧ 1 ≤ pow2 v := by
  obtain h | h | h | h : v = 0 ∨ v = 1 ∨ v = 2 ∨ v = 3 := by omega
  all_goals subst h; decide
theorem qih : ∀ (l : List Cell) (m : List Int), (∀ x ∈ l, inR x.2.1 0 4 = true) → nr l m (prof l m)
  | [], m, h => by unfold nr; trivial
  | x :: l, [], h => by unfold nr; trivial
  | x :: l, y :: m, h => by
    have p := qix (h x (by simp))
    unfold nr prof
    refine ⟨fun z hz => ?_, ?_⟩
    · rw [List.take_append_of_le_length (by simp), List.take_of_length_le (by simp)] at hz
      have := List.eq_of_mem_replicate hz
      omega
    · rw [List.drop_append_of_le_length (by simp), List.drop_of_length_le (by simp), List.nil_append]
      exact qih l m (fun z hz => h z (by simp [hz]))
theorem qif {y c P z : Int} (hP : 1 ≤ P) (h1 : y - 1 ≤ 2 * c) (h2 : 2 * c ≤ y + 1) (a : z ≤ y * P + P - 1 ∧ y * P ≤ z + P - 1) : z ≤ c * (2 * P) + 2 * P - 1 ∧ c * (2 * P) ≤ z + 2 * P - 1 := by
  have e : c * (2 * P) = (2 * c) * P := by rw [← Int.mul_assoc, Int.mul_comm c 2]
  have i1 : (y - 1) * P ≤ (2 * c) * P := Int.mul_le_mul_of_nonneg_right h1 (by omega)
  have i2 : (2 * c) * P ≤ (y + 1) * P := Int.mul_le_mul_of_nonneg_right h2 (by omega)
  rw [Int.sub_mul, Int.one_mul] at i1
  rw [Int.add_mul, Int.one_mul] at i2
  rw [e]; omega
theorem qig : ∀ (l : List Cell) (m Z : List Int) (i : Nat), i < l.length → m.length = l.length → (∀ y ∈ m, 0 ≤ y) → 0 ≤ qgp l i → qgp l i < 4 → nr l m Z → nr (qkx l i) (rfM m i) Z
  | [], m, Z, i, hi, _, _, _, _, _ => by simp at hi
  | x :: l, [], Z, i, hi, hm, _, _, _, _ => by simp at hm
  | x :: l, y :: m, Z, 0, hi, hm, hy, h0, h1, h => by
    have w := wd (v := x.2.1) ⟨h0, h1⟩
    have q := hAB (hy y (by simp))
    unfold nr at h
    rw [w.1, List.take_add, ← List.drop_drop] at h
    show nr (ch0 x :: ch1 x :: l) (hA y :: hB y :: m) Z
    unfold nr
    refine ⟨fun z hz => ?_, ?_⟩
    · have a := h.1 z (List.mem_append.2 (Or.inl hz))
      have := qif (c := hA y) w.2.2 (by show y - 1 ≤ 2 * (y - y / 2); omega) (by show 2 * (y - y / 2) ≤ y + 1; omega) a
      show z ≤ hA y * pow2 (x.2.1 + 1) + pow2 (x.2.1 + 1) - 1 ∧ hA y * pow2 (x.2.1 + 1) ≤ z + pow2 (x.2.1 + 1) - 1
      rw [w.2.1]; exact this
    · unfold nr
      refine ⟨fun z hz => ?_, h.2⟩
      have a := h.1 z (List.mem_append.2 (Or.inr hz))
      have := qif (c := hB y) w.2.2 (by show y - 1 ≤ 2 * (y / 2); omega) (by show 2 * (y / 2) ≤ y + 1; omega) a
      show z ≤ hB y * pow2 (x.2.1 + 1) + pow2 (x.2.1 + 1) - 1 ∧ hB y * pow2 (x.2.1 + 1) ≤ z + pow2 (x.2.1 + 1) - 1
      rw [w.2.1]; exact this
  | x :: l, y :: m, Z, i + 1, hi, hm, hy, h0, h1, h => by
    unfold nr at h
    show nr (x :: qkx l i) (y :: rfM m i) Z
    unfold nr
    exact ⟨h.1, qig l m _ i (by simpa using hi) (by simpa using hm) (fun z hz => hy z (by simp [hz])) (by simpa [qgp] using h0) (by simpa [qgp] using h1) h.2⟩
theorem qie : ∀ (l : List Cell) (m Z : List Int), (∀ x ∈ l, x.2.1 = 4) → nr l m Z → isum (gaps Z (prof l m)) ≤ 15 * (prof l m).length
  | [], m, Z, _, _ => by
    have : gaps Z (prof [] m) = [] := by cases Z <;> rfl
    rw [this]; simp [prof, isum]
  | x :: l, [], Z, _, _ => by
    have : gaps Z (prof (x :: l) []) = [] := by cases Z <;> rfl
    rw [this]; simp [prof, isum]
  | x :: l, y :: m, [], _, _ => by
    have : gaps [] (prof (x :: l) (y :: m)) = [] := by unfold gaps; rfl
    rw [this]; simp only [isum]; omega
  | x :: l, y :: m, z :: Z, hl, h => by
    have e : x.2.1 = 4 := hl x (by simp)
    unfold nr at h
    rw [e, show (ql6 4).toNat = 1 by decide, show pow2 4 = 16 by decide] at h
    have IH := qie l m Z (fun z hz => hl z (by simp [hz])) h.2
    have a := h.1 z (by simp)
    have pe : prof (x :: l) (y :: m) = (y * 16) :: prof l m := by
      rw [prof, e, show (ql6 4).toNat = 1 by decide, show pow2 4 = 16 by decide]; rfl
    rw [pe]
    simp only [gaps, isum, List.length_cons]
    have g : gap z (y * 16) ≤ 15 := by unfold gap; split <;> omega
    omega
end Go.Proofs.Ytfgccfajhedgdaa
end
section
namespace Go.Proofs.Ytfgccfajhedgdaa
open Go.Ev
theorem qjx (r L : Int) : ∀ (n : Nat) (x : Cell), x ∈ rowN r L n → x.2.1 = L
  | 0, x, h => by simp [rowN] at h
  | n + 1, x, h => by
    rw [rowN, List.mem_append] at h
    rcases h with h | h
    · exact qjx r L n x h
    · rw [List.mem_singleton.1 h]
theorem qlx (L : Int) (w : Nat) : ∀ (n : Nat) (x : Cell), x ∈ uni L w n → x.2.1 = L
  | 0, x, h => by simp [uni] at h
  | n + 1, x, h => by
    rw [uni, List.mem_append] at h
    rcases h with h | h
    · exact qlx L w n x h
    · exact qjx _ L w x h
theorem qjr {r : Int} {s : S3} {b Z : List Int} (U : StU r s b) {m : List Cell} (hm : qh1 r 0 m = true) (h4 : ∀ x ∈ m, x.2.1 = 4) (h : ¬ qk5 m s.1 < 0) (hz : nr s.1 s.2.1 Z) : nr (rmS m s).1 (rmS m s).2.1 Z := by
  have T := qlm U hm
  obtain ⟨i, C, ⟨_, _, hl, e⟩ | ⟨k, j, _, hk, ck, _, _, _, _, e⟩⟩ := qjp U hm h
  · rw [e]
    have lv := (qfm.1 (U.id C.hi)).2.1
    have mm := (qhv s.2.1 s.2.2 (by rw [U.ml, U.tl]) U.mt).1
    exact qig s.1 s.2.1 Z i C.hi U.ml (fun y hy => by have := mm y hy; omega) (by show 0 ≤ (s.1.getD i zz3).2.1; omega) hl hz
  · exfalso
    have ix := qio T.l C.hi
    have ik := qio T.m hk
    have c := (qcy ik ix).1 ck
    have l4 := h4 _ (qfj hk zz3)
    have lx := (qfm.1 ix).2.1
    have w : cwd (m.getD k zz3) = 1 := by show ql6 (m.getD k zz3).2.1 = 1; rw [l4]; decide
    exact C.nm (qko ik ix (by omega) (by omega) ▸ qfj hk zz3)
theorem qjo {r : Int} {b Z : List Int} {M S : Int} {m : List Cell} (hm : qh1 r 0 m = true) (h4 : ∀ x ∈ m, x.2.1 = 4) : ∀ (n : Nat) (s : S3), StV r s b M S → nr s.1 s.2.1 Z → nr (rmN m n s).1 (rmN m n s).2.1 Z
  | 0, s, V, h => h
  | n + 1, s, V, h => by
    unfold rmN
    by_cases g : qk5 m s.1 < 0
    · rw [if_pos g]; exact h
    · rw [if_neg g]
      exact qjo hm h4 n _ (rm_V V hm g) (qjr V.u hm h4 g h)
theorem qly {r : Int} {s : S3} {b : List Int} (F : StF r s.1 s.2.1 s.2.2 b) (hr : 1 ≤ r ∧ r ≤ 8) :
    isum (gaps (prof s.1 s.2.1) (prof (rmp (unM r 4) s).1 (rmp (unM r 4) s).2.1)) ≤ 15 * 16 * r := by
  have U := qlp hr (L := 4) (by omega)
  have R := qjs F U.1 U.2
  have h4 : ∀ x ∈ unM r 4, x.2.1 = 4 := fun x hx => qlx _ _ _ x hx
  have V : StV r s b (isum s.2.1) (isum s.2.2) := ⟨F.toU, rfl, rfl⟩
  have n0 := qih s.1 s.2.1 (fun x hx => by
    obtain ⟨j, hj, e⟩ := qhx hx
    rw [← e]; exact qfo.2 (qfm.1 (V.u.id hj)).2.1)
  have n1 := qjo U.1 h4 513 s V n0
  have e := qie (rmp (unM r 4) s).1 (rmp (unM r 4) s).2.1 _ (fun x hx => h4 x (by rw [R.2.1] at hx; exact hx)) n1
  have l := qi0 (rmp (unM r 4) s).1 (rmp (unM r 4) s).2.1 r 0 R.1.mesh R.1.ml
  omega
theorem qlu {r : Int} {s : S3} {b : List Int} (F : StF r s.1 s.2.1 s.2.2 b) (hr : 1 ≤ r ∧ r ≤ 8) : (((rmp (unM r 0) s).2.1).length : Int) = r := by
  have U := qlp hr (L := 0) (by omega)
  have R := qjs F U.1 U.2
  have e : (unM r 0).length = r.toNat * 1 := qlw 0 1 r.toNat
  have := R.1.ml
  rw [R.2.1, e] at this
  omega
end Go.Proofs.Ytfgccfajhedgdaa
end
section
namespace Go.Proofs.Ytfgccfajhedgdaa
open Go.Ev
set_option maxRecDepth 20000
theorem qbz (k : Nat) (hk : 2000000 ≤ k) (r : Int) (l : List Cell) (m t b : List Int) (F : StF r l m t b) : go (k + 8) spec_TotalMass [.agg [.int .i64 (r), .arr false (false) (.r3 (l)), .arr false (false) (.ints .i64 (m)), .arr false (false) (.ints .i64 (t)), .arr false (false) (.ints .i64 (b))]] = some [.int .i64 (isum m)] := by
  rw [qer]
  have := F.len; have := F.ml; have := F.tl; have := F.rr; have := F.bl
  have g := stF.2 F
  have eS := qce (k + 6) (by omega) false m (by omega) F.mmem
  simp (disch := omega) only [qby, g, bit, eS, qak, nth0, qlk, qlj, Bool.not_true, qct]
set_option maxHeartbeats 1000000 in
theorem law_FnUniform (k : Nat) (hk : 2000000 ≤ k) (az : Bool) (a : List Int) : go (k + 13) laws_FnUniform [(.arr false (az) (.ints IntKind.u8 (a)))] = some [.bool true] := by
  by_cases h : 1048576 < (a.length : Int)
  · rw [qd9]; simp (disch := omega) only [qbm, dT, bit, nI, qak, nth0, qlj, qcv]
  have h : (a.length : Int) ≤ 1048576 := by omega
  obtain ⟨r, l, m, t, b, eD, F, hr⟩ := qbt k (by omega) az a h
  obtain ⟨s, rfl, rfl, rfl⟩ : ∃ s : S3, s.1 = l ∧ s.2.1 = m ∧ s.2.2 = t := ⟨(l, m, t), rfl, rfl, rfl⟩
  have rr := F.rr
  have U4 := qlp rr (L := 4) (by omega)
  have U0 := qlp rr (L := 0) (by omega)
  have R4 := qjs F U4.1 U4.2
  have R0 := qjs F U0.1 U0.2
  have e4 := qa5 (k + 2) (by omega) r s b F 4 (by omega)
  have e0 := qa5 (k + 2) (by omega) r s b F 0 (by omega)
  have near := qly F rr
  have len0 := qlu F rr
  obtain ⟨A, hA⟩ : ∃ A, A = rmp (unM r 4) s := ⟨_, rfl⟩
  obtain ⟨B, hB⟩ : ∃ B, B = rmp (unM r 0) s := ⟨_, rfl⟩
  rw [← hA] at R4 e4 near
  rw [← hB] at R0 e0 len0
  have FA := R4.1; have FB := R0.1
  have d1 := qaq (k + 1) (by omega) r s A b F FA
  have b1 := qc7 (qiy F) (qiy FA) rr
  have near' : dst s A ≤ 15 * 16 * r := near
  have m0 := qbz (k + 4) (by omega) r s.1 s.2.1 s.2.2 b F
  have m1 := qbz (k + 4) (by omega) r A.1 A.2.1 A.2.2 b FA
  have m2 := qbz (k + 4) (by omega) r B.1 B.2.1 B.2.2 b FB
  rw [R4.2.2.1] at m1
  rw [R0.2.2.1] at m2
  obtain ⟨v1, hv1⟩ : ∃ v, v = dst s A := ⟨_, rfl⟩
  rw [← hv1] at d1 b1 near'
  rw [qd9]
  simp (disch := omega) only [qbm, dF, bit, eD, nI, qak, nth0, qch, qlk, qci, qib, qi4, qcj, qfp, qck, qcl, e4, e0, qmc, m0, nth1, qlj, dT, m2, dTT, qcv, d1, m1, qct]
end Go.Proofs.Ytfgccfajhedgdaa
end
